/- Texts laid together. -/
import Derived.Test.YtkmdjmbjopklkaaDoorWMore
import Derived.ChangeArms
import Derived.Deep.Slices
import Derived.Lib.SmallJoins
import Derived.Test.YtkmdjmbjopklkaaDoorZDraw
import Derived.Test.YtkmdjmbjopklkaaDoorFDigits
import Derived.Test.YtkmdjmbjopklkaaDoorFSplit
import Derived.Test.YtkmdjmbjopklkaaDoorPx67
import Derived.Test.YtkmdjmbjopklkaaDoorPx64
import Derived.Test.YtkmdjmbjopklkaaDoorCards
import Derived.Test.YtkmdjmbjopklkaaDoorTie
import Derived.WalkKit
import Derived.ProofKit
import Derived.OpenShut
import Derived.Deep.DeepHandedRow
import Derived.Lib.LaidTab
import Derived.LaidSub
import Derived.Stop.LaidErr
import Derived.ShutString
import Derived.ChangeOld
import Derived.Below
/- How what comes in (whole numbers, texts, lists and records of these, in whatever memory) reads as plain values: for the rows of laws; no condition. -/
namespace Go.Proofs.YtkmdjmbjopklkaaDoorW.PrintWords
open Go.RowKit Go.Joins
/-- Whatever reads as data of type t is a value of the kind d, and a good one. -/
def Opens {α : Type} (P : Program) (W : World) (t : TypeId) (d : Kd α) (good : α → Prop) : Prop :=
  ∀ (H : Type) (enc : TypeId × Value → H) (base : Nat) (spare : Nat → Bool) (held : Bool) (fuel : Nat) (cs : List Value) (x : DataW H × List MemPlace),
    DataW.trod enc P W base spare held fuel t cs = some x → ∃ y, d.K W y cs ∧ good y
section
variable {P : Program} {W : World} {t : TypeId}
theorem opens_int {k : IntKind} (ht : P.underlying t = some (.int k)) : Opens P W t (Kd.int k) (fun x => (Lit.int k x).wf = true) := by
  intro H enc base spare held fuel cs x h
  obtain ⟨n, rfl, _, hw⟩ := DataW.trod_int ht h
  exact ⟨n, rfl, hw⟩
theorem opens_string (ht : P.underlying t = some .string) : Opens P W t Kd.string (fun s => s.size ≤ maxLen) := by
  intro H enc base spare held fuel cs x h
  obtain ⟨s, rfl, _, hw⟩ := DataW.trod_string ht h
  exact ⟨s, rfl, hw⟩
theorem list_of {α : Type} {p : Nat → α → Prop} : ∀ n : Nat, (∀ i, i < n → ∃ y, p i y) → ∃ ys : List α, ys.length = n ∧ ∀ i y, ys[i]? = some y → p i y
  | 0, _ => ⟨[], rfl, fun i y h => by simp at h⟩
  | n + 1, h => by
    obtain ⟨ys, hl, hy⟩ := list_of n (fun i hi => h i (by omega))
    obtain ⟨z, hz⟩ := h n (by omega)
    refine ⟨ys ++ [z], by simp [hl], fun i y hi => ?_⟩
    by_cases hlt : i < ys.length
    · rw [List.getElem?_append_left hlt] at hi
      exact hy i y hi
    · rw [List.getElem?_append_right (by omega)] at hi
      have h0 : i - ys.length = 0 := by
        rcases Nat.eq_zero_or_pos (i - ys.length) with h0 | h0
        · exact h0
        · rw [List.getElem?_eq_none (by simp; omega)] at hi
          cases hi
      rw [h0] at hi
      have hin : i = n := by omega
      rw [hin]
      simp at hi
      rw [← hi]
      exact hz
theorem opens_slice {α : Type} {d : Kd α} {good : α → Prop} {e : TypeId} (e1 : Nat) (ht : P.underlying t = some (.slice e)) (hc : P.cellsOf e = d.sz) (hd : Opens P W e d good) :
    Opens P W t (Kd.slice e1 d) (fun xs => xs.length ≤ maxLen ∧ ∀ x ∈ xs, good x) := by
  intro H enc base spare held fuel cs x h
  rcases Deep.open_slice ht h with ⟨rfl, _⟩ | ⟨a, len, cap, m, n, D, Pl, rfl, _, hl, hm, hmm, _, hel⟩
  · exact ⟨[], ⟨none, 0, rfl, Nat.le_refl _, rfl, Nat.zero_le _, fun h => absurd h (by simp)⟩, Nat.zero_le _, fun x hx => by simp at hx⟩
  · have hlm : len ≤ m := by rw [hmm]; split <;> omega
    obtain ⟨ys, hyl, hy⟩ := list_of (p := fun i y => good y ∧ ∃ c, c.length = d.sz ∧ d.K W y c ∧ ∀ j u, c[j]? = some u → W.cell? (a.add (i * d.sz + j)) = some u) len (fun i hi => by
      obtain ⟨cs1, h1, h2⟩ := hel i (by omega)
      obtain ⟨y, hK, hg⟩ := hd H enc base spare held n cs1 _ h2
      obtain ⟨hb1, hlen, hcell⟩ := World.cells?_some h1
      refine ⟨y, hg, cs1, by rw [hlen, hc], hK, fun j u hu => ?_⟩
      have hj : j < cs1.length := (List.getElem?_eq_some_iff.1 hu).1
      have h3 := hcell j (by omega)
      rw [hc, Addr.add_add] at h3
      rw [h3, hu])
    refine ⟨ys, ⟨some a, cap, by rw [hyl], by rw [hyl]; exact hl, rfl, ?_, fun _ => ⟨a, rfl, fun j p hp => (hy j p hp).2⟩⟩, ?_, fun x hx => ?_⟩
    · have := hm; unfold maxLen at this; omega
    · have := hm; omega
    · obtain ⟨i, hi, rfl⟩ := List.mem_iff_getElem.1 hx
      exact (hy i _ (List.getElem?_eq_getElem hi)).1
/-- A record's cells, one by one, where each field has one cell. -/
theorem opens_fields {fs : Array Field} {H : Type} {enc : TypeId × Value → H} {base : Nat} {spare : Nat → Bool} {held : Bool} {fuel : Nat} {cs : List Value} {x : DataW H × List MemPlace}
    (ht : P.underlying t = some (.struct fs)) (hn : P.cellsOf t = fs.size) (hone : ∀ (i : Nat) (f : Field), fs[i]? = some f → f.offset = i ∧ P.cellsOf f.type = 1) (h : DataW.trod enc P W base spare held fuel t cs = some x) :
    cs.length = fs.size ∧ ∃ n, ∀ (i : Nat) (f : Field), fs[i]? = some f → ∃ u y, cs[i]? = some u ∧ DataW.trod enc P W base spare held n f.type [u] = some y := by
  obtain ⟨xs, n, _, _, hl, hlen, hf⟩ := DataW.trod_struct ht h
  have hcl : cs.length = fs.size := by rw [hl, hn]
  refine ⟨hcl, n, fun i f hi => ?_⟩
  have hlt : i < fs.size := (Array.getElem?_eq_some_iff.1 hi).1
  obtain ⟨h1, h2⟩ := hone i f hi
  have h3 := hf i f hi
  rw [h1, h2, List.drop_eq_getElem_cons (show i < cs.length by omega), List.take_succ_cons, List.take_zero, List.getElem?_eq_getElem (show i < xs.length by omega)] at h3
  exact ⟨cs[i], _, List.getElem?_eq_getElem (by omega), h3⟩
end
end Go.Proofs.YtkmdjmbjopklkaaDoorW.PrintWords

/- FnNumbers: of every run of bytes the law answers true. -/
namespace Go.Proofs.YtkmdjmbjopklkaaDoor.B
open Go.RowKit Go.Proofs.YtkmdjmbjopklkaaDoor.P Go.Proofs.YtkmdjmbjopklkaaDoorW.PrintWords Go.Proofs.YtkmdjmbjopklkaaDoorW.PrintLast Go.Proofs.YtkmdjmbjopklkaaDoorW.PrintMore
theorem pickS (d : List Int) (p s : Int) (l : List ByteArray) (hl : 0 < l.length) (hd : d.length ≤ 1099511627776) (hp : 0 ≤ p) : ∃ v p' s', spec_l1Pick.f d p s l = some (v, p', s') ∧ v ∈ l ∧ 0 ≤ p' := by
  obtain ⟨v, p', s', e, h0, h1, h2⟩ := belowD d p s (l.length : Int) hd hp
  have hv := h1 (by omega)
  refine ⟨rdOf ByteArray.empty l v, p', s', ?_, ?_, h2⟩
  · unfold spec_l1Pick.f
    rw [e, Option.bind_some, if_pos h0, if_pos hv]
  · unfold rdOf
    rw [List.getD_eq_getElem?_getD, List.getElem?_eq_getElem (show v.toNat < l.length by omega)]
    exact List.getElem_mem _
def tailJ (c : UInt8) : List (List UInt8) → List UInt8
  | [] => []
  | x :: r => c :: (x ++ tailJ c r)
theorem spl_join (c : UInt8) : ∀ (l cur : List UInt8), ∃ x r, spl c cur l = x :: r ∧ x ++ tailJ c r = cur ++ l
  | [], cur => ⟨cur, [], rfl, rfl⟩
  | b :: l, cur => by
    by_cases h : b = c
    · obtain ⟨x, r, e1, e2⟩ := spl_join c l []
      refine ⟨cur, x :: r, by simp only [spl, if_pos h, e1], ?_⟩
      simp only [tailJ, e2, List.nil_append, h]
    · obtain ⟨x, r, e1, e2⟩ := spl_join c l (cur ++ [b])
      exact ⟨x, r, by simp only [spl, if_neg h, e1], by rw [e2]; simp⟩
theorem ba_app (a b : List UInt8) : ba a ++ ba b = ba (a ++ b) := by
  apply ByteArray.ext
  rw [ByteArray.data_append]
  apply Array.toList_inj.1
  simp [ba]
theorem ba_one (c : UInt8) : strOfNums [(c.toNat : Int)] = ba [c] := by
  apply ByteArray.ext
  apply Array.toList_inj.1
  simp [strOfNums, ba]
theorem rdOf_ba (pre : List (List UInt8)) (x : List UInt8) (rest : List (List UInt8)) : rdOf ByteArray.empty ((pre ++ x :: rest).map ba) (pre.length : Int) = ba x := by
  unfold rdOf; simp [List.getD_eq_getElem?_getD]
theorem loopT (c : UInt8) (s : List UInt8) (hs : s.length ≤ 1000) (parts : List (List UInt8)) (hp : parts.length ≤ 1000) (hsp : Ev (fun k => spec_Split.f k (ba s) (c.toNat : Int)) (parts.map ba)) :
    ∀ (rest pre : List (List UInt8)) (acc : List UInt8), parts = pre ++ rest → pre ≠ [] → acc ++ tailJ c rest = s → Ev (fun k => laws_FnNumbers.l0 k (ba s) (c.toNat : Int) (parts.map ba) (ba acc) (pre.length : Nat)) true
  | [], pre, acc, e, hne, hj => by
    have hn : (pre.length : Int) = ((parts.map ba).length : Int) := by rw [e]; simp
    refine evUp ?_
    simp only [laws_FnNumbers.l0]
    refine evNeg (by omega) ?_
    have hj2 : acc = s := by simpa [tailJ] using hj
    rw [hj2]
    refine evPos rfl (evBind hsp ?_)
    simp only [beq_self_eq_true]
    exact evConst _
  | x :: rest, pre, acc, e, hne, hj => by
    have hn : ((parts.map ba).length : Int) = (pre.length : Int) + ((rest.length : Int) + 1) := by rw [e]; simp
    have hpl : 0 < pre.length := List.length_pos_iff.2 hne
    have hl : parts.length = pre.length + (rest.length + 1) := by rw [e]; simp
    have hlen : acc.length + 1 + x.length ≤ 1000 := by
      have := congrArg List.length hj
      simp [tailJ] at this
      omega
    have hr : rdOf ByteArray.empty (parts.map ba) (pre.length : Int) = ba x := by rw [e]; exact rdOf_ba pre x rest
    have ih := loopT c s hs parts hp hsp rest (pre ++ [x]) (acc ++ (c :: x)) (by rw [e]; simp) (by simp) (by rw [← hj]; simp [tailJ])
    refine evUp ?_
    simp only [laws_FnNumbers.l0]
    refine evPos (by omega) (evPos (by omega) (evBind (a := [(c.toNat : Int)]) (evConst _) ?_))
    rw [ba_one, hr, ba_app, ba_app]
    refine evPos (by rw [ba_size, ba_size]; simp; omega) (evPos (by omega) (evPos (by rw [ba_size, ba_size]; simp; omega) ?_))
    rw [wrap_step pre x (by omega)]
    rw [show acc ++ [c] ++ x = acc ++ (c :: x) from by simp]
    exact ih
theorem loopS (c : UInt8) (s : List UInt8) (hs : s.length ≤ 900) (hp : (spl c [] s).length ≤ 1000) : Ev (fun k => laws_FnNumbers.j0 k (ba s) (c.toNat : Int) ((spl c [] s).map ba) false) true := by
  have hsp : Ev (fun k => spec_Split.f k (ba s) (c.toNat : Int)) ((spl c [] s).map ba) := by
    have h := specSplit (ba s) c (by rw [ba_size]; omega)
    rw [splitB_spl] at h
    exact h
  obtain ⟨x, r, e1, e2⟩ := spl_join c s []
  have hxl : x.length ≤ 1000 := by
    have := congrArg List.length e2
    simp at this
    omega
  refine evUp ?_
  simp only [laws_FnNumbers.j0]
  refine evNeg Bool.false_ne_true (evUp ?_)
  simp only [laws_FnNumbers.l0]
  have hn : ((((spl c [] s).map ba).length : Nat) : Int) = (r.length : Int) + 1 := by rw [e1]; simp
  have hr : rdOf ByteArray.empty ((spl c [] s).map ba) 0 = ba x := by rw [e1]; exact rdOf_ba [] x r
  refine evPos (by omega) (evNeg (by omega) (evPos (by omega) ?_))
  rw [hr]
  have e0 : (⟨#[]⟩ : ByteArray) ++ ba x = ba x := ba_app [] x
  have ez : (⟨#[]⟩ : ByteArray).size = 0 := rfl
  refine evPos (by rw [ez, ba_size]; omega) ?_
  rw [e0, show wrap64 (0 + 1) = (([x] : List (List UInt8)).length : Int) from by rw [wrap_eq _ (by omega) (by omega)]; rfl]
  exact loopT c s (by omega) (spl c [] s) hp hsp r [x] x (by rw [e1]; rfl) (by simp) (by simpa using e2)
end Go.Proofs.YtkmdjmbjopklkaaDoor.B

/- FnNumbers: the pure law. -/
namespace Go.Proofs.YtkmdjmbjopklkaaDoor.Pure
open Go.RowKit Go.Proofs.YtkmdjmbjopklkaaDoor.P Go.Proofs.YtkmdjmbjopklkaaDoor.B Go.Proofs.YtkmdjmbjopklkaaDoorW.PrintWords Go.Proofs.YtkmdjmbjopklkaaDoorW.PrintLast Go.Proofs.YtkmdjmbjopklkaaDoorW.PrintMore
theorem i0 : Lib.itoa 0 = [48] := by unfold Lib.itoa; rw [if_neg (by omega), Lib.decDigits, dif_pos (by decide)]; rfl
theorem i1 : Lib.itoa 1 = [49] := by unfold Lib.itoa; rw [if_neg (by omega), Lib.decDigits, dif_pos (by decide)]; rfl
theorem i7 : Lib.itoa 7 = [55] := by unfold Lib.itoa; rw [if_neg (by omega), Lib.decDigits, dif_pos (by decide)]; rfl
theorem i9 : Lib.itoa 999999 = [57, 57, 57, 57, 57, 57] := by
  unfold Lib.itoa
  rw [if_neg (by omega)]
  rw [Lib.decDigits, dif_neg (by decide), Lib.decDigits, dif_neg (by decide), Lib.decDigits, dif_neg (by decide), Lib.decDigits, dif_neg (by decide), Lib.decDigits, dif_neg (by decide), Lib.decDigits, dif_pos (by decide)]
  rfl
/-- What the two readers of a number say of a text that is drawn. -/
def NumOk (t : ByteArray) : Prop := ∃ v b, impl_Number.f t = some (v, b) ∧ Ev (fun k => spec_Number.f k t) (v, b) ∧ (b = true → impl_Digits.f v = some t)
theorem digits_some (v : Int) (h0 : -9223372036854775808 ≤ v) (h1 : v ≤ 9223372036854775807) : impl_Digits.f v = some ⟨(Lib.itoa v).toArray⟩ := by
  unfold impl_Digits.f
  rw [if_pos ⟨h0, h1⟩]
theorem num_yes (v : Int) (l : List UInt8) (hv : 0 ≤ v ∧ v ≤ 999999) (hi : Lib.itoa v = l) (ha : Lib.atoi l = some v) (hl : l.length ≤ 18) : impl_Number.f (ba l) = some (v, true) := by
  unfold impl_Number.f
  have e : (ba l).data.toList = l := by simp [ba]
  rw [if_pos (by rw [ba_size]; exact hl), e, ha]
  simp only
  rw [if_pos hv, if_pos (by rw [hi]; rfl)]
theorem num_no (l : List UInt8) (ha : Lib.atoi l = none) (hl : l.length ≤ 18) : impl_Number.f (ba l) = some (0, false) := by
  unfold impl_Number.f
  have e : (ba l).data.toList = l := by simp [ba]
  rw [if_pos (by rw [ba_size]; exact hl), e, ha]
theorem num_out (v : Int) (l : List UInt8) (hv : ¬ (0 ≤ v ∧ v ≤ 999999)) (ha : Lib.atoi l = some v) (hl : l.length ≤ 18) : impl_Number.f (ba l) = some (0, false) := by
  unfold impl_Number.f
  have e : (ba l).data.toList = l := by simp [ba]
  rw [if_pos (by rw [ba_size]; exact hl), e, ha]
  simp only
  rw [if_neg hv]
theorem evN {t : ByteArray} {r : Int × Bool} (h : spec_Number.f 40 t = some r) : Ev (fun k => spec_Number.f k t) r := ⟨40, fun k hk => at_rounds (g := fun k => spec_Number.f k t) (fun k => spec_Number.mono t k) hk h⟩
theorem n0 : NumOk ⟨#[48]⟩ := ⟨0, true, num_yes 0 [48] (by omega) i0 rfl (by decide), evN (by kernel_rfl), fun _ => by rw [digits_some 0 (by omega) (by omega), i0]⟩
theorem n1 : NumOk ⟨#[55]⟩ := ⟨7, true, num_yes 7 [55] (by omega) i7 rfl (by decide), evN (by kernel_rfl), fun _ => by rw [digits_some 7 (by omega) (by omega), i7]⟩
theorem n2 : NumOk ⟨#[57, 57, 57, 57, 57, 57]⟩ := ⟨999999, true, num_yes 999999 [57, 57, 57, 57, 57, 57] (by omega) i9 rfl (by decide), evN (by kernel_rfl), fun _ => by rw [digits_some 999999 (by omega) (by omega), i9]⟩
theorem n3 : NumOk ⟨#[49, 48, 48, 48, 48, 48, 48]⟩ := ⟨0, false, num_out 1000000 [49, 48, 48, 48, 48, 48, 48] (by omega) rfl (by decide), evN (by kernel_rfl), fun h => by cases h⟩
theorem n4 : NumOk ⟨#[48, 49]⟩ := by
  refine ⟨0, false, ?_, evN (by kernel_rfl), fun h => by cases h⟩
  have e : Lib.atoi (⟨#[48, 49]⟩ : ByteArray).data.toList = some 1 := rfl
  unfold impl_Number.f
  rw [if_pos (by decide), e]
  simp only
  rw [if_pos (by omega), i1, if_neg (by intro h; exact absurd (congrArg ByteArray.size h) (by decide)), if_pos (by kernel_rfl)]
theorem n5 : NumOk ⟨#[]⟩ := ⟨0, false, num_no [] rfl (by decide), evN (by kernel_rfl), fun h => by cases h⟩
theorem n6 : NumOk ⟨#[45, 49]⟩ := ⟨0, false, num_out (-1) [45, 49] (by omega) rfl (by decide), evN (by kernel_rfl), fun h => by cases h⟩
theorem n7 : NumOk ⟨#[120]⟩ := ⟨0, false, num_no [120] rfl (by decide), evN (by kernel_rfl), fun h => by cases h⟩
theorem n8 : NumOk ⟨#[49, 50, 97]⟩ := ⟨0, false, num_no [49, 50, 97] rfl (by decide), evN (by kernel_rfl), fun h => by cases h⟩
theorem joined (s : List UInt8) (hs : s.length ≤ 900) (v : Int) (hv : v = 44 ∨ v = 47) : ∃ parts, impl_Split.f (ba s) v = some parts ∧ Ev (fun k => laws_FnNumbers.j0 k (ba s) v parts false) true := by
  obtain ⟨c, hc⟩ : ∃ c : UInt8, c = UInt8.ofNat v.toNat := ⟨_, rfl⟩
  have hcv : v = (c.toNat : Int) := by rw [hc]; rcases hv with rfl | rfl <;> rfl
  have hp : (spl c [] s).length ≤ 1000 := by
    have h := congrArg List.length (splitB_spl c s)
    have h1 := Lib.splitB_length_le (ba [c]) 0 (Lib.countB (ba s) (ba [c])) (ba s)
    have h2 := Lib.countB_le (ba [c]) (by rw [ba_size]; exact Nat.le_refl _) (ba s).size (ba s) (Nat.le_refl _)
    rw [ba_size] at h2
    rw [List.length_map] at h
    omega
  refine ⟨(spl c [] s).map ba, ?_, ?_⟩
  · unfold impl_Split.f
    rw [if_pos ⟨by rw [ba_size]; omega, by omega, by omega⟩, ← hc, splitB_spl]
  · rw [hcv]
    exact loopS c s hs hp
theorem FnNumbersAll (l : List Int) : ∃ k, laws_FnNumbers.f k l = some true := by
  refine Ev.rounds ?_
  unfold laws_FnNumbers.f laws_big.f
  by_cases hb : (l.length : Int) > 1048576
  · refine evBind (a := true) ?_ (evPos rfl (evConst _))
    rw [decide_eq_true hb]
    exact evConst _
  refine evBind (a := false) (by rw [decide_eq_false hb]; exact evConst _) (evNeg Bool.false_ne_true ?_)
  have hl2 : l.length ≤ 1099511627776 := by omega
  obtain ⟨z, hz⟩ : ∃ z, Ev (fun k => spec_l1New.f k l) (l, 0, z) := by
    obtain ⟨z, hz⟩ := newD l (l.length + 1) hl2 (by omega)
    exact ⟨z, l.length + 1, fun k hk => at_rounds (g := fun k => spec_l1New.f k l) (fun k => spec_l1New.mono l k) hk hz⟩
  obtain ⟨d, p1, z1, e1, m1, _⟩ := pickD l 0 z [0, 7, -12, 100000, 9223372036854775807, -9223372036854775808] (by decide) hl2 (by omega)
  obtain ⟨t, p2, z2, e2, m2, _⟩ := pickS l 0 z [(⟨#[48]⟩ : ByteArray), (⟨#[55]⟩ : ByteArray), (⟨#[57, 57, 57, 57, 57, 57]⟩ : ByteArray), (⟨#[49, 48, 48, 48, 48, 48, 48]⟩ : ByteArray), (⟨#[48, 49]⟩ : ByteArray), (⟨#[]⟩ : ByteArray), (⟨#[45, 49]⟩ : ByteArray), (⟨#[120]⟩ : ByteArray), (⟨#[49, 50, 97]⟩ : ByteArray)] (by decide) hl2 (by omega)
  obtain ⟨s, p3, z3, e3, m3, h3⟩ := pickS l 0 z [(⟨#[]⟩ : ByteArray), (⟨#[97]⟩ : ByteArray), (⟨#[97, 44, 98]⟩ : ByteArray), (⟨#[44]⟩ : ByteArray), (⟨#[97, 44, 44, 98, 44]⟩ : ByteArray), (⟨#[97, 47, 98, 44, 99, 47]⟩ : ByteArray)] (by decide) hl2 (by omega)
  obtain ⟨v, p4, z4, e4, m4, _⟩ := pickD l p3 z3 [44, 47] (by decide) hl2 h3
  have hd : -9223372036854775808 ≤ d ∧ d ≤ 9223372036854775807 := by
    simp only [List.mem_cons, List.not_mem_nil, or_false] at m1
    omega
  have hv : v = 44 ∨ v = 47 := by simpa using m4
  have hnum : NumOk t := by
    simp only [List.mem_cons, List.not_mem_nil, or_false] at m2
    rcases m2 with rfl | rfl | rfl | rfl | rfl | rfl | rfl | rfl | rfl
    · exact n0
    · exact n1
    · exact n2
    · exact n3
    · exact n4
    · exact n5
    · exact n6
    · exact n7
    · exact n8
  obtain ⟨sl, hsl, hs9⟩ : ∃ sl, s = ba sl ∧ sl.length ≤ 900 := by
    simp only [List.mem_cons, List.not_mem_nil, or_false] at m3
    rcases m3 with rfl | rfl | rfl | rfl | rfl | rfl
    · exact ⟨[], rfl, by decide⟩
    · exact ⟨[97], rfl, by decide⟩
    · exact ⟨[97, 44, 98], rfl, by decide⟩
    · exact ⟨[44], rfl, by decide⟩
    · exact ⟨[97, 44, 44, 98, 44], rfl, by decide⟩
    · exact ⟨[97, 47, 98, 44, 99, 47], rfl, by decide⟩
  obtain ⟨nv, nb, k1, k2, k3⟩ := hnum
  obtain ⟨parts, j1, j2⟩ := joined sl hs9 v hv
  rw [← hsl] at j1 j2
  have D1 : Ev (fun k => spec_DrawDigits.f k l) d := by
    unfold spec_DrawDigits.f
    refine evBind hz ?_
    simp only [e1, Option.bind_some]
    exact evConst _
  have D2 : Ev (fun k => spec_DrawNumber.f k l) t := by
    unfold spec_DrawNumber.f
    refine evBind hz ?_
    simp only [e2, Option.bind_some]
    exact evConst _
  have D3 : Ev (fun k => spec_DrawSplit.f k l) (s, v) := by
    unfold spec_DrawSplit.f
    refine evBind hz ?_
    simp only [e3, e4, Option.bind_some]
    rw [show v % 256 = v from by rcases hv with rfl | rfl <;> rfl]
    exact evConst _
  have D4 : Ev (fun _ => impl_Number.f t) (nv, nb) := by rw [k1]; exact evConst _
  have D5 : Ev (fun _ => impl_Split.f s v) parts := by rw [j1]; exact evConst _
  have D6 : Ev (fun _ => impl_Digits.f d) ⟨(Lib.itoa d).toArray⟩ := by rw [digits_some d hd.1 hd.2]; exact evConst _
  refine evBind D1 (evBind D2 (evBind D4 (evBind k2 (evBind D3 (evBind D5 (evBind D6 (evBind (specDigits d hd.1 hd.2) (evPos rfl (evPos rfl (evNeg (by show ¬ (nb != nb) = true; cases nb <;> decide) ?_))))))))))
  cases nb with
  | false => exact evNeg Bool.false_ne_true j2
  | true =>
    refine evPos rfl (evBind (a := t) (by rw [k3 rfl]; exact evConst _) ?_)
    have e : (t.toList != t.toList) = false := by unfold bne; rw [beq_self_eq_true]; rfl
    rw [e]
    exact j2
end Go.Proofs.YtkmdjmbjopklkaaDoor.Pure

/- FnNumbers: of every run of bytes the law answers true. -/
namespace Go.Proofs.YtkmdjmbjopklkaaDoor.fnNumbers
open Go.ChangeShapes Go.WideShapes Go.ChangeAt Go.RowKit Go.Proofs.YtkmdjmbjopklkaaDoor.P Go.Proofs.YtkmdjmbjopklkaaDoor.B Go.Proofs.YtkmdjmbjopklkaaDoorW.PrintWords
open Go.ChangeMaps (open_string shut_string)
set_option linter.unusedVariables false
theorem own : ownKnob Tryd.prog.godebug = none := by kernel_rfl
theorem laidOut : laidOutB Tryd.prog = true := by kernel_rfl
theorem gTab : Tryd.prog.globalNamed "internal/strconv.uint64pow10" = some 2 := by kernel_rfl
theorem gTabType : (Tryd.prog.globals[2]?).map (·.type) = some 83 := by kernel_rfl
theorem gErr : Tryd.prog.globalNamed "strconv.ErrSyntax" = some 0 := by kernel_rfl
theorem cells83 : Tryd.prog.cellsOf 83 = 20 := by kernel_rfl
theorem cells65 : Tryd.prog.cellsOf 65 = 1 := by kernel_rfl
theorem kept : (Rows.fnNumbersRow.laid.filter fun x => x.1 == "internal/strconv.uint64pow10") = [("internal/strconv.uint64pow10", Lib.tabData .u64 Lib.pow10Tab)] := by kernel_rfl
theorem keptE : (Rows.fnNumbersRow.laid.filter fun x => x.1 == "strconv.ErrSyntax") = [("strconv.ErrSyntax", Rows.laid_strconv_ErrSyntax)] := by kernel_rfl
theorem table {W : World} (h : laidMetH Tryd.prog Rows.fnNumbersRow.laid W) : Lib.TabIs Tryd.prog W "internal/strconv.uint64pow10" .u64 Lib.pow10Tab := by
  have h1 : laidMet Tryd.prog Rows.fnNumbersRow.laid W := h
  have h2 := laidMet.filter (fun x => x.1 == "internal/strconv.uint64pow10") h1
  rw [kept] at h2
  exact Lib.tabIs_of_head (rest := []) gTab gTabType Tryd.underlying83 Tryd.underlying65 cells65 cells83 h2
theorem star : "*" ++ "errors.errorString" = "*errors.errorString" := by decide
theorem row89 (u : TypeId) (h : Tryd.prog.typeName? 3 u = some "*errors.errorString") : u = 89 :=
  typeName_ptr_named (nm := "errors.errorString") (by rw [star]; kernel_rfl) (by kernel_rfl) (by decide) u (by rw [star]; exact h)
theorem errIs {W : World} (h : laidMetH Tryd.prog Rows.fnNumbersRow.laid W) : ∃ ev, W.cell? ⟨0, 0, none⟩ = some ev ∧ (ev = .nilIface ∨ ∃ te pe, ev = .iface te pe) := by
  have h1 : laidMet Tryd.prog Rows.fnNumbersRow.laid W := h
  have h2 := laidMet.filter (fun x => x.1 == "strconv.ErrSyntax") h1
  rw [keptE] at h2
  obtain ⟨a, s, h3, _⟩ := Go.laid_sentinel (r := []) h2 gErr (ti := 39) (by kernel_rfl) Tryd.underlying39 row89 Tryd.underlying89 Tryd.underlying91 rfl rfl Tryd.underlying9 (by kernel_rfl) (by kernel_rfl)
  have h4 := World.var?_cell gErr h3 0
  exact ⟨_, h4, .inr ⟨_, _, rfl⟩⟩
set_option maxRecDepth 100000 in
theorem contract (H : Type) (enc : TypeId × Value → H) (W : World) (base : Nat) (args : Array Value) (ds gs : List (DataW H)) (before : List MemPlace)
    (hval : ∀ (j : Nat) t v, Tryd.f6.params[j]? = some t → args[j]? = some v → Value.okWide Tryd.prog W .any base t v)
    (hW : DataW.Whole enc Tryd.prog Tryd.f6.params.toList Rows.fnNumbersSpec.vars false W args.toList ds gs before) (hL : laidMetH Tryd.prog Rows.fnNumbersRow.laid W) (hS : W.ShapedOpen Tryd.prog) :
    Calls Tryd.prog 6 args W fun e W' => ∃ v, e = .returned v ∧ Rows.fnNumbersSpec.post enc Tryd.prog Tryd.f6 false true false false W args v W' := by
  have hW' := hW
  obtain ⟨p, q, hA0, hV, rfl, hfz, hnd⟩ := hW
  have hA : DataW.TrodAll enc Tryd.prog W 0 (fun _ => true) true Tryd.f6.params.toList args.toList ds p := hA0
  rw [Tryd.params6] at hA hval
  obtain ⟨v0, vs0, d0, ds0, p0, q0, hargs, rfl, rfl, h0, r0⟩ := trodAll_cons hA
  obtain ⟨rfl, rfl, rfl⟩ := trodAll_nil r0
  obtain rfl : args = #[v0] := by cases args; simp_all
  obtain ⟨rfl, rfl⟩ := trodVars_none hV
  have k0 := h0
  have lt0 : ∀ x ∈ p0, x.block < W.heap.size := by obtain ⟨m, hm⟩ := k0; exact DataW.trod_lt m _ _ _ hm
  obtain ⟨a0_, len0, cap0, rfl⟩ := okWide_slice Tryd.underlying32 (hval 0 32 v0 rfl rfl)
  obtain ⟨f0_, hf0⟩ := h0
  obtain ⟨x0, hK0, hg0⟩ := (opens_slice 5 Tryd.underlying32 (by kernel_rfl) (opens_int Tryd.underlying5)) H enc _ _ _ _ _ _ hf0
  obtain ⟨A0, c0, he0, l0, g0⟩ := hK0
  have hv0 : Value.slice a0_ len0 cap0 = .slice A0 x0.length c0 := by simpa [Value.cells] using he0
  cases hv0
  clear hA0
  obtain ⟨k, hP⟩ := Pure.FnNumbersAll x0
  refine (laws_FnNumbers.calls (h := hP) (w := W) (hr0 := g0) (hc0 := l0) (hm := ⟨table hL, Tryd.laysM146.s1_3 W hS, errIs hL⟩)).mono fun e W' ⟨he, bel0⟩ => ?_
  have bel : Below W.heap.size W W' := bel0
  subst he
  exact ⟨_, rfl, _, _, _, [], _, [], hW', trodAll_mk1 (shut_bool Tryd.underlying4 _), (trodAll_cons_mk (Below.trod laidOut (by kernel_rfl) (of_decide_eq_true (by kernel_rfl)) k0 bel lt0) trodAll_mk0), rfl, bel.frame _, fun h => by cases h⟩
def row (cs : Array Value) : Obj → Obj
  | .cells _ t frozen => .cells cs t frozen
  | o => o
noncomputable def low : Nat := (World.holding Tryd.prog default ⟨#[], #[], []⟩).heap.size
noncomputable def heap0 (os : Os) : Array Obj := (World.holding Tryd.prog os ⟨#[.cells #[.string ⟨#[118, 97, 108, 117, 101, 32, 111, 117, 116, 32, 111, 102, 32, 114, 97, 110, 103, 101]⟩] 91, .cells #[.string ⟨#[105, 110, 118, 97, 108, 105, 100, 32, 115, 121, 110, 116, 97, 120]⟩] 91], #[], []⟩).heap
noncomputable def heap1 (os : Os) : Array Obj := (((heap0 os).modify 2 (row #[.int .u64 1, .int .u64 10, .int .u64 100, .int .u64 1000, .int .u64 10000, .int .u64 100000, .int .u64 1000000, .int .u64 10000000, .int .u64 100000000, .int .u64 1000000000, .int .u64 10000000000, .int .u64 100000000000, .int .u64 1000000000000, .int .u64 10000000000000, .int .u64 100000000000000, .int .u64 1000000000000000, .int .u64 10000000000000000, .int .u64 100000000000000000, .int .u64 1000000000000000000, .int .u64 10000000000000000000])).modify 6 (row #[.int .u8 0, .int .u8 1, .int .u8 28, .int .u8 2, .int .u8 29, .int .u8 14, .int .u8 24, .int .u8 3, .int .u8 30, .int .u8 22, .int .u8 20, .int .u8 15, .int .u8 25, .int .u8 17, .int .u8 4, .int .u8 8, .int .u8 31, .int .u8 27, .int .u8 13, .int .u8 23, .int .u8 21, .int .u8 19, .int .u8 16, .int .u8 7, .int .u8 26, .int .u8 12, .int .u8 18, .int .u8 6, .int .u8 11, .int .u8 5, .int .u8 10, .int .u8 9])).modify 7 (row #[.int .u8 0, .int .u8 1, .int .u8 56, .int .u8 2, .int .u8 57, .int .u8 49, .int .u8 28, .int .u8 3, .int .u8 61, .int .u8 58, .int .u8 42, .int .u8 50, .int .u8 38, .int .u8 29, .int .u8 17, .int .u8 4, .int .u8 62, .int .u8 47, .int .u8 59, .int .u8 36, .int .u8 45, .int .u8 43, .int .u8 51, .int .u8 22, .int .u8 53, .int .u8 39, .int .u8 33, .int .u8 30, .int .u8 24, .int .u8 18, .int .u8 12, .int .u8 5, .int .u8 63, .int .u8 55, .int .u8 48, .int .u8 27, .int .u8 60, .int .u8 41, .int .u8 37, .int .u8 16, .int .u8 46, .int .u8 35, .int .u8 44, .int .u8 21, .int .u8 52, .int .u8 32, .int .u8 23, .int .u8 11, .int .u8 54, .int .u8 26, .int .u8 40, .int .u8 15, .int .u8 34, .int .u8 20, .int .u8 31, .int .u8 10, .int .u8 25, .int .u8 14, .int .u8 19, .int .u8 9, .int .u8 13, .int .u8 8, .int .u8 7, .int .u8 6])
noncomputable def heap2 (os : Os) : Array Obj := ((heap1 os).modify 5 (row #[.int .u8 128, .int .u8 191, .int .u8 160, .int .u8 191, .int .u8 128, .int .u8 159, .int .u8 144, .int .u8 191, .int .u8 128, .int .u8 143, .int .u8 0, .int .u8 0, .int .u8 0, .int .u8 0, .int .u8 0, .int .u8 0, .int .u8 0, .int .u8 0, .int .u8 0, .int .u8 0, .int .u8 0, .int .u8 0, .int .u8 0, .int .u8 0, .int .u8 0, .int .u8 0, .int .u8 0, .int .u8 0, .int .u8 0, .int .u8 0, .int .u8 0, .int .u8 0])).modify 4 (row (Go.Pinned.utf8FirstZ.map fun (n : Nat) => Value.int .u8 (n : Int)).toArray)
noncomputable def heap3 (os : Os) : Array Obj := ((heap2 os).modify 1 (row #[.iface 89 (.pointer (some ⟨low, 0, none⟩))])).modify 0 (row #[.iface 89 (.pointer (some ⟨low + 1, 0, none⟩))])
noncomputable def laidWorld (os : Os) : World :=
  { World.holding Tryd.prog os ⟨#[.cells #[.string ⟨#[118, 97, 108, 117, 101, 32, 111, 117, 116, 32, 111, 102, 32, 114, 97, 110, 103, 101]⟩] 91, .cells #[.string ⟨#[105, 110, 118, 97, 108, 105, 100, 32, 115, 121, 110, 116, 97, 120]⟩] 91], #[], []⟩ with heap := heap3 os }
set_option maxRecDepth 100000 in
theorem laid_met (os : Os) : laidMet Tryd.prog Rows.fnNumbersRow.laid ((laidWorld os).forCall (fun _ _ => 0) ⟨#[], #[.slice none 0 0], []⟩).memory :=
  laidMet_of_run' 8 (by kernel_rfl) (by kernel_rfl)
theorem reads (os : Os) {H : Type} (enc : TypeId × Value → H) : ∃ places, DataW.whole enc Tryd.prog ((laidWorld os).forCall (fun _ _ => 0) ⟨#[], #[.slice none 0 0], []⟩).memory Tryd.f6.params.toList Rows.fnNumbersSpec.vars false #[Value.slice none 0 0].toList 8 = some ([.nil], [], places) :=
  ⟨[], by kernel_rfl⟩
set_option maxRecDepth 100000 in
theorem lifted (os : Os) (started : os.Started) (H : Type) (enc : TypeId × Value → H) (F : Stop.Interp) :
    ReturnsInHanded {} Tryd.checked os 6 .any ((OpenSpec.ofChange Rows.fnNumbersSpec).preRow enc Tryd.prog Tryd.f6 Rows.fnNumbersRow.domain false Rows.fnNumbersRow.laid) (((OpenSpec.ofChange Rows.fnNumbersSpec).at F).post enc Tryd.prog Tryd.f6 false true false false) := by
  obtain ⟨places, hx⟩ := reads os enc
  refine returnsInHanded_of_row (C := Tryd.checked) (s := OpenSpec.ofChange Rows.fnNumbersSpec) own started (by kernel_rfl) Tryd.func6
    (witness_row_at (enc := enc) (C := Tryd.checked) false (laidWorld os) #[.slice none 0 0] rfl (by kernel_rfl) (by kernel_rfl) (by kernel_rfl)
      (OpenSpec.preRow_of_cond 8 hx (by kernel_rfl) (fun k hk => by cases hk) (by kernel_rfl) (laid_met os))) ?_
  intro W base args ds gs before hval hW _ _ _ hL hS _
  exact contract H enc W base args ds gs before hval hW hL hS
theorem said : Rows.FnNumbersSaid :=
  OpenClaim.holds_of_cond 6 Tryd.f6 rfl rfl rfl rfl rfl rfl rfl ⟨rfl, rfl, rfl, rfl, rfl⟩ rfl rfl rfl rfl rfl (by kernel_rfl) Tryd.func6 (by kernel_rfl)
    (of_decide_eq_true (by kernel_rfl)) (by unfold Func.isWrapper; first | (rw [if_pos (by decide +kernel)]; kernel_rfl) | (rw [if_neg (by decide +kernel)]; exact ⟨rfl, rfl⟩))
    (fun os started H enc _ F => by rw [OpenClaim.pre_eq_preRow]; exact lifted os started H enc F)
theorem plain (f : FuncId) (fn : Func) (hf : Tryd.pinned.checked.prog.funcNamed "loop.example/g00473/laws.FnNumbers" = some f) (hfn : Tryd.pinned.checked.prog.funcs[f]? = some fn) :
    true = Tryd.pinned.checked.prog.looks [] ∧ ∀ (j : Nat) t, fn.params[j]? = some t → Tryd.pinned.checked.prog.wantsStandIn t = false := by
  obtain rfl : f = 6 := Option.some.inj ((show Tryd.prog.funcNamed "loop.example/g00473/laws.FnNumbers" = some 6 by kernel_rfl).symm.trans hf) |>.symm
  obtain rfl : fn = Tryd.f6 := (Option.some.inj (Tryd.func6.symm.trans hfn)).symm
  refine ⟨by kernel_rfl, fun j t ht => ?_⟩
  rw [Tryd.params6] at ht
  obtain rfl : t = 32 := by simpa using Array.mem_of_getElem? ht
  exact (show Tryd.prog.wantsStandIn 32 = false by kernel_rfl)
theorem card : Rows.FnNumbersCardSaid :=
  Claim7.holds_tied_plain_at .later [] _ _ _ _ said (fun _ h => by cases h) (by kernel_rfl) (fun _ h => by cases h) fnNumbers_row_tie rfl ⟨rfl, rfl⟩ (by kernel_rfl) rfl plain (by kernel_rfl)
end Go.Proofs.YtkmdjmbjopklkaaDoor.fnNumbers
namespace Go.Proofs.YtkmdjmbjopklkaaDoor
theorem fnNumbers_holds : Rows.FnNumbersCardSaid := fnNumbers.card
end Go.Proofs.YtkmdjmbjopklkaaDoor
