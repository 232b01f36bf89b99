/- How what comes in (whole numbers, texts, lists and records of these, in whatever memory) reads as plain values: for the rows of laws; no condition. -/
import Derived.Test.YthlhilfjbjamhaaWMore
import Derived.ChangeArms
import Derived.Deep.Slices
import Derived.Lib.SmallJoins
namespace Go.Proofs.YthlhilfjbjamhaaW.PrintWords
open Go.RowKit Go.Joins
/-- Whatever reads as data of type t is a value of the kind d, and a good one. -/
def Opens {α : Type} (P : Program) (W : World) (t : TypeId) (d : Kd α) (good : α → Prop) : Prop :=
  ∀ (H : Type) (enc : TypeId × Value → H) (base : Nat) (spare : Nat → Bool) (held : Bool) (fuel : Nat) (cs : List Value) (x : DataW H × List MemPlace),
    DataW.trod enc P W base spare held fuel t cs = some x → ∃ y, d.K W y cs ∧ good y
section
variable {P : Program} {W : World} {t : TypeId}
theorem opens_int {k : IntKind} (ht : P.underlying t = some (.int k)) : Opens P W t (Kd.int k) (fun x => (Lit.int k x).wf = true) := by
  intro H enc base spare held fuel cs x h
  obtain ⟨n, rfl, _, hw⟩ := DataW.trod_int ht h
  exact ⟨n, rfl, hw⟩
theorem opens_string (ht : P.underlying t = some .string) : Opens P W t Kd.string (fun s => s.size ≤ maxLen) := by
  intro H enc base spare held fuel cs x h
  obtain ⟨s, rfl, _, hw⟩ := DataW.trod_string ht h
  exact ⟨s, rfl, hw⟩
theorem list_of {α : Type} {p : Nat → α → Prop} : ∀ n : Nat, (∀ i, i < n → ∃ y, p i y) → ∃ ys : List α, ys.length = n ∧ ∀ i y, ys[i]? = some y → p i y
  | 0, _ => ⟨[], rfl, fun i y h => by simp at h⟩
  | n + 1, h => by
    obtain ⟨ys, hl, hy⟩ := list_of n (fun i hi => h i (by omega))
    obtain ⟨z, hz⟩ := h n (by omega)
    refine ⟨ys ++ [z], by simp [hl], fun i y hi => ?_⟩
    by_cases hlt : i < ys.length
    · rw [List.getElem?_append_left hlt] at hi
      exact hy i y hi
    · rw [List.getElem?_append_right (by omega)] at hi
      have h0 : i - ys.length = 0 := by
        rcases Nat.eq_zero_or_pos (i - ys.length) with h0 | h0
        · exact h0
        · rw [List.getElem?_eq_none (by simp; omega)] at hi
          cases hi
      rw [h0] at hi
      have hin : i = n := by omega
      rw [hin]
      simp at hi
      rw [← hi]
      exact hz
theorem opens_slice {α : Type} {d : Kd α} {good : α → Prop} {e : TypeId} (e1 : Nat) (ht : P.underlying t = some (.slice e)) (hc : P.cellsOf e = d.sz) (hd : Opens P W e d good) :
    Opens P W t (Kd.slice e1 d) (fun xs => xs.length ≤ maxLen ∧ ∀ x ∈ xs, good x) := by
  intro H enc base spare held fuel cs x h
  rcases Deep.open_slice ht h with ⟨rfl, _⟩ | ⟨a, len, cap, m, n, D, Pl, rfl, _, hl, hm, hmm, _, hel⟩
  · exact ⟨[], ⟨none, 0, rfl, Nat.le_refl _, rfl, Nat.zero_le _, fun h => absurd h (by simp)⟩, Nat.zero_le _, fun x hx => by simp at hx⟩
  · have hlm : len ≤ m := by rw [hmm]; split <;> omega
    obtain ⟨ys, hyl, hy⟩ := list_of (p := fun i y => good y ∧ ∃ c, c.length = d.sz ∧ d.K W y c ∧ ∀ j u, c[j]? = some u → W.cell? (a.add (i * d.sz + j)) = some u) len (fun i hi => by
      obtain ⟨cs1, h1, h2⟩ := hel i (by omega)
      obtain ⟨y, hK, hg⟩ := hd H enc base spare held n cs1 _ h2
      obtain ⟨hb1, hlen, hcell⟩ := World.cells?_some h1
      refine ⟨y, hg, cs1, by rw [hlen, hc], hK, fun j u hu => ?_⟩
      have hj : j < cs1.length := (List.getElem?_eq_some_iff.1 hu).1
      have h3 := hcell j (by omega)
      rw [hc, Addr.add_add] at h3
      rw [h3, hu])
    refine ⟨ys, ⟨some a, cap, by rw [hyl], by rw [hyl]; exact hl, rfl, ?_, fun _ => ⟨a, rfl, fun j p hp => (hy j p hp).2⟩⟩, ?_, fun x hx => ?_⟩
    · have := hm; unfold maxLen at this; omega
    · have := hm; omega
    · obtain ⟨i, hi, rfl⟩ := List.mem_iff_getElem.1 hx
      exact (hy i _ (List.getElem?_eq_getElem hi)).1
/-- A record's cells, one by one, where each field has one cell. -/
theorem opens_fields {fs : Array Field} {H : Type} {enc : TypeId × Value → H} {base : Nat} {spare : Nat → Bool} {held : Bool} {fuel : Nat} {cs : List Value} {x : DataW H × List MemPlace}
    (ht : P.underlying t = some (.struct fs)) (hn : P.cellsOf t = fs.size) (hone : ∀ (i : Nat) (f : Field), fs[i]? = some f → f.offset = i ∧ P.cellsOf f.type = 1) (h : DataW.trod enc P W base spare held fuel t cs = some x) :
    cs.length = fs.size ∧ ∃ n, ∀ (i : Nat) (f : Field), fs[i]? = some f → ∃ u y, cs[i]? = some u ∧ DataW.trod enc P W base spare held n f.type [u] = some y := by
  obtain ⟨xs, n, _, _, hl, hlen, hf⟩ := DataW.trod_struct ht h
  have hcl : cs.length = fs.size := by rw [hl, hn]
  refine ⟨hcl, n, fun i f hi => ?_⟩
  have hlt : i < fs.size := (Array.getElem?_eq_some_iff.1 hi).1
  obtain ⟨h1, h2⟩ := hone i f hi
  have h3 := hf i f hi
  rw [h1, h2, List.drop_eq_getElem_cons (show i < cs.length by omega), List.take_succ_cons, List.take_zero, List.getElem?_eq_getElem (show i < xs.length by omega)] at h3
  exact ⟨cs[i], _, List.getElem?_eq_getElem (by omega), h3⟩
end
end Go.Proofs.YthlhilfjbjamhaaW.PrintWords
