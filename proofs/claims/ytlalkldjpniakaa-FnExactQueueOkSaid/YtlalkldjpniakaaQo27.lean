import Derived.ChangeArms
import Derived.Deep.Slices
import Derived.Lib.SmallJoins
import Derived.Test.YtlalkldjpniakaaQo7
/- How what comes in (whole numbers, texts, lists and records of these, in whatever memory) reads as plain values: for the rows of laws; no condition. -/
namespace Go.Proofs.YtlalkldjpniakaaW.PrintWords
open Go.RowKit Go.Joins
/-- Whatever reads as data of type t is a value of the kind d, and a good one. -/
def Opens {α : Type} (P : Program) (W : World) (t : TypeId) (d : Kd α) (good : α → Prop) : Prop :=
  ∀ (H : Type) (enc : TypeId × Value → H) (base : Nat) (spare : Nat → Bool) (held : Bool) (fuel : Nat) (cs : List Value) (x : DataW H × List MemPlace),
    DataW.trod enc P W base spare held fuel t cs = some x → ∃ y, d.K W y cs ∧ good y
section
variable {P : Program} {W : World} {t : TypeId}
theorem opens_int {k : IntKind} (ht : P.underlying t = some (.int k)) : Opens P W t (Kd.int k) (fun x => (Lit.int k x).wf = true) := by
  intro H enc base spare held fuel cs x h
  obtain ⟨n, rfl, _, hw⟩ := DataW.trod_int ht h
  exact ⟨n, rfl, hw⟩
theorem opens_string (ht : P.underlying t = some .string) : Opens P W t Kd.string (fun s => s.size ≤ maxLen) := by
  intro H enc base spare held fuel cs x h
  obtain ⟨s, rfl, _, hw⟩ := DataW.trod_string ht h
  exact ⟨s, rfl, hw⟩
theorem list_of {α : Type} {p : Nat → α → Prop} : ∀ n : Nat, (∀ i, i < n → ∃ y, p i y) → ∃ ys : List α, ys.length = n ∧ ∀ i y, ys[i]? = some y → p i y
  | 0, _ => ⟨[], rfl, fun i y h => by simp at h⟩
  | n + 1, h => by
    obtain ⟨ys, hl, hy⟩ := list_of n (fun i hi => h i (by omega))
    obtain ⟨z, hz⟩ := h n (by omega)
    refine ⟨ys ++ [z], by simp [hl], fun i y hi => ?_⟩
    by_cases hlt : i < ys.length
    · rw [List.getElem?_append_left hlt] at hi
      exact hy i y hi
    · rw [List.getElem?_append_right (by omega)] at hi
      have h0 : i - ys.length = 0 := by
        rcases Nat.eq_zero_or_pos (i - ys.length) with h0 | h0
        · exact h0
        · rw [List.getElem?_eq_none (by simp; omega)] at hi
          cases hi
      rw [h0] at hi
      have hin : i = n := by omega
      rw [hin]
      simp at hi
      rw [← hi]
      exact hz
theorem opens_slice {α : Type} {d : Kd α} {good : α → Prop} {e : TypeId} (e1 : Nat) (ht : P.underlying t = some (.slice e)) (hc : P.cellsOf e = d.sz) (hd : Opens P W e d good) :
    Opens P W t (Kd.slice e1 d) (fun xs => xs.length ≤ maxLen ∧ ∀ x ∈ xs, good x) := by
  intro H enc base spare held fuel cs x h
  rcases Deep.open_slice ht h with ⟨rfl, _⟩ | ⟨a, len, cap, m, n, D, Pl, rfl, _, hl, hm, hmm, _, hel⟩
  · exact ⟨[], ⟨none, 0, rfl, Nat.le_refl _, rfl, Nat.zero_le _, fun h => absurd h (by simp)⟩, Nat.zero_le _, fun x hx => by simp at hx⟩
  · have hlm : len ≤ m := by rw [hmm]; split <;> omega
    obtain ⟨ys, hyl, hy⟩ := list_of (p := fun i y => good y ∧ ∃ c, c.length = d.sz ∧ d.K W y c ∧ ∀ j u, c[j]? = some u → W.cell? (a.add (i * d.sz + j)) = some u) len (fun i hi => by
      obtain ⟨cs1, h1, h2⟩ := hel i (by omega)
      obtain ⟨y, hK, hg⟩ := hd H enc base spare held n cs1 _ h2
      obtain ⟨hb1, hlen, hcell⟩ := World.cells?_some h1
      refine ⟨y, hg, cs1, by rw [hlen, hc], hK, fun j u hu => ?_⟩
      have hj : j < cs1.length := (List.getElem?_eq_some_iff.1 hu).1
      have h3 := hcell j (by omega)
      rw [hc, Addr.add_add] at h3
      rw [h3, hu])
    refine ⟨ys, ⟨some a, cap, by rw [hyl], by rw [hyl]; exact hl, rfl, ?_, fun _ => ⟨a, rfl, fun j p hp => (hy j p hp).2⟩⟩, ?_, fun x hx => ?_⟩
    · have := hm; unfold maxLen at this; omega
    · have := hm; omega
    · obtain ⟨i, hi, rfl⟩ := List.mem_iff_getElem.1 hx
      exact (hy i _ (List.getElem?_eq_getElem hi)).1
/-- A record's cells, one by one, where each field has one cell. -/
theorem opens_fields {fs : Array Field} {H : Type} {enc : TypeId × Value → H} {base : Nat} {spare : Nat → Bool} {held : Bool} {fuel : Nat} {cs : List Value} {x : DataW H × List MemPlace}
    (ht : P.underlying t = some (.struct fs)) (hn : P.cellsOf t = fs.size) (hone : ∀ (i : Nat) (f : Field), fs[i]? = some f → f.offset = i ∧ P.cellsOf f.type = 1) (h : DataW.trod enc P W base spare held fuel t cs = some x) :
    cs.length = fs.size ∧ ∃ n, ∀ (i : Nat) (f : Field), fs[i]? = some f → ∃ u y, cs[i]? = some u ∧ DataW.trod enc P W base spare held n f.type [u] = some y := by
  obtain ⟨xs, n, _, _, hl, hlen, hf⟩ := DataW.trod_struct ht h
  have hcl : cs.length = fs.size := by rw [hl, hn]
  refine ⟨hcl, n, fun i f hi => ?_⟩
  have hlt : i < fs.size := (Array.getElem?_eq_some_iff.1 hi).1
  obtain ⟨h1, h2⟩ := hone i f hi
  have h3 := hf i f hi
  rw [h1, h2, List.drop_eq_getElem_cons (show i < cs.length by omega), List.take_succ_cons, List.take_zero, List.getElem?_eq_getElem (show i < xs.length by omega)] at h3
  exact ⟨cs[i], _, List.getElem?_eq_getElem (by omega), h3⟩
end
end Go.Proofs.YtlalkldjpniakaaW.PrintWords
/- Plain lemmas on lists and on numbers that do not wrap, used by all pure statements of this seat; no condition but those each lemma names. -/
namespace Go.Proofs.Ytlalkldjpniakaa.B
open Go.RowKit Go.Proofs.YtlalkldjpniakaaW.PrintWords Go.Proofs.YtlalkldjpniakaaW.PrintLast Go.Proofs.YtlalkldjpniakaaW.PrintMore

theorem wrap_eq (x : Int) (h0 : -9223372036854775808 ≤ x) (h1 : x ≤ 9223372036854775807) : wrap64 x = x := by
  unfold wrap64; omega
theorem rd_mid (pre : List Int) (a : Int) (rest : List Int) : rd (pre ++ a :: rest) (pre.length : Int) = a := by
  unfold rd; simp [List.getD_eq_getElem?_getD]
theorem set_mid (pre : List Int) (a b : Int) (rest : List Int) : (pre ++ b :: rest).set ((pre.length : Int).toNat) a = pre ++ a :: rest := by
  simp
theorem lt_mid {α : Type} (pre : List α) (a : α) (rest : List α) : (pre.length : Int) < (((pre ++ a :: rest).length : Nat) : Int) := by
  simp; omega
theorem nlt_end {α : Type} (pre : List α) : ¬ ((pre.length : Int) < (((pre ++ []).length : Nat) : Int)) := by
  simp
theorem wrap_step {α : Type} (pre : List α) (a : α) (h : pre.length ≤ 4611686018427387904) : wrap64 ((pre.length : Int) + 1) = (((pre ++ [a]).length : Nat) : Int) := by
  rw [wrap_eq _ (by omega) (by omega)]; simp
theorem snoc_app {α : Type} (pre : List α) (a : α) (rest : List α) : pre ++ a :: rest = (pre ++ [a]) ++ rest := by simp
theorem pre_nonneg {α : Type} (pre : List α) : 0 ≤ (pre.length : Int) := by omega

theorem rd_mid2 (pa pb : List Int) (a : Int) (rest : List Int) (h : pa.length = pb.length) : rd (pb ++ a :: rest) (pa.length : Int) = a := by
  rw [h]; exact rd_mid pb a rest
theorem lt_mid2 {α : Type} (pa pb : List α) (a : α) (rest : List α) (h : pa.length = pb.length) : (pa.length : Int) < (((pb ++ a :: rest).length : Nat) : Int) := by
  rw [h]; exact lt_mid pb a rest
theorem nlt_end2 {α : Type} (pa pb : List α) (h : pa.length = pb.length) : ¬ ((pa.length : Int) < (((pb ++ []).length : Nat) : Int)) := by
  rw [h]; exact nlt_end pb
/-- n numbers m, m + 1, .. as bytes. -/
def marks : Nat → Int → List Int
  | 0, _ => []
  | n + 1, m => m % 256 :: marks n (m + 1)
theorem marks_length : ∀ (n : Nat) (m : Int), (marks n m).length = n
  | 0, _ => rfl
  | n + 1, m => by simp [marks, marks_length n]
theorem marks_snoc : ∀ (n : Nat) (m : Int), marks n m ++ [(m + n) % 256] = marks (n + 1) m
  | 0, m => by simp [marks]
  | n + 1, m => by
    have h := marks_snoc n (m + 1)
    rw [show m + 1 + (n : Int) = m + ((n + 1 : Nat) : Int) from by omega] at h
    rw [marks, marks, List.cons_append, h]
/-- n numbers m, m + 1, .. -/
def counts : Nat → Int → List Int
  | 0, _ => []
  | n + 1, m => m :: counts n (m + 1)
theorem counts_length : ∀ (n : Nat) (m : Int), (counts n m).length = n
  | 0, _ => rfl
  | n + 1, m => by simp [counts, counts_length n]
theorem counts_snoc : ∀ (n : Nat) (m : Int), counts n m ++ [m + n] = counts (n + 1) m
  | 0, m => by simp [counts]
  | n + 1, m => by
    have h := counts_snoc n (m + 1)
    rw [show m + 1 + (n : Int) = m + ((n + 1 : Nat) : Int) from by omega] at h
    rw [counts, counts, List.cons_append, h]
end Go.Proofs.Ytlalkldjpniakaa.B
/- What a computation with fuel answers, from some fuel on: more lemmas. -/
namespace Go.Proofs.Ytlalkldjpniakaa.B
open Go.Proofs.YtlalkldjpniakaaW.PrintWords
theorem evConst {α : Type} (r : α) : Ev (fun _ => some r) r := ⟨0, fun _ _ => rfl⟩
theorem evUp {α : Type} {f : Nat → Option α} {r : α} (h : Ev (fun k => f (k + 1)) r) : Ev f r := by
  obtain ⟨k0, h⟩ := h
  refine ⟨k0 + 1, fun k hk => ?_⟩
  obtain ⟨m, rfl⟩ : ∃ m, k = m + 1 := ⟨k - 1, by omega⟩
  exact h m (by omega)
theorem evBind {α β : Type} {f : Nat → Option α} {g : Nat → α → Option β} {a : α} {r : β} (h : Ev f a) (h2 : Ev (fun k => g k a) r) : Ev (fun k => (f k).bind fun t => g k t) r := by
  obtain ⟨k0, h⟩ := h
  obtain ⟨k1, h2⟩ := h2
  refine ⟨k0 + k1, fun k hk => ?_⟩
  show (f k).bind (fun t => g k t) = some r
  rw [h k (by omega)]
  exact h2 k (by omega)
theorem evPos {α : Type} {c : Prop} [Decidable c] {f g : Nat → Option α} {r : α} (hc : c) (h : Ev f r) : Ev (fun k => if c then f k else g k) r := by
  obtain ⟨k0, h⟩ := h
  exact ⟨k0, fun k hk => by show (if c then f k else g k) = some r; rw [if_pos hc]; exact h k hk⟩
theorem evNeg {α : Type} {c : Prop} [Decidable c] {f g : Nat → Option α} {r : α} (hc : ¬ c) (h : Ev g r) : Ev (fun k => if c then f k else g k) r := by
  obtain ⟨k0, h⟩ := h
  exact ⟨k0, fun k hk => by show (if c then f k else g k) = some r; rw [if_neg hc]; exact h k hk⟩
theorem evOf {α : Type} {f : Nat → Option α} {r : α} (n : Nat) (h : ∀ k, n < k → f k = some r) : Ev f r := ⟨n + 1, fun k hk => h k (by omega)⟩
end Go.Proofs.Ytlalkldjpniakaa.B
namespace Go.Proofs.Ytlalkldjpniakaa.P
open Go.RowKit Go.Proofs.YtlalkldjpniakaaW.PrintWords Go.Proofs.YtlalkldjpniakaaW.PrintLast Go.Proofs.YtlalkldjpniakaaW.PrintMore
attribute [local go_sem] zct zcu zdd zde zcl zcm zcv zcw   -- for this text's walks alone
set_option linter.unusedVariables false
set_option linter.unusedSimpArgs false

def laws_markByteS.l0 : Nat → List Int → Int → Int → Option (Int × List Int)
 | 0, _, _, _ => none
 | k + 1, x0, x1, x5 => if x5 < (x0.length : Int) then (if 0 ≤ x5 then (laws_markByteS.l0 k (x0.set (x5 : Int).toNat ((x1) % 256)) (wrap64 (x1 + 1)) (wrap64 (x5 + 1))) else (none)) else (some (x1, x0))
def laws_markByteS.f (k : Nat) (l0 : List Int) (a1 : Int) : Option (Int × List Int) := laws_markByteS.l0 k l0 a1 0
theorem laws_markByteS.mono_l : ∀ k, (∀ y0 y1 y2, LeO (laws_markByteS.l0 k y0 y1 y2) (laws_markByteS.l0 (k + 1) y0 y1 y2))
 | 0 => fun _ _ _ r h => by simp [laws_markByteS.l0] at h
 | k + 1 => by
  have ih0 := laws_markByteS.mono_l k
  ·intro y0 y1 y2
   unfold laws_markByteS.l0
   repeat' first
   | (with_reducible exact ih0 _ _ _)
   | (with_reducible exact zci _)
   | (with_reducible exact zck _)
   | (with_reducible refine zcp ?_ ?_)
   | (with_reducible refine zcj ?_ (fun _ => ?_))
   | exact ih0 _ _ _
theorem laws_markByteS.mono : ∀ a0 a1 k, LeO (laws_markByteS.f k a0 a1) (laws_markByteS.f (k + 1) a0 a1) := by
 intro a0 a1 k
 have ih0 := laws_markByteS.mono_l k
 unfold laws_markByteS.f
 repeat' first
   | (with_reducible exact ih0 _ _ _)
   | (with_reducible exact zci _)
   | (with_reducible exact zck _)
   | (with_reducible refine zcp ?_ ?_)
   | (with_reducible refine zcj ?_ (fun _ => ?_))
   | exact ih0 _ _ _
set_option maxHeartbeats 8000000 in
set_option maxRecDepth 100000 in
theorem laws_markByteS.calls (k : Nat) (P0_ : Nat → Prop) (u9000_ : Value) (l0 : List Int) (a1 : Int) (r1 : Int) (r2 : List Int) (w0 w : World) (hB : Below w0.heap.size w0 w) (ho0 : Kd.R (Kd.int .u8) 5 w w0.heap.size P0_ u9000_ l0) (h : laws_markByteS.f k l0 a1 = some (r1, r2)) :
  Calls Try.prog 52 #[u9000_, .int .i64 a1] w fun e w' => e = .returned (.int .i64 r1) ∧ Kd.R (Kd.int .u8) 5 w' w0.heap.size (fun k_ => (P0_ k_ ∨ w.heap.size ≤ k_)) u9000_ r2 ∧ Below w0.heap.size w0 w' ∧ Kept w w' (fun k_ => P0_ k_) := by
 have HO0 := Aside0.mk (show Kd.R (Kd.int .u8) 5 w w0.heap.size (fun k_ => (P0_ k_ ∨ w.heap.size ≤ k_)) u9000_ l0 from Kd.R_mono ho0 (fun k_ hk => (.inl hk)))
 have HK := Aside0.mk (Kept.refl w (fun k_ => P0_ k_))
 have HW0 := Aside0.mk hB.size
 have HB := Aside0.mk hB
 clear hB
 have H : (laws_markByteS.l0 k l0 a1 0) = some (r1, r2) := h
 clear h
 have H' := Aside0.mk H
 clear H
 go_enter Try.func52, Try.ntmps52
 go_wp2
 go_loopg [1, 5] k (fun kq v1 v5 w' => ∃ (x0_1 : List Int) (x1_1 : Int) (x5_1 : Int), v1 = .int .i64 x1_1 ∧ v5 = .int .i64 x5_1 ∧ Aside0 (laws_markByteS.l0 kq x0_1 x1_1 x5_1 = some (r1, r2)) ∧ Aside0 (kq ≤ k) ∧ Aside0 (Kd.R (Kd.int .u8) 5 w' w0.heap.size (fun k_ => (P0_ k_ ∨ w.heap.size ≤ k_)) u9000_ x0_1) ∧ Aside0 (Kept w w' (fun k_ => P0_ k_)) ∧ Aside0 (Below w0.heap.size w0 w'))
 case atStart => exact ⟨(l0), (a1), (0), (by first | rfl | (simp; done) | (simp [*]; done)), (by first | rfl | (simp; done) | (simp [*]; done)), H', ⟨zbi _⟩, ⟨by (with_reducible repeat (first | apply zbq | apply zbr | apply zby)); exact HO0.out⟩, ⟨by repeat (first | (with_reducible first | exact HK.out | apply Kept.alloc | apply Kept.drewN | apply Kept.drew) | exact HK.out)⟩, ⟨by repeat (first | (with_reducible first | exact HB.out | apply zae | apply zab | apply zad) | exact HB.out)⟩⟩
 case round =>
  clear H'
  try clear p2
  obtain ⟨x0_1, x1_1, x5_1, rfl, rfl, HA, HK1, HO_0, HK, HB⟩ := hrel
  cases gk with
  | zero => exact absurd HA.out (by simp [laws_markByteS.l0])
  | succ k1 =>
   have H := HA.out
   clear HA
   simp only [laws_markByteS.l0] at H
   by_cases c3 : x5_1 < (x0_1.length : Int)
   ·rw [if_pos c3] at H
    have c3b0 : decide (x5_1 < (x0_1.length : Int)) = true := zak c3
    clear c3
    by_cases c4 : 0 ≤ x5_1
    ·rw [if_pos c4] at H
     have c4b0 : decide (0 ≤ x5_1) = true := zak c4
     clear c4
     obtain ⟨y224, hy224⟩ : ∃ y_ : List Int, y_ = (x0_1.set (x5_1 : Int).toNat ((x1_1) % 256)) := ⟨_, rfl⟩
     replace H : (laws_markByteS.l0 k1 y224 (wrap64 (x1_1 + 1)) (wrap64 (x5_1 + 1))) = some (r1, r2) := by first | (rw [hy224]; with_reducible first | exact H | exact bind_ofs H) | (with_reducible first | exact H | exact bind_ofs H) | (rw [hy224]; exact H) | exact H
     have Ny224 := Aside0.mk hy224
     clear hy224
     have H' := Aside0.mk H
     clear H
     obtain ⟨Ao6, co6, eo6⟩ := Kd.R_slice HO_0.out
     subst eo6
     have p5 : 0 ≤ (x5_1 : Int) := zac (by first | (with_reducible assumption) | assumption)
     have q5 : (x5_1 : Int) < ((x0_1.length : Int) : Int) := zac (by first | (with_reducible assumption) | assumption)
     obtain ⟨go5, co5, eo5, gb5, gl5, cl5, HG5⟩ := Kd.R_form HO_0.out (by omega)
     (first | cases eo5 | (injection eo5 with ea_ en_ ec_; (first | subst ea_ | (injection ea_ with ea_; subst ea_)); subst ec_; clear en_))
     have GB5 := Aside0.mk gb5
     have GG5 := Aside0.mk HG5
     clear gb5 gl5 HG5
     have HMgo5 := Aside0.mk (show (P0_ go5 ∨ w.heap.size ≤ go5) from (HO_0.out.1 _ rfl))
     obtain ⟨hx5_0, hf5_0⟩ := Kd.R_celln 0 HO_0.out (x5_1 : Int) p5 q5
     replace p5 := zar p5
     replace q5 := zar q5
     have HP7 := Kd.R_putg HO_0.out (x5_1 : Int) ((x1_1) % 256)
     go_wp2_with (first | ((with_reducible refine gate_store (t := 5) (p := 16) rfl ?_); refine store_event (t := 5) (p := 16) (v := ?vo_w8) (w1 := (wr.setCell ⟨go5, (x5_1 : Int).toNat, none⟩ (.int .u8 ((x1_1) % 256)))) ?hg ?ho ?hn ?hr ?_; (case ho => rfl); (case hg => rfl); (case hn => rfl); (case hr => first | (go_simp; done) | (go_simp; rfl)); intro w8 hw; have hg : wr.grownBy w8 (some go5) := (by rw [hw]; exact HP7.2); have hp_ : Kd.R (Kd.int .u8) 5 w8 w0.heap.size (fun k_ => (P0_ k_ ∨ w.heap.size ≤ k_)) (.slice (some ⟨go5, 0, none⟩) x0_1.length co6) y224 := (by rw [hw, Ny224.out]; exact HP7.1); clear HP7; have n0_ := Aside0.mk (hp_); have n1_ := Aside0.mk ((by rw [hw]; exact zay (HB.out) GB5.out : Below w0.heap.size w0 w8)); have n2_ := Aside0.mk (Kept.of_grown (S := (fun k_ => P0_ k_)) hg (by repeat (first | (with_reducible first | exact HK.out | apply Kept.alloc | apply Kept.drewN | apply Kept.drew) | exact HK.out)) (fun k_ e_ => (HO_0.out.1 k_ e_))); clear HO_0 HB HK; have HO_0 := n0_; have HB := n1_; have HK := n2_; clear n0_ n1_ n2_; clear hg hw hp_))
     go_roundg k1
     case measure => have := HK1.out; omega
     case rel => exact ⟨(y224), (wrap64 (x1_1 + 1)), (wrap64 (x5_1 + 1)), (by first | rfl | (simp; done) | (simp [*]; done)), (by first | rfl | (simp; done) | (simp [*]; done)), H', ⟨by have := HK1.out; omega⟩, ⟨by (with_reducible repeat (first | apply zbq | apply zbr | apply zby)); exact HO_0.out⟩, ⟨by repeat (first | (with_reducible first | exact HK.out | apply Kept.alloc | apply Kept.drewN | apply Kept.drew) | exact HK.out)⟩, ⟨by repeat (first | (with_reducible first | exact HB.out | apply zae | apply zab | apply zad) | exact HB.out)⟩⟩
    ·rw [if_neg c4] at H
     exact absurd H (by simp)
   ·rw [if_neg c3] at H
    have c3b0 : decide (x5_1 < (x0_1.length : Int)) = false := zbd c3
    clear c3
    simp only [zcy, zdh] at H
    obtain ⟨rfl, rfl⟩ := H
    obtain ⟨Ao9, co9, eo9⟩ := Kd.R_slice HO_0.out
    subst eo9
    go_wp2
    go_ret
    exact ⟨by first | rfl | (simp [zan, zao] <;> rfl) | (simp [*, zan, zao] <;> rfl), by (with_reducible repeat (first | apply zbq | apply zbr | apply zby)); exact HO_0.out, by repeat (first | (with_reducible first | exact HB.out | apply zae | apply zab | apply zad) | exact HB.out), by repeat (first | (with_reducible first | exact HK.out | apply Kept.alloc | apply Kept.drewN | apply Kept.drew) | exact HK.out)⟩
end Go.Proofs.Ytlalkldjpniakaa.P
