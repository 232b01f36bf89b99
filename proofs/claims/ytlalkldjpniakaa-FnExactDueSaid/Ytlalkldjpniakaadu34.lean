import Derived.Test.Ytlalkldjpniakaadu21
/- The queue's function values once more, where what they have caught is told by its cells. -/
namespace Go.Proofs.Ytlalkldjpniakaa.P
open Go.RowKit Go.Proofs.YtlalkldjpniakaaW.PrintWords Go.Proofs.YtlalkldjpniakaaW.PrintLast Go.Proofs.YtlalkldjpniakaaW.PrintMore
set_option linter.unusedVariables false
set_option linter.unusedSimpArgs false
theorem cell_same {w w' : World} {g : Nat} {o : Obj} (h : w.heap[g]? = some o) (h' : w'.heap[g]? = some o) (a : Addr) (e : a.block = g) : w'.cell? a = w.cell? a := by
  subst e
  simp [World.cell?, h, h']
theorem obj_of_cell {w : World} {a : Addr} {v : Value} (h : w.cell? a = some v) : ∃ o, w.heap[a.block]? = some o := by
  have := World.block_lt_of_cell? w a h
  exact ⟨_, Array.getElem?_eq_getElem this⟩
theorem queue_pred2 (r : ByteArray) (t : Int) (gc : Nat) (o : Obj) (w0 : World) (h0 : w0.heap[gc]? = some o) (c0 : w0.cell? ⟨gc, 0, none⟩ = some (.string r)) (c1 : w0.cell? ⟨gc, 1, none⟩ = some (.int .i64 t)) : PredI 100 #[.pointer (some ⟨gc, 0, none⟩)] gc o (likeI r t) := by
  intro W x A c ho
  have h0 := (cell_same h0 ho ⟨gc, 0, none⟩ rfl).trans c0
  have h1 := (cell_same (by assumption) ho ⟨gc, 1, none⟩ rfl).trans c1
  have hlt : gc < W.heap.size := (Array.getElem?_eq_some_iff.1 ho).1
  have hne : gc ≠ W.heap.size := by omega
  have hu34 := Try.underlying34
  clear ho
  obtain ⟨q0, q1, q2, q3⟩ := x
  show Calls Try.prog 100 #[.agg #[.string q0, .int .i64 q1, .int .i64 q2, .slice A q3.length c], .pointer (some ⟨gc, 0, none⟩)] W fun e w' => e = .returned (.bool (q0.toList == r.toList && q1 == t)) ∧ Below W.heap.size W w'
  cases e0 : (q0.toList == r.toList) with
  | true =>
    cases e1 : (q1 == t) with
    | true =>
      go_enter Try.func100, Try.ntmps100
      go_wp2
      all_goals (go_ret; exact ⟨by simp_all, (Below.refl _ W).alloc (Nat.le_refl _) _⟩)
    | false =>
      go_enter Try.func100, Try.ntmps100
      go_wp2
      all_goals (go_ret; exact ⟨by simp_all, (Below.refl _ W).alloc (Nat.le_refl _) _⟩)
  | false =>
    go_enter Try.func100, Try.ntmps100
    go_wp2
    all_goals (go_ret; exact ⟨by simp_all, (Below.refl _ W).alloc (Nat.le_refl _) _⟩)
end Go.Proofs.Ytlalkldjpniakaa.P
