import Derived.Test.Ytlalkldjpniakaapu9
/- slices.Delete of one item, over a list of items of the call's own. -/
namespace Go.Proofs.Ytlalkldjpniakaa.P
open Go.RowKit Go.Proofs.YtlalkldjpniakaaW.PrintWords Go.Proofs.YtlalkldjpniakaaW.PrintLast Go.Proofs.YtlalkldjpniakaaW.PrintMore
set_option linter.unusedVariables false
set_option linter.unusedSimpArgs false
/-- What lies behind the row may be written. -/
theorem S_beyond {w : World} {base g n cap : Nat} {ok : Nat → Prop} {xs : List S34} (h : Kd.S k34 34 w base ok (.slice (some ⟨g, 0, none⟩) n cap) xs) (seg : List Value) (hs : n * 4 + seg.length ≤ cap * 4) :
    Kd.S k34 34 (w.setCells g (n * 4) seg) base ok (.slice (some ⟨g, 0, none⟩) n cap) xs ∧ w.grownBy (w.setCells g (n * 4) seg) (some g) := by
  have hg := grown_setCells4 w g (n * 4) seg
  refine ⟨?_, hg⟩
  obtain ⟨f, rows, hrl, hraw, hok, hM⟩ := raw_of_S h
  have hn := (Kd.R_reads' hraw).1
  obtain ⟨h0, inner, ho, hr⟩ := hraw
  refine S_of_raw (okr := fun k => some k = (Value.slice (some ⟨g, 0, none⟩) n cap).ownBlock) f hok ?_ hrl (fun j x c hx hc => Kd.M_step (hM j x c hx hc) (fun k hk hlt => hg.block k hlt (fun e => hk.1.2 (by rw [e]; rfl))))
  rcases ho.2 with ⟨hv, _⟩ | ⟨g2, cap2, cur2, hv, hb2, hh2, hnc2, hm2, hsz2, htk2⟩
  · cases hv
  injection hv with hva hvn hvc
  injection hva with hva
  injection hva with hvg
  subst hvg hvc
  have hsz : cap * 4 ≤ cur2.size := hsz2
  obtain ⟨cur', c1, c2, c3⟩ := setCells_row seg (n * 4) w cur2 hh2 (by omega)
  refine ⟨h0, inner, ⟨ho.1, .inr ⟨g, cap, cur', by rw [← hvn], hb2, c1, hnc2, hm2, by rw [c2]; exact hsz2, ?_⟩⟩, hr⟩
  rw [← htk2, c3, ← hvn]
  show (cur2.toList.take (n * 4) ++ seg ++ cur2.toList.drop (n * 4 + seg.length)).take (n * 4) = cur2.toList.take (n * 4)
  rw [List.append_assoc, List.take_append_of_le_length (by rw [List.length_take, Array.length_toList]; omega), List.take_take, Nat.min_self]
theorem S_room {w : World} {base g n cap : Nat} {ok : Nat → Prop} {xs : List S34} (h : Kd.S k34 34 w base ok (.slice (some ⟨g, 0, none⟩) n cap) xs) (j : Nat) (hj : j < cap * 4) :
    (w.cell? ⟨g, j, none⟩).isSome = true ∧ w.frozen? ⟨g, j, none⟩ = false := by
  obtain ⟨inner, ho⟩ := Kd.S_own h
  rcases ho.2 with ⟨hv, _⟩ | ⟨g2, cap2, cur2, hv, hb2, hh2, hnc2, hm2, hsz2, htk2⟩
  · cases hv
  injection hv with hva hvn hvc
  injection hva with hva
  injection hva with hvg
  subst hvg hvc
  have hsz : cap * 4 ≤ cur2.size := hsz2
  refine ⟨?_, blk_frozen hh2 j⟩
  rw [blk_cell hh2 j, Array.getElem?_eq_getElem (by omega)]; rfl
set_option maxHeartbeats 8000000 in
set_option maxRecDepth 100000 in
theorem items_erase (A : Option Addr) (c : Nat) (xs : List S34) (i : Nat) (hi : i < xs.length) (w : World) (base : Nat) (ok : Nat → Prop) (hS : Kd.S k34 34 w base ok (.slice A xs.length c) xs) :
    Calls Try.prog 105 #[.slice A xs.length c, .int .i64 (i : Int), .int .i64 ((i : Int) + 1)] w fun e w' => ∃ v' : Value, e = .returned v' ∧ Kd.S k34 34 w' base ok v' (xs.eraseIdx i) ∧ w.grownBy w' (Value.slice A xs.length c).ownBlock ∧ v'.ownBlock = (Value.slice A xs.length c).ownBlock := by
  have hu34 := Try.underlying34
  obtain ⟨g, cap, ev, hbg, hgl, _⟩ := Kd.S_form hS (by omega)
  have e2 : A = some ⟨g, 0, none⟩ ∧ c = cap := by
    injection ev with ea en ec
    exact ⟨ea, ec⟩
  obtain ⟨rfl, rfl⟩ := e2
  obtain ⟨_, hcap, hC⟩ := Kd.S_reads' hS
  have hlen := hC.2.1
  obtain ⟨n, hn⟩ : ∃ n, xs.length = n := ⟨_, rfl⟩
  have hrl : (xs.eraseIdx i).length = n - 1 := by rw [List.length_eraseIdx_of_lt hi, hn]
  rw [hn] at hi hS hcap hlen ⊢
  obtain ⟨ti, hti, hz⟩ := Option.map_eq_some_iff.1 info34
  simp only [Prod.mk.injEq] at hz
  have hb34 : base ≤ w.heap.size := by omega
  have HB34 := Aside0.mk hb34
  have HS := Aside0.mk hS
  have HI := Aside0.mk hi
  have HRL := Aside0.mk hrl
  have HCAP := Aside0.mk hcap
  have HLEN := Aside0.mk hlen
  obtain ⟨V, hcutV⟩ : ∃ V, ∀ W : World, (Instr.slice 25 (.slice (some ⟨g, 0, none⟩) n c) (some (.int .i64 (i : Int))) (some (.int .i64 ((i : Int) + 1))) (some (.int .i64 (n : Int)))).run Try.prog W = .ok V W := by
    refine ⟨sliced (some ⟨g, 0, none⟩) (i : Int).toNat ((i : Int) + 1).toNat (n : Int).toNat 4, fun W => ?_⟩
    have hel : Try.prog.elem 25 = 34 := by kernel_rfl
    have hzz : (Go.sizeOf 34).run Try.prog W = .ok 4 W := by kernel_rfl
    rw [run_slice_lhm W 25 _ _ _ (by rw [hel]; exact Try.underlying25) .i64 .i64 .i64 _ _ _ (by omega) (by omega) (by omega) (by omega), hel, hzz]
    rfl
  have hcut1 := cut_to (P := Try.prog) 25 34 .i64 Try.underlying25 hti (some ⟨g, 0, none⟩) n c (i : Int) (by omega) (by omega) hcap
  rw [Int.toNat_natCast] at hcut1
  have hcut2 := cut_from (P := Try.prog) 25 34 .i64 Try.underlying25 hti 4 hz.2.1 (some ⟨g, 0, none⟩) n c ((i : Int) + 1) (by omega) (by omega)
  rw [show ((i : Int) + 1).toNat = i + 1 by omega] at hcut2
  generalize hA2 : (if c = i + 1 then some (⟨g, 0, none⟩ : Addr) else (some (⟨g, 0, none⟩ : Addr)).map (·.add ((i + 1) * 4))) = A2 at hcut2
  have HA2 := Aside0.mk hA2
  have hcut3 : ∀ W : World, (Instr.slice 25 (.slice (some ⟨g, 0, none⟩) (n - 1) c) (some (.int .i64 ((n - 1 : Nat) : Int))) (some (.int .i64 (n : Int))) none).run Try.prog W = .ok (.slice (some ⟨g, (n - 1) * 4, none⟩) 1 (c - (n - 1))) W := by
    intro W
    have hel : Try.prog.elem 25 = 34 := by kernel_rfl
    have hzz : (Go.sizeOf 34).run Try.prog W = .ok 4 W := by kernel_rfl
    rw [run_slice_lh W 25 _ _ _ (by rw [hel]; exact Try.underlying25) .i64 .i64 _ _ (by omega) (by omega) (by omega), hel, hzz]
    have e3 : ¬ c = n - 1 := by omega
    have e4 : (n - (n - 1)) = 1 := by omega
    simp [Result.andThen, sliced, e3, e4, add_plain]
  have hne : ((i : Int) == (i : Int) + 1) = false := beq_eq_false_iff_ne.2 (by omega)
  have hnn : n - 1 ≤ c := by omega
  clear hS hC hcap hA2 hti hz ev hn hrl
  go_enter Try.func105, Try.ntmps105
  go_wp2
  clear hcutV hne hi hlen hbg hgl hnn hb34
  go_region_law ((refine Kd.S_delete_step k34 (w0 := w) base (by rfl) (.tmp 22) (.tmp 25) 25 34 rfl Try.underlying25 (by kernel_rfl) (g := g) (n := n) (c := c) (k := i) rfl rfl HA2.out.symm rfl (by (with_reducible repeat (first | apply Kd.S_drewN | apply Kd.S_drew)); exact HS.out) HI.out (by repeat (first | exact Below.refl _ _ | apply pw_below_drewN | apply below_drew1)) HB34.out ?_; intro w2 hs2 hb2 hg2; have HS2 := Aside0.mk hs2; have HB2 := Aside0.mk hb2; have HG2 := Aside0.mk hg2; clear hs2 hb2 hg2))
  have hi1 := HI.out
  have hcp := HCAP.out
  have hrun := fun ty => run_clear4 w2 ty g ((n - 1) * 4) 1 (c - (n - 1)) (by omega) (fun t ht => (S_room HS2.out _ (by omega)).1) (fun t ht => (S_room HS2.out _ (by omega)).2)
  have hsl := zeros4_length 1
  generalize zeros4 1 = seg at hrun hsl
  obtain ⟨hs3, hg3⟩ := S_beyond HS2.out seg (by rw [hsl]; omega)
  have HS3 := Aside0.mk hs3
  have HG3 := Aside0.mk (grown_trans HG2.out hg3)
  clear hs3 hg3 hsl hi1 hcp
  generalize w2.setCells g ((n - 1) * 4) seg = wz at hrun HS3 HG3
  go_wp2
  go_ret
  have hl : (n : Nat) - 1 = (xs.eraseIdx i).length := HRL.out.symm
  exact ⟨_, rfl, HS3.out, grown_below (by repeat (first | exact Below.refl _ _ | apply pw_below_drewN | apply below_drew1)) HG3.out, rfl⟩
end Go.Proofs.Ytlalkldjpniakaa.P
/- A variable of four cells written whole: its block is told. -/
namespace Go.Proofs.Ytlalkldjpniakaa.P
open Go.RowKit Go.Proofs.YtlalkldjpniakaaW.PrintWords Go.Proofs.YtlalkldjpniakaaW.PrintLast Go.Proofs.YtlalkldjpniakaaW.PrintMore
set_option linter.unusedVariables false
set_option linter.unusedSimpArgs false
theorem box_put3 {ops : Array Oper} {rest : List Oper} {o : Oper} {a : Act} {Q : Exit → Act → World → Prop} {W : World} (hN : o.dst = none) (hgd : o.guard = none) (p x : Operand) (ho : o.op = .store 34 p x) {g : Nat} {a0 a1 a2 a3 b0 b1 b2 b3 : Value}
    (haddr : a.eval p = .pointer (some ⟨g, 0, none⟩)) (hx : a.eval x = .agg #[b0, b1, b2, b3]) (hb : W.heap[g]? = some (.cells #[a0, a1, a2, a3] 34 (0, 0)))
    (h1 : ∀ u ∈ [b0, b1, b2, b3], u.oneCell' = true) (hc : (Value.agg #[b0, b1, b2, b3]).cells.toList = [b0, b1, b2, b3])
    (h : ∀ w1, W.grownBy w1 (some g) → w1.heap[g]? = some (.cells #[b0, b1, b2, b3] 34 (0, 0)) → wpList Try.prog ops Q rest a w1) : wpList Try.prog ops Q (o :: rest) a W := by
  obtain ⟨cur', c1, c2, c3⟩ := setCells_row [b0, b1, b2, b3] 0 W #[a0, a1, a2, a3] hb (by simp)
  have hcur : cur' = #[b0, b1, b2, b3] := by
    apply Array.toList_inj.1
    rw [c3]; rfl
  subst hcur
  have hrun : (Instr.storeAt 34 (.pointer (some ⟨g, 0, none⟩)) (.agg #[b0, b1, b2, b3])).run Try.prog W = .ok () (W.setCells g 0 [b0, b1, b2, b3]) :=
    run_store_run 34 _ _ hb hc (by kernel_rfl) (by simp) h1
  refine wpList_plain hgd fun K hK => ?_
  unfold Oper.wp execOp
  simp only [ho, haddr, hx, Sem.run_bind, Sem.run_pure, Result.andThen_ok, hrun]
  show K (a.put o.dst undef) _
  rw [hN]
  exact hK a _ (h _ (grown_setCells4 W g 0 _) c1)
end Go.Proofs.Ytlalkldjpniakaa.P
