import Derived.Test.Ytlalkldjpniakaapu6
import Derived.Shelf.Abstract
/- Short names for theorems that the texts name often; they state what the long ones state. -/
namespace Go.Proofs.Ytlalkldjpniakaa.P
open Go.RowKit Go.Proofs.YtlalkldjpniakaaW.PrintWords Go.Proofs.YtlalkldjpniakaaW.PrintLast Go.Proofs.YtlalkldjpniakaaW.PrintMore
theorem bind_ofs {α β : Type} {a : α} {f : α → Option β} {r : Option β} (H : (some a).bind f = r) : f a = r := H
theorem Kd.R_ofs {α : Type} {d : Kd α} {e : Nat} {W w1 : World} {base : Nat} {ok : Nat → Prop} {v : Value} {xs : List α} (h : Kd.R d e W base ok v xs) (_ : Below W.heap.size W w1) : Kd.R d e W base ok v xs := h
theorem below_ofs {B : Nat} {w W w1 : World} (h : Below B w W) (_ : Below W.heap.size W w1) : Below B w W := h
theorem zab : type_of% @pw_below_drewN := @pw_below_drewN
theorem zac : type_of% @below_drew1 := @below_drew1
theorem zad : type_of% @of_decide_eq_true := @of_decide_eq_true
theorem zae : type_of% @below_alloc := @below_alloc
theorem zaf : type_of% @blk_cell := @blk_cell
theorem zag : type_of% @List.setIfInBounds_toArray := @List.setIfInBounds_toArray
theorem zah : type_of% @blk_frozen := @blk_frozen
theorem zai : type_of% @below_step := @below_step
theorem zak : type_of% @Option.bind_eq_some_iff := @Option.bind_eq_some_iff
theorem zal : type_of% @below_set := @below_set
theorem zam : type_of% @below_size := @below_size
theorem zan : type_of% @List.set_cons_zero := @List.set_cons_zero
theorem zao : type_of% @List.set_cons_succ := @List.set_cons_succ
theorem zap : type_of% @World.drewN_drewN := @World.drewN_drewN
theorem zaq : type_of% @blk_drewN := @blk_drewN
theorem zar : type_of% @blk_alloc := @blk_alloc
theorem zas : type_of% @decide_eq_true := @decide_eq_true
theorem zat : type_of% @List.map_toArray := @List.map_toArray
theorem zav : type_of% @blk_drew := @blk_drew
theorem zaw : type_of% @Nat.le_refl := @Nat.le_refl
theorem zay : type_of% @eq_true := @eq_true
theorem zbb : type_of% @errW_none := @errW_none
theorem zbc : type_of% @errW_some := @errW_some
theorem zbe : type_of% @List.map_cons := @List.map_cons
theorem zbf : type_of% @Kd.C_below := @Kd.C_below
theorem zbh : type_of% @List.map_nil := @List.map_nil
theorem zbj : type_of% @decide_eq_false := @decide_eq_false
theorem zbl : type_of% @Kd.S_alloc := @Kd.S_alloc
theorem zbm : type_of% @Kd.S_drewN := @Kd.S_drewN
theorem zbq : type_of% @pw_cell_below := @pw_cell_below
theorem zbr : type_of% @Kd.R_mono := @Kd.R_mono
theorem zbs : type_of% @Kd.C_alloc := @Kd.C_alloc
theorem zbt : type_of% @Below.refl := @Below.refl
theorem zbu : type_of% @Kd.S_drew := @Kd.S_drew
theorem zbv : type_of% @gate_callee := @gate_callee
theorem zbw : type_of% @Kd.C_drewN := @Kd.C_drewN
theorem zbx : type_of% @Kd.R_lower := @Kd.R_lower
theorem zby : type_of% @Nat.add_assoc := @Nat.add_assoc
theorem zcc : type_of% @gate_dst := @gate_dst
theorem zcd : type_of% @Kd.C_drew := @Kd.C_drew
theorem zce : type_of% @blk_below := @blk_below
theorem zcf : type_of% @List.length_take := @List.length_take
theorem zch : type_of% @List.length_drop := @List.length_drop
theorem zci : type_of% @Kd.R_slice := @Kd.R_slice
theorem zcj : type_of% @Kd.R_alloc := @Kd.R_alloc
theorem zck : type_of% @Kd.R_drewN := @Kd.R_drewN
theorem zcm : type_of% @Kd.S_reads' := @Kd.S_reads'
theorem zcn : type_of% @LeO.refl := @LeO.refl
theorem zcp : type_of% @bne_eq_false_iff_eq := @bne_eq_false_iff_eq
theorem zcq : type_of% @beq_eq_false_iff_ne := @beq_eq_false_iff_ne
theorem zcr : type_of% @Kd.R_apart' := @Kd.R_apart'
theorem zcs : type_of% @LeO.bind := @LeO.bind
theorem zct : type_of% @box_event := @box_event
theorem zcu : type_of% @Kd.R_types := @Kd.R_types
theorem zcv : type_of% @Kd.S_below := @Kd.S_below
theorem zcw : type_of% @Kd.R_drew := @Kd.R_drew
theorem zcx : type_of% @gate_builtin := @gate_builtin
theorem zcy : type_of% @max_three := @max_three
theorem zcz : type_of% @min_three := @min_three
theorem zda : type_of% @LeO.none := @LeO.none
theorem zdb : type_of% @Option.some.injEq := @Option.some.injEq
theorem zdc : type_of% @Kd.S_typed := @Kd.S_typed
theorem zdd : type_of% @Nat.le_trans := @Nat.le_trans
theorem zde : type_of% @Prod.mk.injEq := @Prod.mk.injEq
theorem zdf : type_of% @Kd.S_mono := @Kd.S_mono
theorem zdh : type_of% @LeO.ite := @LeO.ite
theorem zdj : type_of% @max2_int := @max2_int
theorem zdk : type_of% @min2_int := @min2_int
theorem zdl : type_of% @max_four := @max_four
theorem zdm : type_of% @min_four := @min_four
theorem zdo : type_of% @Bool.eq_false_iff := @Bool.eq_false_iff
theorem zdr : type_of% @Kd.R_base := @Kd.R_base
theorem zds : type_of% @Eq.trans := @Eq.trans
theorem zdt : type_of% @congrArg := @congrArg
theorem zdu : type_of% @Nat.lt_of_lt_of_le := @Nat.lt_of_lt_of_le
theorem zdw : type_of% @List.not_mem_nil := @List.not_mem_nil
theorem zdx : type_of% @Kd.S_append := @Kd.S_append
theorem zdy : type_of% @Kd.R_tight := @Kd.R_tight
theorem zed : type_of% @max_two := @max_two
theorem zee : type_of% @min_two := @min_two
theorem zef : type_of% @Kd.S_lower := @Kd.S_lower
theorem zeg : type_of% @Kd.S_elder' := @Kd.S_elder'
theorem zei : type_of% @Nat.min_eq_left := @Nat.min_eq_left
theorem zej : type_of% @List.mem_cons := @List.mem_cons
theorem zel : type_of% @Reps.none := @Reps.none
theorem zen : type_of% @pw_below_grown := @pw_below_grown
theorem zep : type_of% @beq_iff_eq := @beq_iff_eq
theorem zeq : type_of% @bne_iff_ne := @bne_iff_ne
theorem zez : type_of% @Kd.freshB := @Kd.freshB
theorem zfb : type_of% @blk_grown := @blk_grown
theorem zfd : type_of% @Kd.S_bound := @Kd.S_bound
theorem zfe : type_of% @blk_put := @blk_put
theorem zff : type_of% @Int.toNat_le := @Int.toNat_le
theorem zfi : type_of% @Kd.V_below := @Kd.V_below
theorem zfj : type_of% @k34_mkM := @k34_mkM
theorem zfo : type_of% @gate_store := @gate_store
theorem zfq : type_of% @Kd.S_away := @Kd.S_away
theorem zfr : type_of% @Kd.R_far := @Kd.R_far
theorem zfs : type_of% @Kd.S_slice := @Kd.S_slice
end Go.Proofs.Ytlalkldjpniakaa.P
/- Searching a list of items with a function value that takes an item and keeps what was: slices.IndexFunc, slices.ContainsFunc; for every list. -/
namespace Go.Proofs.Ytlalkldjpniakaa.P
open Go.RowKit Go.Proofs.YtlalkldjpniakaaW.PrintWords Go.Proofs.YtlalkldjpniakaaW.PrintLast Go.Proofs.YtlalkldjpniakaaW.PrintMore
set_option linter.unusedVariables false
set_option linter.unusedSimpArgs false
/-- What is asked of a function value: at every item it answers p, wherever block gc (what it has caught) holds o; and it leaves what was. -/
def PredI (g : Nat) (lb : Array Value) (gc : Nat) (o : Obj) (p : S34 → Bool) : Prop :=
  ∀ (W : World) (x : S34) (A : Option Addr) (c : Nat), W.heap[gc]? = some o → Calls Try.prog g (#[.agg #[.string x.f0, .int .i64 x.f1, .int .i64 x.f2, .slice A x.f3.length c]] ++ lb) W fun e w' => e = .returned (.bool (p x)) ∧ Below W.heap.size W w'
/-- The first place at which p holds, or -1. -/
def idxI (p : S34 → Bool) (xs : List S34) : Int := match xs.findIdx? p with
  | some i => (i : Int)
  | none => -1
theorem idxI_hit {p : S34 → Bool} {xs : List S34} {k : Nat} (hk : k < xs.length) (h : p (xs.getD k z34) = true) (ha : ∀ j, j < k → p (xs.getD j z34) = false) : idxI p xs = (k : Int) := by
  have h1 : xs.findIdx? p = some k := by
    rw [List.findIdx?_eq_some_iff_getElem]
    refine ⟨hk, by simpa [List.getD_eq_getElem?_getD, hk] using h, fun j hj => ?_⟩
    have := ha j hj
    simpa [List.getD_eq_getElem?_getD, show j < xs.length by omega] using this
  unfold idxI
  rw [h1]
theorem idxI_miss {p : S34 → Bool} {xs : List S34} (ha : ∀ j, j < xs.length → p (xs.getD j z34) = false) : idxI p xs = -1 := by
  have h1 : xs.findIdx? p = none := by
    rw [List.findIdx?_eq_none_iff]
    intro x hx
    obtain ⟨j, hj, rfl⟩ := List.mem_iff_getElem.1 hx
    have := ha j hj
    simpa [List.getD_eq_getElem?_getD, hj] using this
  unfold idxI
  rw [h1]
theorem idxI_cases (p : S34 → Bool) (xs : List S34) : (idxI p xs = -1 ∧ ∀ j, j < xs.length → p (xs.getD j z34) = false) ∨ ∃ k : Nat, k < xs.length ∧ idxI p xs = (k : Int) ∧ p (xs.getD k z34) = true ∧ ∀ j, j < k → p (xs.getD j z34) = false := by
  cases h : xs.findIdx? p with
  | none =>
    rw [List.findIdx?_eq_none_iff] at h
    have ha : ∀ j, j < xs.length → p (xs.getD j z34) = false := fun j hj => by
      have := h (xs.getD j z34) (by simp [List.getD_eq_getElem?_getD, hj])
      simpa using this
    exact .inl ⟨idxI_miss ha, ha⟩
  | some k =>
    rw [List.findIdx?_eq_some_iff_getElem] at h
    obtain ⟨hk, h1, h2⟩ := h
    have ha : ∀ j, j < k → p (xs.getD j z34) = false := fun j hj => by
      have := h2 j hj
      simpa [List.getD_eq_getElem?_getD, show j < xs.length by omega] using this
    have hp : p (xs.getD k z34) = true := by simpa [List.getD_eq_getElem?_getD, hk] using h1
    exact .inr ⟨k, hk, idxI_hit hk hp ha, hp, ha⟩
theorem any_idxI (p : S34 → Bool) (xs : List S34) : xs.any p = decide (0 ≤ idxI p xs) := by
  rcases idxI_cases p xs with ⟨h, ha⟩ | ⟨k, hk, h, hp, _⟩
  · rw [h]
    rw [List.any_eq_false.2 fun x hx => ?_]
    · rfl
    · obtain ⟨j, hj, rfl⟩ := List.mem_iff_getElem.1 hx
      have := ha j hj
      simpa [List.getD_eq_getElem?_getD, hj] using this
  · rw [h, List.any_eq_true.2 ⟨xs.getD k z34, by simp [List.getD_eq_getElem?_getD, hk], hp⟩]
    exact (decide_eq_true (by omega)).symm
set_option maxHeartbeats 4000000 in
set_option maxRecDepth 100000 in
theorem items_index (p : S34 → Bool) (g : Nat) (lb : Array Value) (gc : Nat) (o : Obj) (hp : PredI g lb gc o p) (eg : ∀ args w, (callFunc g args).run Try.prog w = .ok (.enter g args) w) (A : Option Addr) (c : Nat) (xs : List S34) (w : World) (hr : Kd.C k34 w A xs.length xs) (hc : xs.length ≤ c) (ho : w.heap[gc]? = some o) :
    Calls Try.prog 102 #[.slice A xs.length c, .func (.func g) #[] lb] w fun e w' => e = .returned (.int .i64 (idxI p xs)) ∧ Below w.heap.size w w' := by
  have hu34 := Try.underlying34
  have HR := Aside0.mk hr
  have HP := Aside0.mk hp
  have HO := Aside0.mk ho
  have hlen := hr.2.1
  obtain ⟨n, hn⟩ : ∃ n, xs.length = n := ⟨_, rfl⟩
  rw [hn] at hlen ⊢
  have HN := Aside0.mk hn
  clear hr hc hp ho hn
  go_enter Try.func102, Try.ntmps102
  go_wp2
  go_loopg [5, 8] n (fun gg _ s8 wr => ∃ kk : Nat, kk ≤ n ∧ n - kk ≤ gg ∧ s8 = .int .i64 kk ∧ Aside0 (Below w.heap.size w wr) ∧ Aside0 (∀ j, j < kk → p (xs.getD j z34) = false))
  case atStart => exact ⟨0, Nat.zero_le _, by omega, rfl, ⟨Below.refl _ w⟩, ⟨fun j hj => absurd hj (Nat.not_lt_zero _)⟩⟩
  case round =>
    obtain ⟨kk, hkk, hg, rfl, HB, FA⟩ := hrel
    by_cases hlt : kk < n
    · have hltz : (kk : Int) < (n : Int) := by omega
      obtain ⟨ad, A3, c3, rfl, h0, h1, h2, h3, _, _⟩ := at_T34 HR.out (kk : Int) (by omega) (by rw [HN.out]; exact hltz)
      replace h0 := (HB.out.cell (World.block_lt_of_cell? w _ h0)).trans h0
      replace h1 := (HB.out.cell (World.block_lt_of_cell? w _ h1)).trans h1
      replace h2 := (HB.out.cell (World.block_lt_of_cell? w _ h2)).trans h2
      replace h3 := (HB.out.cell (World.block_lt_of_cell? w _ h3)).trans h3
      simp only [Int.toNat_natCast] at h0 h1 h2 h3
      have hgc : gc < w.heap.size := (Array.getElem?_eq_some_iff.1 HO.out).1
      have hcall := HP.out wr (rd_T34 xs (kk : Int)) A3 c3 ((HB.out.block gc hgc).trans HO.out)
      have hx : rd_T34 xs (kk : Int) = xs.getD kk z34 := by unfold rd_T34; rw [Int.toNat_natCast]
      have HX := Aside0.mk hx
      generalize rd_T34 xs (kk : Int) = y at h0 h1 h2 h3 hcall HX
      clear hx hgc
      cases hq : p y with
      | true =>
        rw [hq] at hcall
        go_wp2_with (go_at_fn g; refine hcall.mono ?_; rintro e w' ⟨rfl, hb'⟩)
        go_ret
        exact ⟨by rw [idxI_hit (p := p) (xs := xs) (k := kk) (by rw [HN.out]; exact hlt) (by rw [← HX.out]; exact hq) FA.out]; rfl, below_step HB.out hb'⟩
      | false =>
        rw [hq] at hcall
        go_wp2_with (go_at_fn g; refine hcall.mono ?_; rintro e w' ⟨rfl, hb'⟩)
        go_roundg (n - (kk + 1))
        case measure => omega
        case rel =>
          refine ⟨kk + 1, by omega, by omega, by go_num, ⟨below_step HB.out hb'⟩, ⟨fun j hj => ?_⟩⟩
          by_cases e : j = kk
          · subst e
            rw [← HX.out]; exact hq
          · exact FA.out j (by omega)
    · have hltz : ¬ (kk : Int) < (n : Int) := by omega
      obtain rfl : kk = n := by omega
      go_wp2
      go_ret
      exact ⟨by rw [idxI_miss (p := p) (xs := xs) (fun j hj => FA.out j (by rw [← HN.out]; exact hj))]; rfl, HB.out⟩
set_option maxHeartbeats 4000000 in
set_option maxRecDepth 100000 in
theorem items_any (p : S34 → Bool) (g : Nat) (lb : Array Value) (gc : Nat) (o : Obj) (hp : PredI g lb gc o p) (eg : ∀ args w, (callFunc g args).run Try.prog w = .ok (.enter g args) w) (A : Option Addr) (c : Nat) (xs : List S34) (w : World) (hr : Kd.C k34 w A xs.length xs) (hc : xs.length ≤ c) (ho : w.heap[gc]? = some o) :
    Calls Try.prog 99 #[.slice A xs.length c, .func (.func g) #[] lb] w fun e w' => e = .returned (.bool (xs.any p)) ∧ Below w.heap.size w w' := by
  have hI := items_index p g lb gc o hp eg A c xs w hr hc ho
  rw [any_idxI]
  generalize idxI p xs = r at hI ⊢
  clear hr hc ho hp
  go_enter Try.func99, Try.ntmps99
  go_wp2_with ((go_at_call 102; refine hI.mono ?_; rintro e w' ⟨rfl, hb'⟩))
  go_ret
  exact ⟨rfl, hb'⟩
end Go.Proofs.Ytlalkldjpniakaa.P
