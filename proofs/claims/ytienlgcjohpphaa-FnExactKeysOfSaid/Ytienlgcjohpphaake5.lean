import Derived.Test.YtienlgcjohpphaaProg
import Derived.Lib.Bytealg
import Derived.Lib.SliceRun
import Derived.Lib.SlBuf
import Derived.Lib.MakeNoZero
import Derived.Test.Ytienlgcjohpphaake4
namespace Go.Proofs.Ytienlgcjohpphaa.P
open Go.RowKit Go.Proofs.YtienlgcjohpphaaW.PrintWords Go.Proofs.YtienlgcjohpphaaW.PrintLast Go.Proofs.YtienlgcjohpphaaW.PrintMore
attribute [local go_sem] max2_int min2_int max_two min_two max_three min_three max_four min_four   -- for this text's walks alone
set_option linter.unusedVariables false
set_option linter.unusedSimpArgs false



def errW : Option Int → Value
 | none => .nilIface
 | some c => .iface 0 (.int .i64 c)
theorem errW_none : errW none = .nilIface := rfl
theorem errW_some (c : Int) : errW (some c) = .iface 0 (.int .i64 c) := rfl

theorem info3 : (Try.prog.info? 3).map (fun i => (i.zero, i.size, i.bytes)) = some (some (.int .i64 0), 1, 8) := by kernel_rfl
theorem info5 : (Try.prog.info? 5).map (fun i => (i.zero, i.size, i.bytes)) = some (some (.int .u8 0), 1, 1) := by kernel_rfl
theorem info23 : (Try.prog.info? 23).map (fun i => (i.zero, i.size, i.bytes)) = some (some (.slice none 0 0), 1, 24) := by kernel_rfl
-- the values' own types
def rd_L2 (xs : List (List Int)) (i : Int) : (List Int) := xs.getD i.toNat ([] : List Int)
theorem at_L2 {w : World} {A : Option Addr} {n : Nat} {xs : List (List Int)} (h : Kd.C (Kd.slice 3 (Kd.int .i64)) w A n xs) (i : Int) (h0 : 0 ≤ i) (h1 : i < n) : ∃ ad A0 c0, A = some ad ∧ w.cell? (ad.add i.toNat) = some (.slice A0 (rd_L2 xs i).length c0) ∧ (rd_L2 xs i).length ≤ c0 ∧ (Kd.int .i64).C w A0 (rd_L2 xs i).length (rd_L2 xs i) := by
 obtain ⟨ad, c, e, _, hK, hc0⟩ := Kd.C_get h ([] : List Int) i h0 h1
 have hc : ∀ j u, c[j]? = some u → w.cell? (ad.add (i.toNat * 1 + j)) = some u := hc0
 obtain ⟨A0, c0, rfl, l0, g0⟩ := hK
 exact ⟨ad, A0, c0, e, by have hq := hc 0 _ rfl; rwa [Nat.mul_one, Nat.add_zero] at hq, l0, g0⟩

def rd_L3 (xs : List (List Int)) (i : Int) : (List Int) := xs.getD i.toNat ([] : List Int)
theorem at_L3 {w : World} {A : Option Addr} {n : Nat} {xs : List (List Int)} (h : Kd.C (Kd.slice 5 (Kd.int .u8)) w A n xs) (i : Int) (h0 : 0 ≤ i) (h1 : i < n) : ∃ ad A0 c0, A = some ad ∧ w.cell? (ad.add i.toNat) = some (.slice A0 (rd_L3 xs i).length c0) ∧ (rd_L3 xs i).length ≤ c0 ∧ (Kd.int .u8).C w A0 (rd_L3 xs i).length (rd_L3 xs i) := by
 obtain ⟨ad, c, e, _, hK, hc0⟩ := Kd.C_get h ([] : List Int) i h0 h1
 have hc : ∀ j u, c[j]? = some u → w.cell? (ad.add (i.toNat * 1 + j)) = some u := hc0
 obtain ⟨A0, c0, rfl, l0, g0⟩ := hK
 exact ⟨ad, A0, c0, e, by have hq := hc 0 _ rfl; rwa [Nat.mul_one, Nat.add_zero] at hq, l0, g0⟩

def rd_L4 (xs : List (List (List Int))) (i : Int) : (List (List Int)) := xs.getD i.toNat ([] : List (List Int))
theorem at_L4 {w : World} {A : Option Addr} {n : Nat} {xs : List (List (List Int))} (h : Kd.C (Kd.slice 23 (Kd.slice 5 (Kd.int .u8))) w A n xs) (i : Int) (h0 : 0 ≤ i) (h1 : i < n) : ∃ ad A0 c0, A = some ad ∧ w.cell? (ad.add i.toNat) = some (.slice A0 (rd_L4 xs i).length c0) ∧ (rd_L4 xs i).length ≤ c0 ∧ (Kd.slice 5 (Kd.int .u8)).C w A0 (rd_L4 xs i).length (rd_L4 xs i) := by
 obtain ⟨ad, c, e, _, hK, hc0⟩ := Kd.C_get h ([] : List (List Int)) i h0 h1
 have hc : ∀ j u, c[j]? = some u → w.cell? (ad.add (i.toNat * 1 + j)) = some u := hc0
 obtain ⟨A0, c0, rfl, l0, g0⟩ := hK
 exact ⟨ad, A0, c0, e, by have hq := hc 0 _ rfl; rwa [Nat.mul_one, Nat.add_zero] at hq, l0, g0⟩
end Go.Proofs.Ytienlgcjohpphaa.P
/- Short names for theorems that the texts name often; they state what the long ones state. -/
namespace Go.Proofs.Ytienlgcjohpphaa.P
open Go.RowKit Go.Proofs.YtienlgcjohpphaaW.PrintWords Go.Proofs.YtienlgcjohpphaaW.PrintLast Go.Proofs.YtienlgcjohpphaaW.PrintMore
theorem bind_ofs {α β : Type} {a : α} {f : α → Option β} {r : Option β} (H : (some a).bind f = r) : f a = r := H
theorem Kd.R_ofs {α : Type} {d : Kd α} {e : Nat} {W w1 : World} {base : Nat} {ok : Nat → Prop} {v : Value} {xs : List α} (h : Kd.R d e W base ok v xs) (_ : Below W.heap.size W w1) : Kd.R d e W base ok v xs := h
theorem below_ofs {B : Nat} {w W w1 : World} (h : Below B w W) (_ : Below W.heap.size W w1) : Below B w W := h
theorem bq {P : Prop} (h : P := by repeat (first | (with_reducible first | exact HB.out | apply below_alloc | apply pw_below_drewN | apply below_drew1) | exact HB.out)) : P := h
theorem pR {P A : Prop} (a : A) (h : A → P := by intro a_; (with_reducible repeat (first | apply Kd.R_alloc | apply Kd.R_drewN | apply Kd.R_drew)); exact a_) : P := h a
theorem pN {P A : Prop} (a : A) (h : A → P := by intro a_; (with_reducible repeat (first | apply Kd.N_alloc | apply Kd.N_drewN | apply Kd.N_drew)); exact a_) : P := h a
theorem pV {P A : Prop} (a : A) (h : A → P := by intro a_; (with_reducible repeat (first | apply Kd.V_alloc | apply Kd.V_drewN | apply Kd.V_drew)); exact a_) : P := h a
theorem jcs {P A : Prop} (a : A) (h : A → P := by intro a_; repeat (first | exact (Kd.C_below a_ HB.out) | (with_reducible first | apply Kd.C_alloc | apply Kd.C_drewN | apply Kd.C_drew))) : P := h a
theorem jab {P : Prop} (h : P := by first | (with_reducible assumption) | assumption) : P := h
theorem jex {P : Prop} (h : P := by first | rfl | (simp [errW_none, errW_some] <;> rfl) | (simp [*, errW_none, errW_some] <;> rfl)) : P := h
theorem jer {P : Prop} (h : P := by first | rfl | (simp; done) | (simp [*]; done)) : P := h
theorem jhl {P : Prop} (h : P := by (try simp only [List.map_toArray, List.map_cons, List.map_nil]); first | done | rfl | (simp only [List.length_drop, List.length_take]; rfl) | (simp only [List.length_drop, List.length_take]; rw [Nat.min_eq_left (Int.toNat_le.mpr (of_eq_true (by assumption)))])) : P := h
theorem bto {α β : Type} {y a : α} {f : α → Option β} {r : Option β} (h : y = a) (H : (some a).bind f = r) : f y = r := h ▸ H
theorem jcB {w w' : World} {a : Addr} {v : Value} (b : Below w.heap.size w w') (h : w.cell? a = some v) : w'.cell? a = some v := (b.cell (World.block_lt_of_cell? w _ h)).trans h
theorem beqT {α : Type} [BEq α] [LawfulBEq α] {a b : α} (h : a = b) : (a == b) = true := beq_iff_eq.mpr h
section
variable {P : Program} {ops : Array Oper} {Q : Exit → Act → World → Prop} {rest : List Oper} {o : Oper} {a : Act} {W : World}
theorem jgd (N : Tmp) (h : wpList P ops Q (o :: rest) a W) (_hN : o.dst = some N := by with_reducible rfl) : wpList P ops Q (o :: rest) a W := h
end
theorem jA2 {p0 p1 : Prop} (x0 : p0) (x1 : p1) : Aside0 p0 ∧ Aside0 p1 := ⟨⟨x0⟩, ⟨x1⟩⟩
theorem jA3 {p0 p1 p2 : Prop} (x0 : p0) (x1 : p1) (x2 : p2) : Aside0 p0 ∧ Aside0 p1 ∧ Aside0 p2 := ⟨⟨x0⟩, ⟨x1⟩, ⟨x2⟩⟩
theorem jA4 {p0 p1 p2 p3 : Prop} (x0 : p0) (x1 : p1) (x2 : p2) (x3 : p3) : Aside0 p0 ∧ Aside0 p1 ∧ Aside0 p2 ∧ Aside0 p3 := ⟨⟨x0⟩, ⟨x1⟩, ⟨x2⟩, ⟨x3⟩⟩
theorem jA5 {p0 p1 p2 p3 p4 : Prop} (x0 : p0) (x1 : p1) (x2 : p2) (x3 : p3) (x4 : p4) : Aside0 p0 ∧ Aside0 p1 ∧ Aside0 p2 ∧ Aside0 p3 ∧ Aside0 p4 := ⟨⟨x0⟩, ⟨x1⟩, ⟨x2⟩, ⟨x3⟩, ⟨x4⟩⟩
theorem jA6 {p0 p1 p2 p3 p4 p5 : Prop} (x0 : p0) (x1 : p1) (x2 : p2) (x3 : p3) (x4 : p4) (x5 : p5) : Aside0 p0 ∧ Aside0 p1 ∧ Aside0 p2 ∧ Aside0 p3 ∧ Aside0 p4 ∧ Aside0 p5 := ⟨⟨x0⟩, ⟨x1⟩, ⟨x2⟩, ⟨x3⟩, ⟨x4⟩, ⟨x5⟩⟩
theorem jA10 {p0 p1 p2 p3 p4 p5 p6 p7 p8 p9 : Prop} (x0 : p0) (x1 : p1) (x2 : p2) (x3 : p3) (x4 : p4) (x5 : p5) (x6 : p6) (x7 : p7) (x8 : p8) (x9 : p9) : Aside0 p0 ∧ Aside0 p1 ∧ Aside0 p2 ∧ Aside0 p3 ∧ Aside0 p4 ∧ Aside0 p5 ∧ Aside0 p6 ∧ Aside0 p7 ∧ Aside0 p8 ∧ Aside0 p9 := ⟨⟨x0⟩, ⟨x1⟩, ⟨x2⟩, ⟨x3⟩, ⟨x4⟩, ⟨x5⟩, ⟨x6⟩, ⟨x7⟩, ⟨x8⟩, ⟨x9⟩⟩
theorem jA11 {p0 p1 p2 p3 p4 p5 p6 p7 p8 p9 p10 : Prop} (x0 : p0) (x1 : p1) (x2 : p2) (x3 : p3) (x4 : p4) (x5 : p5) (x6 : p6) (x7 : p7) (x8 : p8) (x9 : p9) (x10 : p10) : Aside0 p0 ∧ Aside0 p1 ∧ Aside0 p2 ∧ Aside0 p3 ∧ Aside0 p4 ∧ Aside0 p5 ∧ Aside0 p6 ∧ Aside0 p7 ∧ Aside0 p8 ∧ Aside0 p9 ∧ Aside0 p10 := ⟨⟨x0⟩, ⟨x1⟩, ⟨x2⟩, ⟨x3⟩, ⟨x4⟩, ⟨x5⟩, ⟨x6⟩, ⟨x7⟩, ⟨x8⟩, ⟨x9⟩, ⟨x10⟩⟩
section
variable {P : Program} {ops : Array Oper} {Q : Exit → Act → World → Prop} {rest : List Oper} {o : Oper} {a : Act} {W : World}
theorem jgc (f : FuncId) {as_ : Array Operand} {ts : Array TypeId} (h : wpList P ops Q (o :: rest) a W) (_ho : o.op = .call { callee := .value (.func f), args := as_, argTypes := ts } := by with_reducible exact rfl) : wpList P ops Q (o :: rest) a W := h
end
section
variable {P : Program} {ops : Array Oper} {Q : Exit → Act → World → Prop} {rest : List Oper} {o : Oper} {a : Act} {W : World}
theorem jgs (n : Tmp) {f : FuncId} {fn : Func} (hf : P.funcs[f]? = some fn) {as_ : Array Operand} {ts : Array TypeId} (args : Array Value) (h : Calls P f args W fun e w' => ∃ v, e = .returned v ∧ wpList P ops Q rest (a.put (some n) v) w') (hd : o.dst = some n := by rfl) (hg : o.guard = none := by rfl) (hname : (fn.name == "runtime.NumGoroutine") = false := by kernel_rfl) (hb : fn.body.isSome = true := by rfl)
    (hop : o.op = .call { callee := .value (.func f), args := as_, argTypes := ts } := by rfl) (hargs : as_.map a.eval = args := by (try simp only [List.map_toArray, List.map_cons, List.map_nil]); first | done | rfl | (simp only [List.length_drop, List.length_take]; rfl) | (simp only [List.length_drop, List.length_take]; rw [Nat.min_eq_left (Int.toNat_le.mpr (of_eq_true (by assumption)))])) : wpList P ops Q (o :: rest) a W := goesL_ (some n) hd hg hf hname hb args hop hargs h
end
section
variable {P : Program} {ops : Array Oper} {Q : Exit → Act → World → Prop} {md : Region.Mode} {S : World → Prop} {ds : List Nat} {T : Bool × List (List Nat × List Nat)} {oi : Oper} {v : Value} {fuel : Nat} {l : Array Bool} {a a' : Act} {w : World}
theorem andI {A B G : Prop} (h : A → B → G) : A ∧ B → G := fun x => h x.1 x.2
end
section
variable {P : Program} {ops : Array Oper} {Q : Exit → Act → World → Prop} {md : Region.Mode} {S : World → Prop} {ds : List Nat} {T : Bool × List (List Nat × List Nat)} {oi : Oper} {v : Value} {fuel : Nat} {l : Array Bool} {a a' : Act} {w : World}
theorem pu (i : Nat) (n : Tmp) (hT : rtab md ops = T) (h : wpAnyLast P md ops Q S ds fuel (l.setIfInBounds i true) a' w) (hi : ops[i]? = some oi := by rfl) (hN : oi.dst = some n := by rfl) (hc : anyT T l.toList (l.setIfInBounds i true).toList i = true := by kernel_rfl)
    (hQ : ∀ c a w, Q (.panic c) (a.put oi.dst v) w → Q (.panic c) a w := by exact fun _ _ _ h => h) (hw : Region.wanted oi (yielded ops a.tmps) = true := by rfl) (hy : ∀ w', (execOp a.eval oi).run P w' = .ok (.value v) w' := by intro w'; go_simp; with_reducible rfl) (ha : a.put (some n) v = a' := by simp only [Act.put, List.setIfInBounds_toArray, List.set_cons_zero, List.set_cons_succ, i64_w, i32_w]; rfl) : wpAnyLast P md ops Q S ds (fuel + 1) l a w :=
  pure_ (l.setIfInBounds i true) hi hN (any_of hT hc) hQ (.inl ⟨hw, hy⟩) ha h
end
section
variable {P : Program} {ops : Array Oper} {Q : Exit → Act → World → Prop} {md : Region.Mode} {S : World → Prop} {ds : List Nat} {T : Bool × List (List Nat × List Nat)} {oi : Oper} {v : Value} {fuel : Nat} {l : Array Bool} {a a' : Act} {w : World}
theorem tk (i : Nat) (n : Tmp) {B : List Nat} (hT : rtab md ops = T) (hB : waitsOk T.2 B = true) (hS : S w) (h : wpAnyLast P md ops Q S ds fuel (l.setIfInBounds i true) a' w) (hi : ops[i]? = some oi := by rfl) (hN : oi.dst = some n := by rfl) (hc : takeW T B ds l.toList (l.setIfInBounds i true).toList i = true := by kernel_rfl)
    (hQ : ∀ c a w, Q (.panic c) (a.put oi.dst v) w → Q (.panic c) a w := by exact fun _ _ _ h => h) (hw : Region.wanted oi (yielded ops a.tmps) = true := by rfl) (hy : ∀ w', S w' → (execOp a.eval oi).run P w' = .ok (.value v) w' := by first | (intro w' s_; go_simp; with_reducible rfl) | (intro w'; repeat ((with_reducible refine andI ?_); intro s_); intro s_; go_simp; with_reducible rfl)) (ha : a.put (some n) v = a' := by simp only [Act.put, List.setIfInBounds_toArray, List.set_cons_zero, List.set_cons_succ, i64_w, i32_w]; rfl) : wpAnyLast P md ops Q S ds (fuel + 1) l a w :=
  take_ (l.setIfInBounds i true) hi hN (take_ofW hT hB hc) hQ (.inl ⟨hw, hy⟩) hS ha h
end
theorem mt {P : Prop} (h : P := by repeat' first | (with_reducible apply ih0) | (with_reducible apply ih1) | (with_reducible apply ih2) | (with_reducible apply ih3) | (with_reducible apply ih4) | (with_reducible apply ih5) | (with_reducible apply m0) | (with_reducible apply m1) | (with_reducible apply m2) | (with_reducible apply m3) | (with_reducible apply m4) | (with_reducible apply m5) | (with_reducible apply m6) | (with_reducible apply m7) | (with_reducible apply m8) | (with_reducible apply m9) | (with_reducible exact LeO.refl _) | (with_reducible exact LeO.none _) | (with_reducible refine LeO.ite ?_ ?_) | (with_reducible refine LeO.bind ?_ (fun _ => ?_)) | exact LeO.none _ | refine LeO.ite ?_ ?_ | refine LeO.bind ?_ (fun _ => ?_)) : P := h
theorem bnd {α β : Type} {x : Option α} {f : α → Option β} {r : β} (h : x.bind f = some r) : ∃ t, Aside0 (x = some t) ∧ f t = some r := by
  obtain ⟨t, h1, h2⟩ := Option.bind_eq_some_iff.mp h
  exact ⟨t, ⟨h1⟩, h2⟩
theorem jrw {A B P : Prop} (a : A) (b : B) (h : A → B → P := by intro a_ H; first | (rw [a_]; with_reducible first | exact H | exact bind_ofs H) | (with_reducible first | exact H | exact bind_ofs H) | (rw [a_]; exact H) | exact H) : P := h a b
theorem jlt {P : Program} {ops : Array Oper} {rest : List Oper} {o : Oper} {a : Act} {Q : Exit → Act → World → Prop} {α : Type} {W : World} (N : Tmp) (d : Kd α) (e : Nat)
    (h : ∀ v1 w1, d.R e w1 W.heap.size (fun _ => True) v1 [] → Below W.heap.size W w1 → wpList P ops Q rest (a.put o.dst v1) w1) (hd : o.dst = some N := by rfl) (hgd : o.guard = none := by rfl) (hrun : (execOp a.eval o).run P W = .ok (.value (.slice (some ⟨W.heap.size, 0, none⟩) 0 0)) (W.alloc (.cells #[] e)) := by first | (go_simp; done) | (go_simp; rfl)) : wpList P ops Q (o :: rest) a W :=
  Kd.R_lit d _ e hgd hd (xs := []) (inner := []) (ok := fun _ => True) (okp := fun _ => True) hrun (Reps.none _ _) (fun _ hk => hk) trivial (Below.refl _ _) (Nat.le_refl _) (by simp) (fun v1 w1 h1 h2 _ _ => h v1 w1 h1 h2)
theorem tqR {P A : Prop} (a : A) (h : A → P := by intro a_; (with_reducible repeat (first | apply Kd.R_alloc | apply Kd.R_drewN | apply Kd.R_drew)); exact Kd.R_mono a_ (fun _ hk => trivial)) : P := h a
theorem zaa : type_of% @decide_eq_true := @decide_eq_true
theorem zab : type_of% @of_decide_eq_true := @of_decide_eq_true
theorem zad : type_of% @Kd.R_reads' := @Kd.R_reads'
theorem zaf : type_of% @below_size := @below_size
theorem zag : type_of% @Kd.R_base := @Kd.R_base
theorem zai : type_of% @Kd.R_elder' := @Kd.R_elder'
theorem zaj : type_of% @List.setIfInBounds_toArray := @List.setIfInBounds_toArray
theorem zal : type_of% @Kd.R_new' := @Kd.R_new'
theorem zam : type_of% @Reps.one := @Reps.one
theorem zan : type_of% @eq_true := @eq_true
theorem zao : type_of% @below_step := @below_step
theorem zap : type_of% @Kd.R_mono := @Kd.R_mono
theorem zaq : type_of% @Kd.R_drew := @Kd.R_drew
theorem zar : type_of% @Kd.R_lt := @Kd.R_lt
theorem zas : type_of% @Kd.R_lower := @Kd.R_lower
theorem zat : type_of% @decide_eq_false := @decide_eq_false
theorem zau : type_of% @Kd.R_alloc := @Kd.R_alloc
theorem zav : type_of% @Kd.R_drewN := @Kd.R_drewN
theorem zaw : type_of% @Nat.le_refl := @Nat.le_refl
theorem zax : type_of% @Kd.R_slice := @Kd.R_slice
theorem zay : type_of% @List.set_cons_zero := @List.set_cons_zero
theorem zaz : type_of% @List.set_cons_succ := @List.set_cons_succ
theorem zba : type_of% @Kd.C_alloc := @Kd.C_alloc
theorem zbb : type_of% @Kd.C_drewN := @Kd.C_drewN
theorem zbf : type_of% @Kd.C_drew := @Kd.C_drew
theorem zbh : type_of% @Kd.at_int := @Kd.at_int
theorem zbj : type_of% @Below.refl := @Below.refl
theorem zbk : type_of% @Option.bind_eq_some_iff := @Option.bind_eq_some_iff
theorem zbm : type_of% @World.drewN_drewN := @World.drewN_drewN
theorem zbn : type_of% @Bool.eq_false_iff := @Bool.eq_false_iff
theorem zbo : type_of% @Kd.V_reads' := @Kd.V_reads'
theorem zbt : type_of% @max_three := @max_three
theorem zbu : type_of% @min_three := @min_three
theorem zbx : type_of% @gate_builtin := @gate_builtin
theorem zbz : type_of% @max2_int := @max2_int
theorem zca : type_of% @min2_int := @min2_int
theorem zcb : type_of% @max_four := @max_four
theorem zcc : type_of% @min_four := @min_four
theorem zce : type_of% @Kd.R_append_rows := @Kd.R_append_rows
theorem zcg : type_of% @Kd.R_keptB := @Kd.R_keptB
theorem zch : type_of% @Kd.R_after := @Kd.R_after
theorem zci : type_of% @gate_guard := @gate_guard
theorem zcj : type_of% @Kd.R_told := @Kd.R_told
theorem zcn : type_of% @max_two := @max_two
theorem zco : type_of% @min_two := @min_two
theorem zcp : type_of% @List.length_take := @List.length_take
theorem zcr : type_of% @beq_eq_false_iff_ne := @beq_eq_false_iff_ne
theorem zcs : type_of% @Kd.fresh' := @Kd.fresh'
theorem zcu : type_of% @List.length_drop := @List.length_drop
theorem zcv : type_of% @bne_eq_false_iff_eq := @bne_eq_false_iff_eq
theorem zcw : type_of% @Kd.FK_slice_mk := @Kd.FK_slice_mk
theorem zcx : type_of% @List.length_replicate := @List.length_replicate
theorem zcy : type_of% @below_drew1 := @below_drew1
theorem zdd : type_of% @Kd.F_mono := @Kd.F_mono
theorem zde : type_of% @Kd.V_below := @Kd.V_below
theorem zdg : type_of% @List.length_map := @List.length_map
theorem zdh : type_of% @List.length_append := @List.length_append
theorem zdi : type_of% @Nat.add_assoc := @Nat.add_assoc
theorem zdm : type_of% @List.map_toArray := @List.map_toArray
theorem zdp : type_of% @pw_below_drewN := @pw_below_drewN
theorem zdr : type_of% @List.map_cons := @List.map_cons
theorem zds : type_of% @and_imp := @and_imp
theorem zdt : type_of% @Kd.R_append := @Kd.R_append
theorem zdu : type_of% @Reps.none := @Reps.none
theorem zdx : type_of% @List.map_nil := @List.map_nil
theorem zdy : type_of% @Kd.N_reads' := @Kd.N_reads'
theorem zea : type_of% @Option.map_eq_some_iff := @Option.map_eq_some_iff
theorem zeb : type_of% @Kd.V_mk := @Kd.V_mk
end Go.Proofs.Ytienlgcjohpphaa.P
