import Derived.Test.Ytlalkldjpniakaabk5
/- Short names for theorems that the texts name often; they state what the long ones state. -/
namespace Go.Proofs.Ytlalkldjpniakaa.P
open Go.RowKit Go.Proofs.YtlalkldjpniakaaW.PrintWords Go.Proofs.YtlalkldjpniakaaW.PrintLast Go.Proofs.YtlalkldjpniakaaW.PrintMore
theorem bind_ofs {α β:Type} {a:α} {f:α→Option β} {r:Option β} (H:(some a).bind f=r):f a=r:=H
theorem Kd.R_ofs {α:Type} {d:Kd α} {e:Nat} {W w1:World} {base:Nat} {ok:Nat→Prop} {v:Value} {xs:List α} (h:Kd.R d e W base ok v xs) (_:Below W.heap.size W w1):Kd.R d e W base ok v xs:=h
theorem below_ofs {B:Nat} {w W w1:World} (h:Below B w W) (_:Below W.heap.size W w1):Below B w W:=h
theorem bq {P:Prop} (h:P:=by repeat(first | (with_reducible first | exact HB.out | apply below_alloc | apply pw_below_drewN | apply below_drew1) | exact HB.out)):P:=h
theorem bs1 {P A:Prop} (a:A) (h:A→P:=by intro a_;repeat(first | (with_reducible first | exact HB.out | apply below_alloc | apply pw_below_drewN | apply below_drew1 | refine below_set ?_ a_) | exact HB.out)):P:=h a
theorem bs2 {P A B:Prop} (a:A) (b:B) (h:A→B→P:=by intro a_ b_;repeat(first | (with_reducible first | exact HB.out | apply below_alloc | apply pw_below_drewN | apply below_drew1 | refine below_set ?_ a_ | refine below_set ?_ b_) | exact HB.out)):P:=h a b
theorem bs3 {P A B C:Prop} (a:A) (b:B) (c:C) (h:A→B→C→P:=by intro a_ b_ c_;repeat(first | (with_reducible first | exact HB.out | apply below_alloc | apply pw_below_drewN | apply below_drew1 | refine below_set ?_ a_ | refine below_set ?_ b_ | refine below_set ?_ c_) | exact HB.out)):P:=h a b c
theorem jk {P:Prop} (h:P:=by repeat(first | (with_reducible first | exact HK.out | apply KeepBut.set_ | apply keep_drewN | apply keep_drew | apply keep_alloc) | exact HK.out)):P:=h
theorem jks1 {P A:Prop} (a:A) (h:A→P:=by intro a_;repeat(first | (with_reducible first | exact HK.out | apply KeepBut.set_ | apply keep_drewN | apply keep_drew | apply keep_alloc | refine keep_far ?_ a_ _) | exact HK.out)):P:=h a
theorem jks2 {P A B:Prop} (a:A) (b:B) (h:A→B→P:=by intro a_ b_;repeat(first | (with_reducible first | exact HK.out | apply KeepBut.set_ | apply keep_drewN | apply keep_drew | apply keep_alloc | refine keep_far ?_ a_ _ | refine keep_far ?_ b_ _) | exact HK.out)):P:=h a b
theorem pR {P A:Prop} (a:A) (h:A→P:=by intro a_;(with_reducible repeat(first | apply Kd.R_alloc | apply Kd.R_drewN | apply Kd.R_drew));exact a_):P:=h a
theorem pN {P A:Prop} (a:A) (h:A→P:=by intro a_;(with_reducible repeat(first | apply Kd.N_alloc | apply Kd.N_drewN | apply Kd.N_drew));exact a_):P:=h a
theorem pS {P A:Prop} (a:A) (h:A→P:=by intro a_;(with_reducible repeat(first | apply Kd.S_alloc | apply Kd.S_drewN | apply Kd.S_drew));exact a_):P:=h a
theorem pV {P A:Prop} (a:A) (h:A→P:=by intro a_;(with_reducible repeat(first | apply Kd.V_alloc | apply Kd.V_drewN | apply Kd.V_drew));exact a_):P:=h a
theorem pB {P A:Prop} (a:A) (h:A→P:=by intro a_;(with_reducible repeat(first | refine blk_drewN ?_ _ | refine blk_drew ?_ | refine blk_alloc ?_ _));exact a_):P:=h a
theorem jbb {w w1 w2:World} {g:Nat} {o:Obj} (a:w.heap[g]? =some o) (hb:Below w1.heap.size w1 w2) (h:w.heap[g]? =some o→w1.heap[g]? =some o:=by intro a_;(with_reducible repeat(first | refine blk_drewN ?_ _ | refine blk_drew ?_ | refine blk_alloc ?_ _));exact a_):w2.heap[g]? =some o:=blk_below (h a) hb
theorem jcs {P A:Prop} (a:A) (h:A→P:=by intro a_;repeat(first | exact(Kd.C_below a_ HB.out) | (with_reducible first | apply Kd.C_alloc | apply Kd.C_drewN | apply Kd.C_drew))):P:=h a
theorem jab {P:Prop} (h:P:=by first | (with_reducible assumption) | assumption):P:=h
theorem jex {P:Prop} (h:P:=by first | rfl | (simp [errW_none,errW_some] <;> rfl) | (simp [*,errW_none,errW_some] <;> rfl)):P:=h
theorem jer {P:Prop} (h:P:=by first | rfl | (simp;done) | (simp [*];done)):P:=h
theorem jhl {P:Prop} (h:P:=by(try simp only[List.map_toArray,List.map_cons,List.map_nil]);first | done | rfl | (simp only[List.length_drop,List.length_take];rfl) | (simp only[List.length_drop,List.length_take];rw[Nat.min_eq_left (Int.toNat_le.mpr (of_eq_true (by assumption)))])):P:=h
theorem bto {α β:Type} {y a:α} {f:α→Option β} {r:Option β} (h:y=a) (H:(some a).bind f=r):f y=r:=h ▸ H
theorem jcB {w w':World} {a:Addr} {v:Value} (b:Below w.heap.size w w') (h:w.cell? a=some v):w'.cell? a=some v:=(b.cell (World.block_lt_of_cell? w _ h)).trans h
theorem beqT {α:Type} [BEq α] [LawfulBEq α] {a b:α} (h:a=b):(a==b)=true:=beq_iff_eq.mpr h
theorem ge0 {w w':World} {g:Nat} (hg:g=w'.heap.size) (b:Below w.heap.size w w'):w.heap.size≤g:=hg ▸ below_size b
theorem nl {w:World} {g g':Nat} {o:Obj} (hg:g'=w.heap.size) (h:w.heap[g]? =some o):g≠g':=hg ▸ Nat.ne_of_lt (blk_lt h)
theorem ng {w:World} {g g':Nat} {o:Obj} (hg:g'=w.heap.size) (h:w.heap[g]? =some o):g'≠g:=hg ▸ Nat.ne_of_gt (blk_lt h)
theorem cz4 {w:World} {g t:Nat} {a0 a1 a2 a3:Value} (h:w.heap[g]? =some (.cells #[a0,a1,a2,a3] t (0,0))):w.cell? ⟨g,0,none⟩=some a0∧w.cell? ⟨g,1,none⟩=some a1∧w.cell? ⟨g,2,none⟩=some a2∧w.cell? ⟨g,3,none⟩=some a3∧w.frozen? ⟨g,0,none⟩=false∧w.frozen? ⟨g,1,none⟩=false∧w.frozen? ⟨g,2,none⟩=false∧w.frozen? ⟨g,3,none⟩=false:=
  ⟨(blk_cell h 0).trans rfl,(blk_cell h 1).trans rfl,(blk_cell h 2).trans rfl,(blk_cell h 3).trans rfl,blk_frozen h 0,blk_frozen h 1,blk_frozen h 2,blk_frozen h 3⟩
theorem cz5 {w:World} {g t:Nat} {a0 a1 a2 a3 a4:Value} (h:w.heap[g]? =some (.cells #[a0,a1,a2,a3,a4] t (0,0))):w.cell? ⟨g,0,none⟩=some a0∧w.cell? ⟨g,1,none⟩=some a1∧w.cell? ⟨g,2,none⟩=some a2∧w.cell? ⟨g,3,none⟩=some a3∧w.cell? ⟨g,4,none⟩=some a4∧w.frozen? ⟨g,0,none⟩=false∧w.frozen? ⟨g,1,none⟩=false∧w.frozen? ⟨g,2,none⟩=false∧w.frozen? ⟨g,3,none⟩=false∧w.frozen? ⟨g,4,none⟩=false:=
  ⟨(blk_cell h 0).trans rfl,(blk_cell h 1).trans rfl,(blk_cell h 2).trans rfl,(blk_cell h 3).trans rfl,(blk_cell h 4).trans rfl,blk_frozen h 0,blk_frozen h 1,blk_frozen h 2,blk_frozen h 3,blk_frozen h 4⟩
section
variable {P:Program} {ops:Array Oper} {Q:Exit→Act→World→Prop} {rest:List Oper} {o:Oper} {a:Act} {W:World}
theorem bx (N:Tmp) (cs:Array Value) (t:TypeId) (h:∀ g,g=W.heap.size→∀ w1,w1.heap[g]? =some (.cells cs t (0,0))→Below W.heap.size W w1→wpList P ops Q rest (a.put o.dst (.pointer (some ⟨g,0,none⟩))) w1) (hd:o.dst=some N:=by rfl) (hgd:o.guard=none:=by rfl)
    (hrun:(execOp a.eval o).run P W= .ok (.value (.pointer (some ⟨W.heap.size,0,none⟩))) (W.alloc (.cells cs t (0,0))):=by first | (go_simp;done) | (go_simp;rfl)):wpList P ops Q (o :: rest) a W:=box_event hgd hd hrun h
end
section
variable {P:Program} {ops:Array Oper} {Q:Exit→Act→World→Prop} {rest:List Oper} {o:Oper} {a:Act} {W:World}
theorem jgd (N:Tmp) (h:wpList P ops Q (o :: rest) a W) (_hN:o.dst=some N:=by with_reducible rfl):wpList P ops Q (o :: rest) a W:=h
end
theorem jA2 {p0 p1:Prop} (x0:p0) (x1:p1):Aside0 p0∧Aside0 p1:=⟨⟨x0⟩,⟨x1⟩⟩
theorem jA3 {p0 p1 p2:Prop} (x0:p0) (x1:p1) (x2:p2):Aside0 p0∧Aside0 p1∧Aside0 p2:=⟨⟨x0⟩,⟨x1⟩,⟨x2⟩⟩
theorem jA4 {p0 p1 p2 p3:Prop} (x0:p0) (x1:p1) (x2:p2) (x3:p3):Aside0 p0∧Aside0 p1∧Aside0 p2∧Aside0 p3:=⟨⟨x0⟩,⟨x1⟩,⟨x2⟩,⟨x3⟩⟩
theorem jA5 {p0 p1 p2 p3 p4:Prop} (x0:p0) (x1:p1) (x2:p2) (x3:p3) (x4:p4):Aside0 p0∧Aside0 p1∧Aside0 p2∧Aside0 p3∧Aside0 p4:=⟨⟨x0⟩,⟨x1⟩,⟨x2⟩,⟨x3⟩,⟨x4⟩⟩
theorem jA6 {p0 p1 p2 p3 p4 p5:Prop} (x0:p0) (x1:p1) (x2:p2) (x3:p3) (x4:p4) (x5:p5):Aside0 p0∧Aside0 p1∧Aside0 p2∧Aside0 p3∧Aside0 p4∧Aside0 p5:=⟨⟨x0⟩,⟨x1⟩,⟨x2⟩,⟨x3⟩,⟨x4⟩,⟨x5⟩⟩
theorem jA7 {p0 p1 p2 p3 p4 p5 p6:Prop} (x0:p0) (x1:p1) (x2:p2) (x3:p3) (x4:p4) (x5:p5) (x6:p6):Aside0 p0∧Aside0 p1∧Aside0 p2∧Aside0 p3∧Aside0 p4∧Aside0 p5∧Aside0 p6:=⟨⟨x0⟩,⟨x1⟩,⟨x2⟩,⟨x3⟩,⟨x4⟩,⟨x5⟩,⟨x6⟩⟩
theorem jA8 {p0 p1 p2 p3 p4 p5 p6 p7:Prop} (x0:p0) (x1:p1) (x2:p2) (x3:p3) (x4:p4) (x5:p5) (x6:p6) (x7:p7):Aside0 p0∧Aside0 p1∧Aside0 p2∧Aside0 p3∧Aside0 p4∧Aside0 p5∧Aside0 p6∧Aside0 p7:=⟨⟨x0⟩,⟨x1⟩,⟨x2⟩,⟨x3⟩,⟨x4⟩,⟨x5⟩,⟨x6⟩,⟨x7⟩⟩
theorem jA12 {p0 p1 p2 p3 p4 p5 p6 p7 p8 p9 p10 p11:Prop} (x0:p0) (x1:p1) (x2:p2) (x3:p3) (x4:p4) (x5:p5) (x6:p6) (x7:p7) (x8:p8) (x9:p9) (x10:p10) (x11:p11):Aside0 p0∧Aside0 p1∧Aside0 p2∧Aside0 p3∧Aside0 p4∧Aside0 p5∧Aside0 p6∧Aside0 p7∧Aside0 p8∧Aside0 p9∧Aside0 p10∧Aside0 p11:=⟨⟨x0⟩,⟨x1⟩,⟨x2⟩,⟨x3⟩,⟨x4⟩,⟨x5⟩,⟨x6⟩,⟨x7⟩,⟨x8⟩,⟨x9⟩,⟨x10⟩,⟨x11⟩⟩
theorem jA13 {p0 p1 p2 p3 p4 p5 p6 p7 p8 p9 p10 p11 p12:Prop} (x0:p0) (x1:p1) (x2:p2) (x3:p3) (x4:p4) (x5:p5) (x6:p6) (x7:p7) (x8:p8) (x9:p9) (x10:p10) (x11:p11) (x12:p12):Aside0 p0∧Aside0 p1∧Aside0 p2∧Aside0 p3∧Aside0 p4∧Aside0 p5∧Aside0 p6∧Aside0 p7∧Aside0 p8∧Aside0 p9∧Aside0 p10∧Aside0 p11∧Aside0 p12:=⟨⟨x0⟩,⟨x1⟩,⟨x2⟩,⟨x3⟩,⟨x4⟩,⟨x5⟩,⟨x6⟩,⟨x7⟩,⟨x8⟩,⟨x9⟩,⟨x10⟩,⟨x11⟩,⟨x12⟩⟩
section
variable {P:Program} {ops:Array Oper} {Q:Exit→Act→World→Prop} {rest:List Oper} {o:Oper} {a:Act} {W:World}
theorem jgc (f:FuncId) {as_:Array Operand} {ts:Array TypeId} (h:wpList P ops Q (o :: rest) a W) (_ho:o.op= .call {callee:= .value (.func f),args:=as_,argTypes:=ts}:=by with_reducible exact rfl):wpList P ops Q (o :: rest) a W:=h
end
section
variable {P:Program} {ops:Array Oper} {Q:Exit→Act→World→Prop} {rest:List Oper} {o:Oper} {a:Act} {W:World}
theorem jgs (n:Tmp) {f:FuncId} {fn:Func} (hf:P.funcs[f]? =some fn) {as_:Array Operand} {ts:Array TypeId} (args:Array Value) (h:Calls P f args W fun e w'=>∃ v,e= .returned v∧wpList P ops Q rest (a.put (some n) v) w') (hd:o.dst=some n:=by rfl) (hg:o.guard=none:=by rfl) (hname:(fn.name== "runtime.NumGoroutine")=false:=by kernel_rfl) (hb:fn.body.isSome=true:=by rfl)
    (hop:o.op= .call {callee:= .value (.func f),args:=as_,argTypes:=ts}:=by rfl) (hargs:as_.map a.eval=args:=by(try simp only[List.map_toArray,List.map_cons,List.map_nil]);first | done | rfl | (simp only[List.length_drop,List.length_take];rfl) | (simp only[List.length_drop,List.length_take];rw[Nat.min_eq_left (Int.toNat_le.mpr (of_eq_true (by assumption)))])):wpList P ops Q (o :: rest) a W:=goesL_ (some n) hd hg hf hname hb args hop hargs h
end
section
variable {P:Program} {ops:Array Oper} {Q:Exit→Act→World→Prop} {md:Region.Mode} {S:World→Prop} {ds:List Nat} {T:Bool×List (List Nat×List Nat)} {oi:Oper} {v:Value} {fuel:Nat} {l:Array Bool} {a a':Act} {w:World}
theorem andI {A B G:Prop} (h:A→B→G):A∧B→G:=fun x=>h x.1 x.2
end
section
variable {P:Program} {ops:Array Oper} {Q:Exit→Act→World→Prop} {md:Region.Mode} {S:World→Prop} {ds:List Nat} {T:Bool×List (List Nat×List Nat)} {oi:Oper} {v:Value} {fuel:Nat} {l:Array Bool} {a a':Act} {w:World}
theorem pu (i:Nat) (n:Tmp) (hT:rtab md ops=T) (h:wpAnyLast P md ops Q S ds fuel (l.setIfInBounds i true) a' w) (hi:ops[i]? =some oi:=by rfl) (hN:oi.dst=some n:=by rfl) (hc:anyT T l.toList (l.setIfInBounds i true).toList i=true:=by kernel_rfl)
    (hQ:∀ c a w,Q (.panic c) (a.put oi.dst v) w→Q (.panic c) a w:=by exact fun _ _ _ h=>h) (hw:Region.wanted oi (yielded ops a.tmps)=true:=by rfl) (hy:∀ w',(execOp a.eval oi).run P w'= .ok (.value v) w':=by intro w';go_simp;with_reducible rfl) (ha:a.put (some n) v=a':=by simp only[Act.put,List.setIfInBounds_toArray,List.set_cons_zero,List.set_cons_succ,i64_w,i32_w];rfl):wpAnyLast P md ops Q S ds (fuel+1) l a w:=
  pure_ (l.setIfInBounds i true) hi hN (any_of hT hc) hQ (.inl ⟨hw,hy⟩) ha h
end
section
variable {P:Program} {ops:Array Oper} {Q:Exit→Act→World→Prop} {md:Region.Mode} {S:World→Prop} {ds:List Nat} {T:Bool×List (List Nat×List Nat)} {oi:Oper} {v:Value} {fuel:Nat} {l:Array Bool} {a a':Act} {w:World}
theorem tk (i:Nat) (n:Tmp) {B:List Nat} (hT:rtab md ops=T) (hB:waitsOk T.2 B=true) (hS:S w) (h:wpAnyLast P md ops Q S ds fuel (l.setIfInBounds i true) a' w) (hi:ops[i]? =some oi:=by rfl) (hN:oi.dst=some n:=by rfl) (hc:takeW T B ds l.toList (l.setIfInBounds i true).toList i=true:=by kernel_rfl)
    (hQ:∀ c a w,Q (.panic c) (a.put oi.dst v) w→Q (.panic c) a w:=by exact fun _ _ _ h=>h) (hw:Region.wanted oi (yielded ops a.tmps)=true:=by rfl) (hy:∀ w',S w'→(execOp a.eval oi).run P w'= .ok (.value v) w':=by first | (intro w' s_;go_simp;with_reducible rfl) | (intro w';repeat((with_reducible refine andI ?_);intro s_);intro s_;go_simp;with_reducible rfl)) (ha:a.put (some n) v=a':=by simp only[Act.put,List.setIfInBounds_toArray,List.set_cons_zero,List.set_cons_succ,i64_w,i32_w];rfl):wpAnyLast P md ops Q S ds (fuel+1) l a w:=
  take_ (l.setIfInBounds i true) hi hN (take_ofW hT hB hc) hQ (.inl ⟨hw,hy⟩) hS ha h
end
theorem mt {P:Prop} (h:P:=by repeat' first | (with_reducible apply ih0) | (with_reducible apply ih1) | (with_reducible apply ih2) | (with_reducible apply ih3) | (with_reducible apply ih4) | (with_reducible apply ih5) | (with_reducible apply m0) | (with_reducible apply m1) | (with_reducible apply m2) | (with_reducible apply m3) | (with_reducible apply m4) | (with_reducible apply m5) | (with_reducible apply m6) | (with_reducible apply m7) | (with_reducible apply m8) | (with_reducible apply m9) | (with_reducible exact LeO.refl _) | (with_reducible exact LeO.none _) | (with_reducible refine LeO.ite ?_ ?_) | (with_reducible refine LeO.bind ?_ (fun _=>?_)) | exact LeO.none _ | refine LeO.ite ?_ ?_ | refine LeO.bind ?_ (fun _=>?_)):P:=h
theorem bnd {α β:Type} {x:Option α} {f:α→Option β} {r:β} (h:x.bind f=some r):∃ t,Aside0 (x=some t)∧f t=some r:=by
  obtain⟨t,h1,h2⟩:=Option.bind_eq_some_iff.mp h
  exact⟨t,⟨h1⟩,h2⟩
theorem jrw {A B P:Prop} (a:A) (b:B) (h:A→B→P:=by intro a_ H;first | (rw[a_];with_reducible first | exact H | exact bind_ofs H) | (with_reducible first | exact H | exact bind_ofs H) | (rw[a_];exact H) | exact H):P:=h a b
theorem jlt {P:Program} {ops:Array Oper} {rest:List Oper} {o:Oper} {a:Act} {Q:Exit→Act→World→Prop} {α:Type} {W:World} (N:Tmp) (d:Kd α) (e:Nat)
    (h:∀ v1 w1,d.R e w1 W.heap.size (fun _=>True) v1 []→Below W.heap.size W w1→wpList P ops Q rest (a.put o.dst v1) w1) (hd:o.dst=some N:=by rfl) (hgd:o.guard=none:=by rfl) (hrun:(execOp a.eval o).run P W= .ok (.value (.slice (some ⟨W.heap.size,0,none⟩) 0 0)) (W.alloc (.cells #[] e)):=by first | (go_simp;done) | (go_simp;rfl)):wpList P ops Q (o :: rest) a W:=
  Kd.R_lit d _ e hgd hd (xs:=[]) (inner:=[]) (ok:=fun _=>True) (okp:=fun _=>True) hrun (Reps.none _ _) (fun _ hk=>hk) trivial (Below.refl _ _) (Nat.le_refl _) (by simp) (fun v1 w1 h1 h2 _ _=>h v1 w1 h1 h2)
theorem qR {P A:Prop} (a:A) (h:A→P:=by intro a_;(with_reducible repeat(first | apply Kd.R_alloc | apply Kd.R_drewN | apply Kd.R_drew));(first | exact a_ | exact Kd.R_mono a_ (fun _ hk=>hk.1) | exact Kd.R_mono a_ (fun _ hk=>hk.1.1))):P:=h a
theorem mqR {P A:Prop} (a:A) (h:A→P:=by intro a_;(with_reducible repeat(first | apply Kd.R_alloc | apply Kd.R_drewN | apply Kd.R_drew));exact Kd.R_mono a_ (fun _ hk=>by(revert hk;(try simp only[and_imp]);intros;repeat' (first | assumption | apply And.intro | exact .inr (by assumption))))):P:=h a
theorem zqR {P A:Prop} (a:A) (h:A→P:=by intro a_;first | exact a_ | exact Kd.R_mono a_ (fun _ h_=>by first | trivial | exact h_ | exact h_.1)):P:=h a
theorem tqR {P A:Prop} (a:A) (h:A→P:=by intro a_;(with_reducible repeat(first | apply Kd.R_alloc | apply Kd.R_drewN | apply Kd.R_drew));exact Kd.R_mono a_ (fun _ hk=>trivial)):P:=h a
theorem mqN {P A:Prop} (a:A) (h:A→P:=by intro a_;(with_reducible repeat(first | apply Kd.N_alloc | apply Kd.N_drewN | apply Kd.N_drew));exact Kd.N_mono a_ (fun _ hk=>by(revert hk;(try simp only[and_imp]);intros;repeat' (first | assumption | apply And.intro | exact .inr (by assumption))))):P:=h a
theorem tqS {P A:Prop} (a:A) (h:A→P:=by intro a_;(with_reducible repeat(first | apply Kd.S_alloc | apply Kd.S_drewN | apply Kd.S_drew));exact Kd.S_mono a_ (fun _ hk=>trivial)):P:=h a
theorem qV {P A:Prop} (a:A) (h:A→P:=by intro a_;(with_reducible repeat(first | apply Kd.V_alloc | apply Kd.V_drewN | apply Kd.V_drew));(first | exact a_ | exact Kd.V_mono a_ (fun _ hk=>hk.1) | exact Kd.V_mono a_ (fun _ hk=>hk.1.1))):P:=h a
theorem mqV {P A:Prop} (a:A) (h:A→P:=by intro a_;(with_reducible repeat(first | apply Kd.V_alloc | apply Kd.V_drewN | apply Kd.V_drew));exact Kd.V_mono a_ (fun _ hk=>by(revert hk;(try simp only[and_imp]);intros;repeat' (first | assumption | apply And.intro | exact .inr (by assumption))))):P:=h a
theorem jmk {P:Prop} (h:P:=by intro _ hk;first | exact hk | (revert hk;(try simp only[and_imp]);intros;repeat' (first | assumption | apply And.intro | exact .inr (by assumption)))):P:=h
theorem jof {D P:Prop} (d:D) (h:D→P:=by intro d_ h0_;intros;exact absurd ((d_ (by kernel_rfl)).symm.trans h0_) (by decide)):P:=h d
theorem jo2 {D P:Prop} (d:D) (h:D→P:=by intro d_ _ h1_;exact absurd ((d_ (by kernel_rfl)).symm.trans h1_) (by decide)):P:=h d
theorem jou {D P:Prop} (d:D) (h:D→P:=by intro d_ h0_;intros;exact absurd (d_.symm.trans h0_) (by decide)):P:=h d
theorem jo3 {D P:Prop} (d:D) (h:D→P:=by intro d_ _ h1_;exact absurd (d_.symm.trans h1_) (by decide)):P:=h d
theorem rf3 {α:Type} {d:Kd α} {e:Nat} {w:World} {base:Nat} {ok:Nat→Prop} {v:Value} {xs:List α} {g t:Nat} {cells:Array Value} {i j k:Nat} {a b c:Value} (h:d.R e w base ok v xs) (hb:w.heap[g]? =some (Obj.cells cells t (0,0))) (ht:∀ q,q∈e :: d.E→q≠t:=by decide):d.R e (((w.setCell ⟨g,i,none⟩ a).setCell ⟨g,j,none⟩ b).setCell ⟨g,k,none⟩ c) base (fun k=>ok k∧k≠g) v xs:=
  Kd.R_far (p:=⟨g,k,none⟩) (Kd.R_far (p:=⟨g,j,none⟩) (Kd.R_far (p:=⟨g,i,none⟩) (Kd.R_types h hb ht) (fun _ hk=>hk.2) a) (fun _ hk=>hk.2) b) (fun _ hk=>hk.2) c
theorem jel {w w':World} {A:Option Addr} {n:Nat} {xs:List S34} (h:Kd.C k34 w A n xs) (b:Below w.heap.size w w') (i:Int) (p:0≤i:=by exact of_decide_eq_true (by first | (with_reducible assumption) | assumption)) (q:i<n:=by exact of_decide_eq_true (by first | (with_reducible assumption) | assumption)):
    (0≤i)=True∧(i<n)=True∧∃ ad A3 c3,A=some ad∧w'.cell? (ad.add (i.toNat*4))=some (.string (rd_T34 xs i).f0)∧w'.cell? ⟨(ad.add (i.toNat*4)).block,(ad.add (i.toNat*4)).off+1,none⟩=some (.int .i64 (rd_T34 xs i).f1)∧w'.cell? ⟨(ad.add (i.toNat*4)).block,(ad.add (i.toNat*4)).off+2,none⟩=some (.int .i64 (rd_T34 xs i).f2)∧w'.cell? ⟨(ad.add (i.toNat*4)).block,(ad.add (i.toNat*4)).off+3,none⟩=some (.slice A3 (rd_T34 xs i).f3.length c3)∧Aside0 ((rd_T34 xs i).f3.length≤c3)∧Aside0 ((Kd.int .u8).C w A3 (rd_T34 xs i).f3.length (rd_T34 xs i).f3):=by
  obtain⟨ad,A3,c3,e,h0,h1,h2,h3,h4,h5⟩:=at_T34 h i p q
  exact⟨eq_true p,eq_true q,ad,A3,c3,e,jcB b h0,jcB b h1,jcB b h2,jcB b h3,⟨h4⟩,⟨h5⟩⟩
theorem jelw {w w':World} {A:Option Addr} {n:Nat} {xs:List S34} (h:Kd.C k34 w A n xs) (b:Below w.heap.size w w') (i:Int) (p:0≤i:=by exact of_decide_eq_true (by first | (with_reducible assumption) | assumption)) (q:i<n:=by exact of_decide_eq_true (by first | (with_reducible assumption) | assumption)):
    (0≤i)=True∧(i<n)=True∧∃ ad A3 c3,A=some ad∧w.cell? (ad.add (i.toNat*4))=some (.string (rd_T34 xs i).f0)∧w.cell? ⟨(ad.add (i.toNat*4)).block,(ad.add (i.toNat*4)).off+1,none⟩=some (.int .i64 (rd_T34 xs i).f1)∧w.cell? ⟨(ad.add (i.toNat*4)).block,(ad.add (i.toNat*4)).off+2,none⟩=some (.int .i64 (rd_T34 xs i).f2)∧w.cell? ⟨(ad.add (i.toNat*4)).block,(ad.add (i.toNat*4)).off+3,none⟩=some (.slice A3 (rd_T34 xs i).f3.length c3)∧w'.cell? (ad.add (i.toNat*4))=some (.string (rd_T34 xs i).f0)∧w'.cell? ⟨(ad.add (i.toNat*4)).block,(ad.add (i.toNat*4)).off+1,none⟩=some (.int .i64 (rd_T34 xs i).f1)∧w'.cell? ⟨(ad.add (i.toNat*4)).block,(ad.add (i.toNat*4)).off+2,none⟩=some (.int .i64 (rd_T34 xs i).f2)∧w'.cell? ⟨(ad.add (i.toNat*4)).block,(ad.add (i.toNat*4)).off+3,none⟩=some (.slice A3 (rd_T34 xs i).f3.length c3)∧Aside0 ((rd_T34 xs i).f3.length≤c3)∧Aside0 ((Kd.int .u8).C w A3 (rd_T34 xs i).f3.length (rd_T34 xs i).f3):=by
  obtain⟨ad,A3,c3,e,h0,h1,h2,h3,h4,h5⟩:=at_T34 h i p q
  exact⟨eq_true p,eq_true q,ad,A3,c3,e,h0,h1,h2,h3,jcB b h0,jcB b h1,jcB b h2,jcB b h3,⟨h4⟩,⟨h5⟩⟩

theorem zac:type_of% @below_step:=@below_step
theorem zad:type_of% @of_decide_eq_true:=@of_decide_eq_true
theorem zae:type_of% @decide_eq_true:=@decide_eq_true
theorem zaf:type_of% @Nat.le_refl:=@Nat.le_refl
theorem zaj:type_of% @blk_drewN:=@blk_drewN
theorem zak:type_of% @blk_alloc:=@blk_alloc
theorem zal:type_of% @below_size:=@below_size
theorem zam:type_of% @Kd.R_mono:=@Kd.R_mono
theorem zan:type_of% @blk_drew:=@blk_drew
theorem zao:type_of% @World.drewN_drewN:=@World.drewN_drewN
theorem zaq:type_of% @List.setIfInBounds_toArray:=@List.setIfInBounds_toArray
theorem zat:type_of% @pw_below_drewN:=@pw_below_drewN
theorem zau:type_of% @beq_eq_false_iff_ne:=@beq_eq_false_iff_ne
theorem zav:type_of% @below_set:=@below_set
theorem zax:type_of% @Kd.R_lower:=@Kd.R_lower
theorem zay:type_of% @KeepBut.trans:=@KeepBut.trans
theorem zaz:type_of% @Option.some.injEq:=@Option.some.injEq
theorem zba:type_of% @below_drew1:=@below_drew1
theorem zbb:type_of% @bne_eq_false_iff_eq:=@bne_eq_false_iff_eq
theorem zbc:type_of% @Kd.C_below:=@Kd.C_below
theorem zbd:type_of% @Kd.R_slice:=@Kd.R_slice
theorem zbe:type_of% @below_alloc:=@below_alloc
theorem zbf:type_of% @decide_eq_false:=@decide_eq_false
theorem zbg:type_of% @Kd.R_base:=@Kd.R_base
theorem zbi:type_of% @blk_cell:=@blk_cell
theorem zbj:type_of% @List.set_cons_zero:=@List.set_cons_zero
theorem zbk:type_of% @List.set_cons_succ:=@List.set_cons_succ
theorem zbl:type_of% @Kd.R_alloc:=@Kd.R_alloc
theorem zbm:type_of% @Kd.R_drewN:=@Kd.R_drewN
theorem zbn:type_of% @Prod.mk.injEq:=@Prod.mk.injEq
theorem zbo:type_of% @Below.refl:=@Below.refl
theorem zbp:type_of% @Kd.R_reads':=@Kd.R_reads'
theorem zbr:type_of% @eq_true:=@eq_true
theorem zbs:type_of% @Kd.R_drew:=@Kd.R_drew
theorem zbv:type_of% @pw_cell_below:=@pw_cell_below
theorem zbw:type_of% @blk_put:=@blk_put
theorem zbx:type_of% @Kd.R_elder':=@Kd.R_elder'
theorem zbz:type_of% @max_three:=@max_three
theorem zca:type_of% @min_three:=@min_three
theorem zcd:type_of% @gate_builtin:=@gate_builtin
theorem zce:type_of% @Kd.R_lt:=@Kd.R_lt
theorem zcf:type_of% @KeepBut.blk:=@KeepBut.blk
theorem zch:type_of% @Nat.lt_of_lt_of_le:=@Nat.lt_of_lt_of_le
theorem zci:type_of% @Nat.add_assoc:=@Nat.add_assoc
theorem zck:type_of% @max2_int:=@max2_int
theorem zcl:type_of% @min2_int:=@min2_int
theorem zcm:type_of% @max_four:=@max_four
theorem zcn:type_of% @min_four:=@min_four
theorem zcp:type_of% @Bool.eq_false_iff:=@Bool.eq_false_iff
theorem zcq:type_of% @Option.bind_eq_some_iff:=@Option.bind_eq_some_iff
theorem zct:type_of% @List.not_mem_nil:=@List.not_mem_nil
theorem zcu:type_of% @KeepBut.of_below:=@KeepBut.of_below
theorem zcv:type_of% @Nat.le_trans:=@Nat.le_trans
theorem zcw:type_of% @pw_below_grown:=@pw_below_grown
theorem zcx:type_of% @Kd.R_far:=@Kd.R_far
theorem zcy:type_of% @keep_size:=@keep_size
theorem zcz:type_of% @bne_iff_ne:=@bne_iff_ne
theorem zdb:type_of% @Kd.R_below:=@Kd.R_below
theorem zdc:type_of% @Kd.R_types:=@Kd.R_types
theorem zdd:type_of% @Kd.C_alloc:=@Kd.C_alloc
theorem zde:type_of% @cell_far:=@cell_far
theorem zdg:type_of% @Kd.R_new':=@Kd.R_new'
theorem zdl:type_of% @max_two:=@max_two
theorem zdm:type_of% @min_two:=@min_two
theorem zdo:type_of% @Kd.R_after:=@Kd.R_after
theorem zdp:type_of% @bodyPost_ret:=@bodyPost_ret
theorem zdq:type_of% @Kd.C_drewN:=@Kd.C_drewN
theorem zdr:type_of% @List.mem_cons:=@List.mem_cons
theorem zds:type_of% @Kd.S_far:=@Kd.S_far
theorem zdu:type_of% @Kd.fresh':=@Kd.fresh'
theorem zdw:type_of% @Kd.S_mono:=@Kd.S_mono
theorem zdx:type_of% @Reps.one:=@Reps.one
theorem zdy:type_of% @IntWalk.i64_in:=@IntWalk.i64_in
theorem zeb:type_of% @Kd.C_drew:=@Kd.C_drew
theorem zee:type_of% @Kd.R_apart':=@Kd.R_apart'
theorem zef:type_of% @Kd.R_keep:=@Kd.R_keep
theorem zeh:type_of% @Kd.S_alloc:=@Kd.S_alloc
theorem zei:type_of% @Kd.S_drewN:=@Kd.S_drewN
theorem zej:type_of% @Kd.R_append_rows:=@Kd.R_append_rows
theorem zek:type_of% @List.map_toArray:=@List.map_toArray
theorem zel:type_of% @Kd.S_typed:=@Kd.S_typed
theorem zen:type_of% @Kd.S_elder':=@Kd.S_elder'
theorem zeo:type_of% @congrArg:=@congrArg
theorem zep:type_of% @KeepBut.set_:=@KeepBut.set_
theorem zeq:type_of% @blk_grown:=@blk_grown
theorem zer:type_of% @Eq.trans:=@Eq.trans
theorem zes:type_of% @results_cell_row:=@results_cell_row
theorem zet:type_of% @gate_store:=@gate_store
theorem zeu:type_of% @Kd.S_drew:=@Kd.S_drew
theorem zev:type_of% @Nat.le_of_eq:=@Nat.le_of_eq
theorem zfb:type_of% @List.map_cons:=@List.map_cons
theorem zfe:type_of% @Nat.ne_of_lt:=@Nat.ne_of_lt
theorem zff:type_of% @blk_far:=@blk_far
theorem zfi:type_of% @keep_drewN:=@keep_drewN
theorem zfj:type_of% @keep_alloc:=@keep_alloc
theorem zfk:type_of% @Kd.at_int:=@Kd.at_int
theorem zfl:type_of% @List.map_nil:=@List.map_nil
theorem zfm:type_of% @Kd.S_append:=@Kd.S_append
theorem zfn:type_of% @Kd.S_reads':=@Kd.S_reads'
theorem zfo:type_of% @Nat.ne_of_gt:=@Nat.ne_of_gt
theorem zfp:type_of% @Kd.S_below:=@Kd.S_below
theorem zfq:type_of% @Reps.none:=@Reps.none
theorem zft:type_of% @results_ctt:=@results_ctt
theorem zfu:type_of% @or_false:=@or_false
theorem zfv:type_of% @Kd.R_tight:=@Kd.R_tight
theorem zfw:type_of% @Kd.freshB:=@Kd.freshB
theorem zfx:type_of% @keep_drew:=@keep_drew
theorem zfy:type_of% @And.intro:=@And.intro
theorem zfz:type_of% @Kd.S_lower:=@Kd.S_lower
theorem zgi:type_of% @blk_frozen:=@blk_frozen
theorem zgk:type_of% @Kd.R_ne:=@Kd.R_ne
theorem zgm:type_of% @Kd.V_elder':=@Kd.V_elder'
theorem zgo:type_of% @Kd.R_nil:=@Kd.R_nil
theorem zgp:type_of% @heap_alloc_new:=@heap_alloc_new
theorem zgs:type_of% @Kd.V_mono:=@Kd.V_mono
theorem zgw:type_of% @steps_cons:=@steps_cons
theorem zgx:type_of% @putSel_upk:=@putSel_upk
theorem zgy:type_of% @Kd.S_bound:=@Kd.S_bound
theorem zhc:type_of% @KeepBut.refl:=@KeepBut.refl
theorem zhd:type_of% @Kd.R_append:=@Kd.R_append
theorem zhe:type_of% @Kd.V_reads':=@Kd.V_reads'
theorem zhg:type_of% @Kd.N_mono:=@Kd.N_mono
theorem zhh:type_of% @Kd.V_below:=@Kd.V_below
theorem zhi:type_of% @List.length_drop:=@List.length_drop
end Go.Proofs.Ytlalkldjpniakaa.P
