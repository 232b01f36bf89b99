import Derived.Test.Ytlalkldjpniakaaqu8
import Derived.Test.Ytlalkldjpniakaaqu7
/- Walks of functions that only read what others made: each fact stays at the world in which it arose, and is led to the present world where it is used. -/
namespace Go.Proofs.Ytlalkldjpniakaa.P
open Go.RowKit Go.Proofs.YtlalkldjpniakaaW.PrintWords Go.Proofs.YtlalkldjpniakaaW.PrintLast Go.Proofs.YtlalkldjpniakaaW.PrintMore
set_option linter.unusedVariables false
set_option linter.unusedSimpArgs false
set_option maxHeartbeats 8000000
set_option maxRecDepth 100000
theorem bst {w W w2:World} (k:Aside0 (Below W.heap.size W w2)) (h:Below w.heap.size w W):Below w.heap.size w w2:=below_step h k.out
/-- One world comes from another, by the steps among the hypotheses. -/
theorem ch {P:Prop} (h:P:=by with_reducible repeat(first | exact Below.refl _ _ | (refine Aside0.out ?_;assumption) | refine pw_below_drewN ?_ _ | refine below_drew ?_ | refine bst (by assumption) ?_)):P:=h
/-- A list is read as it was, or something that was put aside. -/
theorem sd {P:Prop} (h:P:=by first | (refine Aside0.out ?_;with_reducible assumption) | (refine Kd.C_below (Aside0.out (by with_reducible assumption)) ?_;exact ch)):P:=h
theorem rsl {α:Type} {d:Kd α} {e base:Nat} {w:World} {ok:Nat→Prop} {v:Value} {xs:List α} (h:Kd.R d e w base ok v xs):∃ A c,v= .slice A xs.length c∧Aside0 (xs.length≤c)∧Aside0 (Kd.C d w A xs.length xs):=by
  obtain⟨A,c,rfl⟩:=Kd.R_slice h
  exact⟨A,c,rfl,⟨(Kd.R_reads' h).2.1⟩,⟨(Kd.R_reads' h).2.2⟩⟩
theorem vsl {α:Type} {d:Kd α} {e:Nat} {w:World} {ok:Nat→Prop} {v:Value} {xs:List α} {B:Nat} (h:Kd.V d e w B ok v xs):∃ A c,v= .slice A xs.length c∧Aside0 (xs.length≤c)∧Aside0 (Kd.C d w A xs.length xs):=by
  obtain⟨A,c,rfl⟩:=Kd.V_slice h
  exact⟨A,c,rfl,⟨(Kd.V_reads' h).2.1⟩,⟨(Kd.V_reads' h).2.2⟩⟩
theorem ssl {α:Type} {d:Kd α} {e base:Nat} {w:World} {ok:Nat→Prop} {v:Value} {xs:List α} (h:Kd.S d e w base ok v xs):∃ A c,v= .slice A xs.length c∧Aside0 (xs.length≤c)∧Aside0 (Kd.C d w A xs.length xs):=by
  obtain⟨A,c,rfl⟩:=Kd.S_slice h
  exact⟨A,c,rfl,⟨(Kd.S_reads' h).2.1⟩,⟨(Kd.S_reads' h).2.2⟩⟩
theorem nsl {α:Type} {d:Kd α} {e base:Nat} {w:World} {ok:Nat→Prop} {v:Value} {xs:List α} (h:Kd.N d e w base ok v xs):∃ A c,v= .slice A xs.length c∧Aside0 (xs.length≤c)∧Aside0 (Kd.C d w A xs.length xs):=by
  obtain⟨A,c,rfl⟩:=Kd.N_slice h
  exact⟨A,c,rfl,⟨(Kd.N_reads' h).2.1⟩,⟨(Kd.N_reads' h).2.2⟩⟩
theorem ifT {α:Type} {c:Prop} [Decidable c] {x:Option α} {r:α} (h:(if c then x else none)=some r):c∧x=some r:=by
  by_cases p:c
  · rw[if_pos p] at h;exact⟨p,h⟩
  · rw[if_neg p] at h;cases h
theorem ifF {α:Type} {c:Prop} [Decidable c] {x:Option α} {r:α} (h:(if c then none else x)=some r):¬c∧x=some r:=by
  by_cases p:c
  · rw[if_pos p] at h;cases h
  · rw[if_neg p] at h;exact⟨p,h⟩
theorem bnn {α β:Type} {x:Option α} {f:α→Option β} {r:β} (h:x.bind f=some r):∃ t,Aside0 (x=some t)∧f t=some r:=by
  obtain⟨t,h1,h2⟩:=Option.bind_eq_some_iff.mp h
  exact⟨t,⟨h1⟩,h2⟩
section
variable {P:Program} {ops:Array Oper} {Q:Exit→Act→World→Prop} {rest:List Oper} {o o1 o2:Oper} {a:Act} {W:World}
/-- The operation that writes this slot. -/
theorem kd (n:Tmp) (h:wpList P ops Q (o :: rest) a W) (_h:o.dst=some n:=by with_reducible rfl):wpList P ops Q (o :: rest) a W:=h
/-- The same, of an operation that its guard wants. -/
theorem kg (n:Tmp) (h:wpList P ops Q ({o with guard:=none} :: rest) a W) (_h:o.dst=some n:=by with_reducible rfl) (hw:Region.wanted o (yielded ops a.tmps)=true:=by rfl):wpList P ops Q (o :: rest) a W:=gate_guard hw h
/-- A call in a plain region. -/
theorem kc (f:FuncId) (n:Tmp) {fn:Func} (hf:P.funcs[f]? =some fn) {as_:Array Operand} {ts:Array TypeId} (args:Array Value) (h:Calls P f args W fun e w'=>∃ v,e= .returned v∧wpList P ops Q rest (a.put (some n) v) w') (hop:o.op= .call {callee:= .value (.func f),args:=as_,argTypes:=ts}:=by with_reducible exact rfl) (hd:o.dst=some n:=by rfl) (hg:o.guard=none:=by rfl) (hname:(fn.name== "runtime.NumGoroutine")=false:=by kernel_rfl) (hb:fn.body.isSome=true:=by rfl)
    (hargs:as_.map a.eval=args:=by(try simp only[List.map_toArray,List.map_cons,List.map_nil]);first | done | rfl):wpList P ops Q (o :: rest) a W:=goesL_ (some n) hd hg hf hname hb args hop hargs h
/-- What is read, in a plain region. -/
theorem kl (n:Tmp) {v:Value} (hy:(execOp a.eval o).run P W= .ok (.value v) W) (h:wpList P ops Q rest (a.put (some n) v) W) (hd:o.dst=some n:=by rfl) (hg:o.guard=none:=by rfl):wpList P ops Q (o :: rest) a W:=Kd.event_run hg hy (by rw[hd];exact h)
/-- A variable is made and written whole at once. -/
theorem kb (N t:Nat) (old new:List Value) (v:Value) {x:Operand} (h:∀ g w',Aside0 (w'.heap[g]? =some (.cells new.toArray t (0,0)))→Aside0 (Below W.heap.size W w')→wpList P ops Q rest (a.put (some N) (.pointer (some ⟨g,0,none⟩))) w') (ho1:o1.op= .alloc t:=by with_reducible exact rfl) (hd1:o1.dst=some N:=by rfl) (hg1:o1.guard=none:=by rfl)
    (ho2:o2.op= .store t (.tmp N) x:=by rfl) (hd2:o2.dst=none:=by rfl) (hg2:o2.guard=none:=by rfl) (hrun:(execOp a.eval o1).run P W= .ok (.value (.pointer (some ⟨W.heap.size,0,none⟩))) (W.alloc (.cells old.toArray t (0,0))):=by first | (go_simp;done) | (go_simp;rfl))
    (hp:∀ g,(a.put (some N) (.pointer (some ⟨g,0,none⟩))).eval (.tmp N)= .pointer (some ⟨g,0,none⟩):=by intro g;rfl) (hx:∀ g,(a.put (some N) (.pointer (some ⟨g,0,none⟩))).eval x=v:=by intro g;rfl)
    (hlen:new.length=old.length:=by rfl) (hv:v.cells.toList=new:=by rfl) (hsz:(P.info? t).map (·.size)=some new.length:=by kernel_rfl) (h1:∀ u∈new,u.oneCell'=true:=by intro u hu;simp only[List.mem_cons,List.not_mem_nil,or_false] at hu;repeat(first | (rcases hu with rfl | hu;rfl) | (subst hu;rfl))) (hp0:0<new.length:=by simp):wpList P ops Q (o1 :: o2 :: rest) a W:=by
  refine box_event hg1 hd1 hrun fun g hg w1 hb hw=>?_
  rw[hd1]
  refine put_whole t hd2 hg2 (.tmp N) x ho2 new v (hp g) (hx g) hb hlen hv hsz h1 hp0 fun w2 hgr hb2=>?_
  exact h g w2 ⟨hb2⟩ ⟨(hw.grown hgr hw.size (fun k e=>by injection e with e;omega))⟩
/-- A variable is made, another slot is written, and the variable is written whole. -/
theorem kb2 (N M t:Nat) (old new:List Value) (v vm:Value) {x y:Operand} {om:Oper} (h:∀ g w',Aside0 (w'.heap[g]? =some (.cells new.toArray t (0,0)))→Aside0 (Below W.heap.size W w')→wpList P ops Q rest ((a.put (some N) (.pointer (some ⟨g,0,none⟩))).put (some M) vm) w') (ho1:o1.op= .alloc t:=by with_reducible exact rfl) (hd1:o1.dst=some N:=by rfl) (hg1:o1.guard=none:=by rfl)
    (hom:om.op= .assign y:=by rfl) (hdm:om.dst=some M:=by rfl) (hgm:om.guard=none:=by rfl) (ho2:o2.op= .store t (.tmp N) x:=by rfl) (hd2:o2.dst=none:=by rfl) (hg2:o2.guard=none:=by rfl) (hrun:(execOp a.eval o1).run P W= .ok (.value (.pointer (some ⟨W.heap.size,0,none⟩))) (W.alloc (.cells old.toArray t (0,0))):=by first | (go_simp;done) | (go_simp;rfl))
    (hy:∀ g,(a.put (some N) (.pointer (some ⟨g,0,none⟩))).eval y=vm:=by intro g;rfl) (hp:∀ g,((a.put (some N) (.pointer (some ⟨g,0,none⟩))).put (some M) vm).eval (.tmp N)= .pointer (some ⟨g,0,none⟩):=by intro g;rfl) (hx:∀ g,((a.put (some N) (.pointer (some ⟨g,0,none⟩))).put (some M) vm).eval x=v:=by intro g;rfl)
    (hlen:new.length=old.length:=by rfl) (hv:v.cells.toList=new:=by rfl) (hsz:(P.info? t).map (·.size)=some new.length:=by kernel_rfl) (h1:∀ u∈new,u.oneCell'=true:=by intro u hu;simp only[List.mem_cons,List.not_mem_nil,or_false] at hu;repeat(first | (rcases hu with rfl | hu;rfl) | (subst hu;rfl))) (hp0:0<new.length:=by simp):wpList P ops Q (o1 :: om :: o2 :: rest) a W:=by
  refine box_event hg1 hd1 hrun fun g hg w1 hb hw=>?_
  rw[hd1]
  refine Kd.event_run hgm (v:=vm) (by unfold execOp;simp only[hom,hy g];rfl) ?_
  rw[hdm]
  refine put_whole t hd2 hg2 (.tmp N) x ho2 new v (hp g) (hx g) hb hlen hv hsz h1 hp0 fun w2 hgr hb2=>?_
  exact h g w2 ⟨hb2⟩ ⟨(hw.grown hgr hw.size (fun k e=>by injection e with e;omega))⟩
end
theorem wcell {w w':World} {a:Addr} {v:Value} (h:w.cell? a=some v) (b:Below w.heap.size w w':=by exact ch):w'.cell? a=some v:=(b.cell (World.block_lt_of_cell? w _ h)).trans h
theorem bcell {w w':World} {g:Nat} {cs:Array Value} {t:TypeId} (h:Aside0 (w.heap[g]? =some (.cells cs t (0,0)))) (b:Below w.heap.size w w':=by exact ch):w'.heap[g]? =some (.cells cs t (0,0)):=blk_below h.out b
section
variable {P:Program} {ops:Array Oper} {Q:Exit→Act→World→Prop} {md:Region.Mode} {S:World→Prop} {ds:List Nat} {T:Bool×List (List Nat×List Nat)} {oi:Oper} {v:Value} {fuel:Nat} {l:Array Bool} {a a':Act} {w:World}
/-- The beginning of a region that draws: what S asks is that the world comes from the one at its beginning. -/
theorem rst (n:Nat) {id:Nat} (hm:P.follows .mixedOrders=true) (h:∀ w1,Aside0 (Below w.heap.size w w1)→wpAnyLast P .any ops Q (fun w'=>Below w1.heap.size w1 w') [] n (Array.replicate n false) a w1) (hn:ops.size=n:=by rfl):(Code.region id ops true).wp P Q a w:=
  start_ (n:=n) (S:=fun w'=>Below w.drew.heap.size w.drew w') (ds:=[]) _ hm hn rfl (Below.refl _ _) (fun _=>h w.drew ⟨below_drew (Below.refl _ _)⟩)
/-- A call in a region that draws. -/
theorem rc (i n:Nat) (f:FuncId) {fn:Func} (hT:rtab md ops=T) (hf:P.funcs[f]? =some fn) (args:Array Value) {as_:Array Operand} {ts:Array TypeId} (h:Calls P f args w fun e w'=>∃ v,e= .returned v∧S w'∧wpAnyLast P md ops Q S ds fuel (l.setIfInBounds i true) (a.put (some n) v) w') (hi:ops[i]? =some oi:=by rfl) (hN:oi.dst=some n:=by rfl)
    (hc:(readyT T.2 l.toList==[i] && l.toList.set i true==(l.setIfInBounds i true).toList)=true:=by kernel_rfl) (hd:i ∉ ds:=by decide) (hname:(fn.name== "runtime.NumGoroutine")=false:=by kernel_rfl) (hb:fn.body.isSome=true:=by rfl) (hw:Region.wanted oi (yielded ops a.tmps)=true:=by rfl) (hop:oi.op= .call {callee:= .value (.func f),args:=as_,argTypes:=ts}:=by rfl)
    (hargs:as_.map a.eval=args:=by(try simp only[List.map_toArray,List.map_cons,List.map_nil]);first | done | rfl):wpAnyLast P md ops Q S ds (fuel+1) l a w:=
  one_ (l.setIfInBounds i true) hi hN (one_of hT hc) hd (fun K hK=>goes_ hf hname hb args hw hN hop hargs (h.mono fun e w' ⟨v,h1,h2,h3⟩=>⟨v,h1,hK.out _ _ h2 (fun _=>h3)⟩))
theorem ru (i n:Nat) (hT:rtab md ops=T) (h:wpAnyLast P md ops Q S ds fuel (l.setIfInBounds i true) a' w) (hi:ops[i]? =some oi:=by rfl) (hN:oi.dst=some n:=by rfl) (hc:anyT T l.toList (l.setIfInBounds i true).toList i=true:=by kernel_rfl)
    (hQ:∀ c a w,Q (.panic c) (a.put oi.dst v) w→Q (.panic c) a w:=by exact fun _ _ _ h=>h) (hw:Region.wanted oi (yielded ops a.tmps)=true:=by rfl) (hy:∀ w',(execOp a.eval oi).run P w'= .ok (.value v) w':=by intro w';go_simp;with_reducible rfl) (ha:a.put (some n) v=a':=by simp only[Act.put,List.setIfInBounds_toArray,List.set_cons_zero,List.set_cons_succ,i64_w,i32_w];rfl):wpAnyLast P md ops Q S ds (fuel+1) l a w:=
  pure_ (l.setIfInBounds i true) hi hN (any_of hT hc) hQ (.inl ⟨hw,hy⟩) ha h
theorem rn (i n:Nat) (hT:rtab md ops=T) (h:wpAnyLast P md ops Q S ds fuel (l.setIfInBounds i true) a' w) (hi:ops[i]? =some oi:=by rfl) (hN:oi.dst=some n:=by rfl) (hc:anyT T l.toList (l.setIfInBounds i true).toList i=true:=by kernel_rfl)
    (hQ:∀ c a w,Q (.panic c) (a.put oi.dst undef) w→Q (.panic c) a w:=by exact fun _ _ _ h=>h) (hw:Region.wanted oi (yielded ops a.tmps)=false:=by rfl) (ha:a.put (some n) undef=a':=by simp only[Act.put,List.setIfInBounds_toArray,List.set_cons_zero,List.set_cons_succ,i64_w,i32_w];rfl):wpAnyLast P md ops Q S ds (fuel+1) l a w:=
  pure_ (l.setIfInBounds i true) hi hN (any_of hT hc) hQ (.inr ⟨hw,rfl⟩) ha h
theorem nrm (h:wpAnyLast P md ops Q S ds fuel l a' w) (ha:a=a':=by simp only[Act.put,List.setIfInBounds_toArray,List.set_cons_zero,List.set_cons_succ,i64_w,i32_w];rfl):wpAnyLast P md ops Q S ds fuel l a w:=norm_ ha h
/-- What is read is told for every world that holds S. -/
theorem tl (i n:Nat) {B:List Nat} (v:Value) (hT:rtab md ops=T) (hB:waitsOk T.2 B=true) (hS:S w) (hy:∀ w',S w'→(execOp a.eval oi).run P w'= .ok (.value v) w') (h:wpAnyLast P md ops Q S ds fuel (l.setIfInBounds i true) a' w) (hi:ops[i]? =some oi:=by rfl) (hN:oi.dst=some n:=by rfl) (hc:takeW T B ds l.toList (l.setIfInBounds i true).toList i=true:=by kernel_rfl)
    (hQ:∀ c a w,Q (.panic c) (a.put oi.dst v) w→Q (.panic c) a w:=by exact fun _ _ _ h=>h) (hw:Region.wanted oi (yielded ops a.tmps)=true:=by rfl) (ha:a.put (some n) v=a':=by simp only[Act.put,List.setIfInBounds_toArray,List.set_cons_zero,List.set_cons_succ,i64_w,i32_w];rfl):wpAnyLast P md ops Q S ds (fuel+1) l a w:=
  take_ (l.setIfInBounds i true) hi hN (take_ofW hT hB hc) hQ (.inl ⟨hw,hy⟩) hS ha h
end
end Go.Proofs.Ytlalkldjpniakaa.P
namespace Go.Proofs.Ytlalkldjpniakaa.P
open Go.RowKit Go.Proofs.YtlalkldjpniakaaW.PrintWords Go.Proofs.YtlalkldjpniakaaW.PrintLast Go.Proofs.YtlalkldjpniakaaW.PrintMore
attribute [local go_sem] zbr zbs zch zci zbk zbl zbt zbu -- for this text's walks alone
set_option linter.unusedVariables false
set_option linter.unusedSimpArgs false
set_option maxHeartbeats 8000000
set_option maxRecDepth 100000

def spec_l1Bit.f (a0:Bool):Option (Int):=if a0=true then(some 1) else(some 0)
theorem spec_l1Bit.wk {P:Prop} (h:P:=by
 go_enter Try.func86,Try.ntmps86
 go_wp2
 go_ret
 exact⟨by first | rfl | (simp;done) | (simp [*];done),by repeat(first | exact Drawn0.refl _ | apply Drawn0.step)⟩):P:=h
theorem spec_l1Bit.calls (a0:Bool) (r:Int) (w:World) (h:spec_l1Bit.f a0=some r):
  Calls Try.prog 86 #[.bool a0] w fun e w'=>e= .returned (.int .i64 r)∧Drawn0 w w':=by
 have H:(if a0=true then(some 1) else(some 0))=some r:=h
 clear h
 by_cases c2:a0=true
 ·subst c2
  rw[if_pos rfl] at H
  obtain rfl:=Option.some.inj H
  exact spec_l1Bit.wk
 replace c2:=zcd.mpr c2
 subst c2
 rw[if_neg (show ¬(false=true) by decide)] at H
 obtain rfl:=Option.some.inj H
 exact spec_l1Bit.wk
def spec_Of.l0:Nat→List (S34)→ByteArray→Int→Int→Option (Int)
 | 0,_,_,_,_=>none
 | k+1,x0,x1,x5,x6=>if x6<(x0.length:Int) then(if 0≤x6 then((spec_l1Bit.f (((rd_T34 x0 x6).f0).toList==x1.toList)).bind fun t106=>(spec_Of.l0 k x0 x1 (wrap64 (x5+t106)) (wrap64 (x6+1)))) else(none)) else(some x5)
def spec_Of.f (k:Nat) (l0:List (S34)) (a1:ByteArray):Option (Int):=spec_Of.l0 k l0 a1 0 0
theorem spec_Of.mono_l:∀ k,(∀ y0 y1 y2 y3,LeO (spec_Of.l0 k y0 y1 y2 y3) (spec_Of.l0 (k+1) y0 y1 y2 y3))
 | 0=>fun _ _ _ _ r h=>by simp [spec_Of.l0] at h
 | k+1=>by
  have ih0:=spec_Of.mono_l k
  intro y0 y1 y2 y3
  unfold spec_Of.l0
  exact mt
theorem spec_Of.mono:∀ a0 a1 k,LeO (spec_Of.f k a0 a1) (spec_Of.f (k+1) a0 a1):=by
 intro a0 a1 k
 have ih0:=spec_Of.mono_l k
 unfold spec_Of.f
 exact mt
theorem spec_Of.calls (k:Nat) (A0:Option Addr) (c0:Nat) (l0:List (S34)) (a1:ByteArray) (r:Int) (w:World) (hr0:Kd.C k34 w A0 l0.length l0) (hc0:l0.length≤c0) (h:spec_Of.f k l0 a1=some r):
  Calls Try.prog 19 #[.slice A0 l0.length c0, .string a1] w fun e w'=>e= .returned (.int .i64 r)∧Drawn0 w w':=by
 have HR0:=Aside0.mk hr0
 have HC0:=Aside0.mk hc0
 clear hr0 hc0
 have H:(spec_Of.l0 k l0 a1 0 0)=some r:=h
 clear h
 have H':=Aside0.mk H
 clear H
 go_enter Try.func19,Try.ntmps19
 go_wp2
 go_loopg [5,6] k (fun kq v5 v6 w'=>∃ (x5_1:Int) (x6_1:Int),v5= .int .i64 x5_1∧v6= .int .i64 x6_1∧Aside0 (spec_Of.l0 kq l0 a1 x5_1 x6_1=some r)∧Aside0 (kq≤k)∧Drawn0 w w')
 case atStart=>exact⟨(0),(0),jer,jer,H',⟨zbc _⟩,by repeat(first | exact Drawn0.refl _ | apply Drawn0.step)⟩
 case round=>
  clear H'
  try clear c1
  try clear p2
  obtain⟨x5_1,x6_1,rfl,rfl,HA,HK1,⟨m1,rfl⟩⟩:=hrel
  cases gk with
  | zero=>exact absurd HA.out (by simp [spec_Of.l0])
  | succ k1=>
   have H:=HA.out
   clear HA
   simp only[spec_Of.l0] at H
   by_cases c3:x6_1<(l0.length:Int)
   ·rw[if_pos c3] at H
    have c3b0:=zag c3
    clear c3
    by_cases c4:0≤x6_1
    ·rw[if_pos c4] at H
     have c4b0:=zag c4
     clear c4
     obtain⟨t106,A5,H⟩:=bnd H
     have H':=Aside0.mk H
     clear H
     have p105:0≤(x6_1:Int):=zac jab
     have q105:x6_1<(l0.length:Int):=zac jab
     obtain⟨ad105,A105_3,c105_3,e105,hx105_0,hx105_1,hx105_2,hx105_3,hl105_3,hi105_3⟩:=at_T34 HR0.out x6_1 p105 q105
     cases e105
     have HR105_3:=Aside0.mk hi105_3
     have HC105_3:=Aside0.mk hl105_3
     clear hi105_3 hl105_3
     replace p105:=zbd p105
     replace q105:=zbd q105
     go_wp2_with (first | (refine jgc 86 ?_;refine jgs 21 Try.func86 #[.bool (((rd_T34 l0 x6_1).f0).toList==a1.toList)] ?_;(with_reducible refine(spec_l1Bit.calls (((rd_T34 l0 x6_1).f0).toList==a1.toList) t106 _ A5.out).mono ?_);rintro e w' ⟨rfl,⟨nd,rfl⟩⟩;refine⟨_,rfl,?_⟩))
     go_roundg k1
     case measure=>have:=HK1.out;omega
     case rel=>exact⟨(wrap64 (x5_1+t106)),(wrap64 (x6_1+1)),jer,jer,H',⟨by have:=HK1.out;omega⟩,by repeat(first | exact Drawn0.refl _ | apply Drawn0.step)⟩
    rw[if_neg c4] at H
    exact absurd H (by simp)
   rw[if_neg c3] at H
   have c3b0:=zaw c3
   clear c3
   obtain rfl:=Option.some.inj H
   go_wp2
   go_ret
   exact⟨by first | rfl | (simp;done) | (simp [*];done),by repeat(first | exact Drawn0.refl _ | apply Drawn0.step)⟩
end Go.Proofs.Ytlalkldjpniakaa.P
