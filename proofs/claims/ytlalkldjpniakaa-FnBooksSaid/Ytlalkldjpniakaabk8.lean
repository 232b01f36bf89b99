import Derived.Test.Ytlalkldjpniakaabk7
import Derived.Test.Ytlalkldjpniakaabk6
/- Walks of functions that only read what others made: each fact stays at the world in which it arose, and is led to the present world where it is used. -/
namespace Go.Proofs.Ytlalkldjpniakaa.P
open Go.RowKit Go.Proofs.YtlalkldjpniakaaW.PrintWords Go.Proofs.YtlalkldjpniakaaW.PrintLast Go.Proofs.YtlalkldjpniakaaW.PrintMore
set_option linter.unusedVariables false
set_option linter.unusedSimpArgs false
set_option maxHeartbeats 8000000
set_option maxRecDepth 100000
theorem bst {w W w2:World} (k:Aside0 (Below W.heap.size W w2)) (h:Below w.heap.size w W):Below w.heap.size w w2:=below_step h k.out
/-- One world comes from another, by the steps among the hypotheses. -/
theorem ch {P:Prop} (h:P:=by with_reducible repeat(first | exact Below.refl _ _ | (refine Aside0.out ?_;assumption) | refine pw_below_drewN ?_ _ | refine below_drew ?_ | refine bst (by assumption) ?_)):P:=h
/-- A list is read as it was, or something that was put aside. -/
theorem sd {P:Prop} (h:P:=by first | (refine Aside0.out ?_;with_reducible assumption) | (refine Kd.C_below (Aside0.out (by with_reducible assumption)) ?_;exact ch)):P:=h
theorem rsl {α:Type} {d:Kd α} {e base:Nat} {w:World} {ok:Nat→Prop} {v:Value} {xs:List α} (h:Kd.R d e w base ok v xs):∃ A c,v= .slice A xs.length c∧Aside0 (xs.length≤c)∧Aside0 (Kd.C d w A xs.length xs):=by
  obtain⟨A,c,rfl⟩:=Kd.R_slice h
  exact⟨A,c,rfl,⟨(Kd.R_reads' h).2.1⟩,⟨(Kd.R_reads' h).2.2⟩⟩
theorem vsl {α:Type} {d:Kd α} {e:Nat} {w:World} {ok:Nat→Prop} {v:Value} {xs:List α} {B:Nat} (h:Kd.V d e w B ok v xs):∃ A c,v= .slice A xs.length c∧Aside0 (xs.length≤c)∧Aside0 (Kd.C d w A xs.length xs):=by
  obtain⟨A,c,rfl⟩:=Kd.V_slice h
  exact⟨A,c,rfl,⟨(Kd.V_reads' h).2.1⟩,⟨(Kd.V_reads' h).2.2⟩⟩
theorem ssl {α:Type} {d:Kd α} {e base:Nat} {w:World} {ok:Nat→Prop} {v:Value} {xs:List α} (h:Kd.S d e w base ok v xs):∃ A c,v= .slice A xs.length c∧Aside0 (xs.length≤c)∧Aside0 (Kd.C d w A xs.length xs):=by
  obtain⟨A,c,rfl⟩:=Kd.S_slice h
  exact⟨A,c,rfl,⟨(Kd.S_reads' h).2.1⟩,⟨(Kd.S_reads' h).2.2⟩⟩
theorem nsl {α:Type} {d:Kd α} {e base:Nat} {w:World} {ok:Nat→Prop} {v:Value} {xs:List α} (h:Kd.N d e w base ok v xs):∃ A c,v= .slice A xs.length c∧Aside0 (xs.length≤c)∧Aside0 (Kd.C d w A xs.length xs):=by
  obtain⟨A,c,rfl⟩:=Kd.N_slice h
  exact⟨A,c,rfl,⟨(Kd.N_reads' h).2.1⟩,⟨(Kd.N_reads' h).2.2⟩⟩
theorem vmk {A:Option Addr} {c e B:Nat} {w:World} {xs:List Int} (hc:xs.length≤c) (h:Kd.C (Kd.int .u8) w A xs.length xs):Kd.V (Kd.int .u8) e w B (fun _=>True) (.slice A xs.length c) xs:=Kd.V_mk hc (Kd.F_mono (Kd.C_F (Kd.heap_int .u8) h) (fun _ _=>trivial))
theorem ifT {α:Type} {c:Prop} [Decidable c] {x:Option α} {r:α} (h:(if c then x else none)=some r):c∧x=some r:=by
  by_cases p:c
  · rw[if_pos p] at h;exact⟨p,h⟩
  · rw[if_neg p] at h;cases h
theorem ifF {α:Type} {c:Prop} [Decidable c] {x:Option α} {r:α} (h:(if c then none else x)=some r):¬c∧x=some r:=by
  by_cases p:c
  · rw[if_pos p] at h;cases h
  · rw[if_neg p] at h;exact⟨p,h⟩
theorem bnn {α β:Type} {x:Option α} {f:α→Option β} {r:β} (h:x.bind f=some r):∃ t,Aside0 (x=some t)∧f t=some r:=by
  obtain⟨t,h1,h2⟩:=Option.bind_eq_some_iff.mp h
  exact⟨t,⟨h1⟩,h2⟩
section
variable {P:Program} {ops:Array Oper} {Q:Exit→Act→World→Prop} {rest:List Oper} {o o1 o2:Oper} {a:Act} {W:World}
/-- The operation that writes this slot. -/
theorem kd (n:Tmp) (h:wpList P ops Q (o :: rest) a W) (_h:o.dst=some n:=by with_reducible rfl):wpList P ops Q (o :: rest) a W:=h
/-- The same, of an operation that its guard wants. -/
theorem kg (n:Tmp) (h:wpList P ops Q ({o with guard:=none} :: rest) a W) (_h:o.dst=some n:=by with_reducible rfl) (hw:Region.wanted o (yielded ops a.tmps)=true:=by rfl):wpList P ops Q (o :: rest) a W:=gate_guard hw h
/-- A call in a plain region. -/
theorem kc (f:FuncId) (n:Tmp) {fn:Func} (hf:P.funcs[f]? =some fn) {as_:Array Operand} {ts:Array TypeId} (args:Array Value) (h:Calls P f args W fun e w'=>∃ v,e= .returned v∧wpList P ops Q rest (a.put (some n) v) w') (hop:o.op= .call {callee:= .value (.func f),args:=as_,argTypes:=ts}:=by with_reducible exact rfl) (hd:o.dst=some n:=by rfl) (hg:o.guard=none:=by rfl) (hname:(fn.name== "runtime.NumGoroutine")=false:=by kernel_rfl) (hb:fn.body.isSome=true:=by rfl)
    (hargs:as_.map a.eval=args:=by(try simp only[List.map_toArray,List.map_cons,List.map_nil]);first | done | rfl):wpList P ops Q (o :: rest) a W:=goesL_ (some n) hd hg hf hname hb args hop hargs h
/-- What is read, in a plain region. -/
theorem kl (n:Tmp) {v:Value} (hy:(execOp a.eval o).run P W= .ok (.value v) W) (h:wpList P ops Q rest (a.put (some n) v) W) (hd:o.dst=some n:=by rfl) (hg:o.guard=none:=by rfl):wpList P ops Q (o :: rest) a W:=Kd.event_run hg hy (by rw[hd];exact h)
/-- A variable is made and written whole at once. -/
theorem kb (N t:Nat) (old new:List Value) (v:Value) {x:Operand} (h:∀ g w',Aside0 (w'.heap[g]? =some (.cells new.toArray t (0,0)))→Aside0 (Below W.heap.size W w')→wpList P ops Q rest (a.put (some N) (.pointer (some ⟨g,0,none⟩))) w') (ho1:o1.op= .alloc t:=by with_reducible exact rfl) (hd1:o1.dst=some N:=by rfl) (hg1:o1.guard=none:=by rfl)
    (ho2:o2.op= .store t (.tmp N) x:=by rfl) (hd2:o2.dst=none:=by rfl) (hg2:o2.guard=none:=by rfl) (hrun:(execOp a.eval o1).run P W= .ok (.value (.pointer (some ⟨W.heap.size,0,none⟩))) (W.alloc (.cells old.toArray t (0,0))):=by first | (go_simp;done) | (go_simp;rfl))
    (hp:∀ g,(a.put (some N) (.pointer (some ⟨g,0,none⟩))).eval (.tmp N)= .pointer (some ⟨g,0,none⟩):=by intro g;rfl) (hx:∀ g,(a.put (some N) (.pointer (some ⟨g,0,none⟩))).eval x=v:=by intro g;rfl)
    (hlen:new.length=old.length:=by rfl) (hv:v.cells.toList=new:=by rfl) (hsz:(P.info? t).map (·.size)=some new.length:=by kernel_rfl) (h1:∀ u∈new,u.oneCell'=true:=by intro u hu;simp only[List.mem_cons,List.not_mem_nil,or_false] at hu;repeat(first | (rcases hu with rfl | hu;rfl) | (subst hu;rfl))) (hp0:0<new.length:=by simp):wpList P ops Q (o1 :: o2 :: rest) a W:=by
  refine box_event hg1 hd1 hrun fun g hg w1 hb hw=>?_
  rw[hd1]
  refine put_whole t hd2 hg2 (.tmp N) x ho2 new v (hp g) (hx g) hb hlen hv hsz h1 hp0 fun w2 hgr hb2=>?_
  exact h g w2 ⟨hb2⟩ ⟨(hw.grown hgr hw.size (fun k e=>by injection e with e;omega))⟩
/-- A variable is made, another slot is written, and the variable is written whole. -/
theorem kb2 (N M t:Nat) (old new:List Value) (v vm:Value) {x y:Operand} {om:Oper} (h:∀ g w',Aside0 (w'.heap[g]? =some (.cells new.toArray t (0,0)))→Aside0 (Below W.heap.size W w')→wpList P ops Q rest ((a.put (some N) (.pointer (some ⟨g,0,none⟩))).put (some M) vm) w') (ho1:o1.op= .alloc t:=by with_reducible exact rfl) (hd1:o1.dst=some N:=by rfl) (hg1:o1.guard=none:=by rfl)
    (hom:om.op= .assign y:=by rfl) (hdm:om.dst=some M:=by rfl) (hgm:om.guard=none:=by rfl) (ho2:o2.op= .store t (.tmp N) x:=by rfl) (hd2:o2.dst=none:=by rfl) (hg2:o2.guard=none:=by rfl) (hrun:(execOp a.eval o1).run P W= .ok (.value (.pointer (some ⟨W.heap.size,0,none⟩))) (W.alloc (.cells old.toArray t (0,0))):=by first | (go_simp;done) | (go_simp;rfl))
    (hy:∀ g,(a.put (some N) (.pointer (some ⟨g,0,none⟩))).eval y=vm:=by intro g;rfl) (hp:∀ g,((a.put (some N) (.pointer (some ⟨g,0,none⟩))).put (some M) vm).eval (.tmp N)= .pointer (some ⟨g,0,none⟩):=by intro g;rfl) (hx:∀ g,((a.put (some N) (.pointer (some ⟨g,0,none⟩))).put (some M) vm).eval x=v:=by intro g;rfl)
    (hlen:new.length=old.length:=by rfl) (hv:v.cells.toList=new:=by rfl) (hsz:(P.info? t).map (·.size)=some new.length:=by kernel_rfl) (h1:∀ u∈new,u.oneCell'=true:=by intro u hu;simp only[List.mem_cons,List.not_mem_nil,or_false] at hu;repeat(first | (rcases hu with rfl | hu;rfl) | (subst hu;rfl))) (hp0:0<new.length:=by simp):wpList P ops Q (o1 :: om :: o2 :: rest) a W:=by
  refine box_event hg1 hd1 hrun fun g hg w1 hb hw=>?_
  rw[hd1]
  refine Kd.event_run hgm (v:=vm) (by unfold execOp;simp only[hom,hy g];rfl) ?_
  rw[hdm]
  refine put_whole t hd2 hg2 (.tmp N) x ho2 new v (hp g) (hx g) hb hlen hv hsz h1 hp0 fun w2 hgr hb2=>?_
  exact h g w2 ⟨hb2⟩ ⟨(hw.grown hgr hw.size (fun k e=>by injection e with e;omega))⟩
end
theorem wcell {w w':World} {a:Addr} {v:Value} (h:w.cell? a=some v) (b:Below w.heap.size w w':=by exact ch):w'.cell? a=some v:=(b.cell (World.block_lt_of_cell? w _ h)).trans h
theorem bcell {w w':World} {g:Nat} {cs:Array Value} {t:TypeId} (h:Aside0 (w.heap[g]? =some (.cells cs t (0,0)))) (b:Below w.heap.size w w':=by exact ch):w'.heap[g]? =some (.cells cs t (0,0)):=blk_below h.out b
section
variable {P:Program} {ops:Array Oper} {Q:Exit→Act→World→Prop} {md:Region.Mode} {S:World→Prop} {ds:List Nat} {T:Bool×List (List Nat×List Nat)} {oi:Oper} {v:Value} {fuel:Nat} {l:Array Bool} {a a':Act} {w:World}
/-- The beginning of a region that draws: what S asks is that the world comes from the one at its beginning. -/
theorem rst (n:Nat) {id:Nat} (hm:P.follows .mixedOrders=true) (h:∀ w1,Aside0 (Below w.heap.size w w1)→wpAnyLast P .any ops Q (fun w'=>Below w1.heap.size w1 w') [] n (Array.replicate n false) a w1) (hn:ops.size=n:=by rfl):(Code.region id ops true).wp P Q a w:=
  start_ (n:=n) (S:=fun w'=>Below w.drew.heap.size w.drew w') (ds:=[]) _ hm hn rfl (Below.refl _ _) (fun _=>h w.drew ⟨below_drew (Below.refl _ _)⟩)
/-- A call in a region that draws. -/
theorem rc (i n:Nat) (f:FuncId) {fn:Func} (hT:rtab md ops=T) (hf:P.funcs[f]? =some fn) (args:Array Value) {as_:Array Operand} {ts:Array TypeId} (h:Calls P f args w fun e w'=>∃ v,e= .returned v∧S w'∧wpAnyLast P md ops Q S ds fuel (l.setIfInBounds i true) (a.put (some n) v) w') (hi:ops[i]? =some oi:=by rfl) (hN:oi.dst=some n:=by rfl)
    (hc:(readyT T.2 l.toList==[i] && l.toList.set i true==(l.setIfInBounds i true).toList)=true:=by kernel_rfl) (hd:i ∉ ds:=by decide) (hname:(fn.name== "runtime.NumGoroutine")=false:=by kernel_rfl) (hb:fn.body.isSome=true:=by rfl) (hw:Region.wanted oi (yielded ops a.tmps)=true:=by rfl) (hop:oi.op= .call {callee:= .value (.func f),args:=as_,argTypes:=ts}:=by rfl)
    (hargs:as_.map a.eval=args:=by(try simp only[List.map_toArray,List.map_cons,List.map_nil]);first | done | rfl):wpAnyLast P md ops Q S ds (fuel+1) l a w:=
  one_ (l.setIfInBounds i true) hi hN (one_of hT hc) hd (fun K hK=>goes_ hf hname hb args hw hN hop hargs (h.mono fun e w' ⟨v,h1,h2,h3⟩=>⟨v,h1,hK.out _ _ h2 (fun _=>h3)⟩))
theorem ru (i n:Nat) (hT:rtab md ops=T) (h:wpAnyLast P md ops Q S ds fuel (l.setIfInBounds i true) a' w) (hi:ops[i]? =some oi:=by rfl) (hN:oi.dst=some n:=by rfl) (hc:anyT T l.toList (l.setIfInBounds i true).toList i=true:=by kernel_rfl)
    (hQ:∀ c a w,Q (.panic c) (a.put oi.dst v) w→Q (.panic c) a w:=by exact fun _ _ _ h=>h) (hw:Region.wanted oi (yielded ops a.tmps)=true:=by rfl) (hy:∀ w',(execOp a.eval oi).run P w'= .ok (.value v) w':=by intro w';go_simp;with_reducible rfl) (ha:a.put (some n) v=a':=by simp only[Act.put,List.setIfInBounds_toArray,List.set_cons_zero,List.set_cons_succ,i64_w,i32_w];rfl):wpAnyLast P md ops Q S ds (fuel+1) l a w:=
  pure_ (l.setIfInBounds i true) hi hN (any_of hT hc) hQ (.inl ⟨hw,hy⟩) ha h
theorem rn (i n:Nat) (hT:rtab md ops=T) (h:wpAnyLast P md ops Q S ds fuel (l.setIfInBounds i true) a' w) (hi:ops[i]? =some oi:=by rfl) (hN:oi.dst=some n:=by rfl) (hc:anyT T l.toList (l.setIfInBounds i true).toList i=true:=by kernel_rfl)
    (hQ:∀ c a w,Q (.panic c) (a.put oi.dst undef) w→Q (.panic c) a w:=by exact fun _ _ _ h=>h) (hw:Region.wanted oi (yielded ops a.tmps)=false:=by rfl) (ha:a.put (some n) undef=a':=by simp only[Act.put,List.setIfInBounds_toArray,List.set_cons_zero,List.set_cons_succ,i64_w,i32_w];rfl):wpAnyLast P md ops Q S ds (fuel+1) l a w:=
  pure_ (l.setIfInBounds i true) hi hN (any_of hT hc) hQ (.inr ⟨hw,rfl⟩) ha h
theorem nrm (h:wpAnyLast P md ops Q S ds fuel l a' w) (ha:a=a':=by simp only[Act.put,List.setIfInBounds_toArray,List.set_cons_zero,List.set_cons_succ,i64_w,i32_w];rfl):wpAnyLast P md ops Q S ds fuel l a w:=norm_ ha h
/-- What is read is told for every world that holds S. -/
theorem tl (i n:Nat) {B:List Nat} (v:Value) (hT:rtab md ops=T) (hB:waitsOk T.2 B=true) (hS:S w) (hy:∀ w',S w'→(execOp a.eval oi).run P w'= .ok (.value v) w') (h:wpAnyLast P md ops Q S ds fuel (l.setIfInBounds i true) a' w) (hi:ops[i]? =some oi:=by rfl) (hN:oi.dst=some n:=by rfl) (hc:takeW T B ds l.toList (l.setIfInBounds i true).toList i=true:=by kernel_rfl)
    (hQ:∀ c a w,Q (.panic c) (a.put oi.dst v) w→Q (.panic c) a w:=by exact fun _ _ _ h=>h) (hw:Region.wanted oi (yielded ops a.tmps)=true:=by rfl) (ha:a.put (some n) v=a':=by simp only[Act.put,List.setIfInBounds_toArray,List.set_cons_zero,List.set_cons_succ,i64_w,i32_w];rfl):wpAnyLast P md ops Q S ds (fuel+1) l a w:=
  take_ (l.setIfInBounds i true) hi hN (take_ofW hT hB hc) hQ (.inl ⟨hw,hy⟩) hS ha h
end
end Go.Proofs.Ytlalkldjpniakaa.P
namespace Go.Proofs.Ytlalkldjpniakaa.P
open Go.RowKit Go.Proofs.YtlalkldjpniakaaW.PrintWords Go.Proofs.YtlalkldjpniakaaW.PrintLast Go.Proofs.YtlalkldjpniakaaW.PrintMore
attribute [local go_sem] zck zcl zdl zdm zbz zca zcm zcn -- for this text's walks alone
set_option linter.unusedVariables false
set_option linter.unusedSimpArgs false
set_option maxHeartbeats 8000000
set_option maxRecDepth 100000

def spec_l1Sign.j0:Nat→Int→Bool→Option (Int)
 | 0,_,_=>none
 | k+1,x0,x3=>if x3=true then(some (wrap64 ((wrap64 (x0)) - 48))) else(if x0≥97 then(if x0≤102 then(some (wrap64 ((wrap64 (x0)) - 87))) else(some (-1))) else(some (-1)))
def spec_l1Sign.f (k:Nat) (a0:Int):Option (Int):=if a0≥48 then(spec_l1Sign.j0 k a0 (decide (a0≤57))) else(spec_l1Sign.j0 k a0 false)
theorem spec_l1Sign.mono_l:∀ k,(∀ y0 y1,LeO (spec_l1Sign.j0 k y0 y1) (spec_l1Sign.j0 (k+1) y0 y1))
 | 0=>fun _ _ r h=>by simp [spec_l1Sign.j0] at h
 | k+1=>by
  have ih0:=spec_l1Sign.mono_l k
  intro y0 y1
  unfold spec_l1Sign.j0
  exact mt
theorem spec_l1Sign.mono:∀ a0 k,LeO (spec_l1Sign.f k a0) (spec_l1Sign.f (k+1) a0):=by
 intro a0 k
 have ih0:=spec_l1Sign.mono_l k
 unfold spec_l1Sign.f
 exact mt
theorem spec_l1Sign.calls (k:Nat) (a0:Int) (r:Int) (w:World) (h:spec_l1Sign.f k a0=some r):
  Calls Try.prog 135 #[.int .u8 a0] w fun e w'=>e= .returned (.int .i64 r)∧Drawn0 w w':=by
 have H:(if a0≥48 then(spec_l1Sign.j0 k a0 (decide (a0≤57))) else(spec_l1Sign.j0 k a0 false))=some r:=h
 clear h
 have C0:=Aside0.mk H
 clear H
 go_enter Try.func135,Try.ntmps135
 go_upto_region 1 with (fail)
 go_cut [3] (fun v3 wc=>∃ (kq:Nat) (B0:Bool),v3= .bool B0∧Aside0 (spec_l1Sign.j0 kq a0 B0=some r)∧Aside0 (kq≤k)∧Drawn0 w wc)
 case first=>
  have H:=C0.out
  clear C0
  by_cases c3:a0≥48
  ·rw[if_pos c3] at H
   have o0:=zae c3
   clear c3
   (first | rw[o0] | (simp only[i64_w,i32_w];rw[o0]) | skip)
   have H':=Aside0.mk H
   clear H
   go_wp2
   go_meet
   case rel=>exact⟨_,(decide (a0≤57)),jer,H',⟨by first | omega | exact zaf _⟩,by repeat(first | exact Drawn0.refl _ | apply Drawn0.step)⟩
  rw[if_neg c3] at H
  have o0:=zbf c3
  clear c3
  (first | rw[o0] | (simp only[i64_w,i32_w];rw[o0]) | skip)
  have H':=Aside0.mk H
  clear H
  go_wp2
  go_meet
  case rel=>exact⟨_,(false),jer,H',⟨by first | omega | exact zaf _⟩,by repeat(first | exact Drawn0.refl _ | apply Drawn0.step)⟩
 case rest=>
  clear C0
  try clear c1
  try clear p2
  try clear c3
  try clear o0
  obtain⟨kq,B0,rfl,HA,F0,⟨mc1,rfl⟩⟩:=hcut
  cases kq with
  | zero=>exact absurd HA.out (by simp [spec_l1Sign.j0])
  | succ kj1=>
   have H:=HA.out
   clear HA
   simp only[spec_l1Sign.j0] at H
   by_cases c4:B0=true
   ·subst c4
    rw[if_pos rfl] at H
    obtain rfl:=Option.some.inj H
    go_wp2
    go_ret
    exact⟨by first | rfl | (simp;done) | (simp [*];done),by repeat(first | exact Drawn0.refl _ | apply Drawn0.step)⟩
   replace c4:=zcp.mpr c4
   subst c4
   rw[if_neg (show ¬(false=true) by decide)] at H
   by_cases c5:a0≥97
   ·rw[if_pos c5] at H
    have D0:=zae c5
    clear c5
    by_cases c6:a0≤102
    ·rw[if_pos c6] at H
     have E0:=zae c6
     clear c6
     obtain rfl:=Option.some.inj H
     go_wp2
     go_ret
     exact⟨by first | rfl | (simp;done) | (simp [*];done),by repeat(first | exact Drawn0.refl _ | apply Drawn0.step)⟩
    rw[if_neg c6] at H
    have E0:=zbf c6
    clear c6
    obtain rfl:=Option.some.inj H
    go_wp2
    go_ret
    exact⟨by first | rfl | (simp;done) | (simp [*];done),by repeat(first | exact Drawn0.refl _ | apply Drawn0.step)⟩
   rw[if_neg c5] at H
   have D0:=zbf c5
   clear c5
   obtain rfl:=Option.some.inj H
   go_wp2
   go_ret
   exact⟨by first | rfl | (simp;done) | (simp [*];done),by repeat(first | exact Drawn0.refl _ | apply Drawn0.step)⟩
def spec_Unhex.l0:Nat→ByteArray→List Int→Int→Option (List Int×Bool)
 | 0,_,_,_=>none
 | k+1,x0,x4,x5=>if(wrap64 (x5+1))<(x0.size:Int) then(if 0≤x5 then(if x5<(x0.size:Int) then((spec_l1Sign.f k (bt x0 x5)).bind fun t158=>(if 0≤(wrap64 (x5+1)) then((spec_l1Sign.f k (bt x0 (wrap64 (x5+1)))).bind fun t159=>(if t158<0 then(some ((([]:List Int)),false)) else(if t159<0 then(some ((([]:List Int)),false)) else(if x4.length<140737488355328 then(spec_Unhex.l0 k x0 (x4++[(wrap64 ((wrap64 (16*t158))+t159)) % 256]) (wrap64 (x5+2))) else(none))))) else(none))) else(none)) else(none)) else(if((x0.size:Int) % 2)=0 then(some (x4,true)) else(some ((([]:List Int)),false)))
def spec_Unhex.f (k:Nat) (a0:ByteArray):Option (List Int×Bool):=spec_Unhex.l0 k a0 (([]:List Int)) 0
theorem spec_Unhex.mono_l:∀ k,(∀ y0 y1 y2,LeO (spec_Unhex.l0 k y0 y1 y2) (spec_Unhex.l0 (k+1) y0 y1 y2))
 | 0=>fun _ _ _ r h=>by simp [spec_Unhex.l0] at h
 | k+1=>by
  have ih0:=spec_Unhex.mono_l k
  intro y0 y1 y2
  unfold spec_Unhex.l0
  have m0:=@spec_l1Sign.mono
  exact mt
theorem spec_Unhex.mono:∀ a0 k,LeO (spec_Unhex.f k a0) (spec_Unhex.f (k+1) a0):=by
 intro a0 k
 have ih0:=spec_Unhex.mono_l k
 unfold spec_Unhex.f
 have m0:=@spec_l1Sign.mono
 exact mt
theorem spec_Unhex.calls (k:Nat) (a0:ByteArray) (r1:List Int) (r2:Bool) (w:World) (h:spec_Unhex.f k a0=some (r1,r2)):
  Calls Try.prog 106 #[.string a0] w fun e w'=>∃ v0_:Value,e= .returned (.tuple #[v0_, .bool r2])∧Kd.R (Kd.int .u8) 5 w' w.heap.size (fun _=>True) v0_ r1∧Below w.heap.size w w':=by
 have HB:=Aside0.mk (zbo w.heap.size w)
 have H:(spec_Unhex.l0 k a0 (([]:List Int)) 0)=some (r1,r2):=h
 clear h
 obtain⟨Z0,L0⟩:∃ y_:List Int,y_=(([]:List Int)):=⟨_,rfl⟩
 replace H:(spec_Unhex.l0 k a0 Z0 0)=some (r1,r2):=jrw L0 H
 have V0:=Aside0.mk L0
 clear L0
 have H':=Aside0.mk H
 clear H
 go_enter Try.func106,Try.ntmps106
 go_wp2_with (first | (refine jgd 8 ?_;refine jlt 8 (Kd.int .u8) 5 ?_;intro v153 w2 n1 hb;have xb_:=below_ofs bq hb;(first | rw[← V0.out] at n1 | (simp only[Int.reduceToNat] at n1;rw[← V0.out] at n1));have n_:=jA2 (zax n1 (zal xb_)) (zac xb_ hb);clear HB;obtain⟨C1,HB⟩:=n_;clear xb_ hb n1))
 go_loopg [4,5] k (fun kq v4 v5 w'=>∃ (H0:List Int) (B0:Int),v5= .int .i64 B0∧Aside0 (spec_Unhex.l0 kq a0 H0 B0=some (r1,r2))∧Aside0 (kq≤k)∧Aside0 (Kd.R (Kd.int .u8) 5 w' w.heap.size (fun _=>True) v4 H0)∧Aside0 (Below w.heap.size w w'))
 case atStart=>exact⟨(Z0),(0),jer,H',⟨zaf _⟩,⟨pR C1.out⟩,⟨bq⟩⟩
 case round=>
  clear H'
  try clear c1
  try clear p2
  obtain⟨H0,B0,rfl,HA,P1,o0,HB⟩:=hrel
  cases gk with
  | zero=>exact absurd HA.out (by simp [spec_Unhex.l0])
  | succ k1=>
   have H:=HA.out
   clear HA
   simp only[spec_Unhex.l0] at H
   by_cases c4:(wrap64 (B0+1))<(a0.size:Int)
   ·rw[if_pos c4] at H
    have D1:=zae c4
    clear c4
    by_cases c5:0≤B0
    ·rw[if_pos c5] at H
     have S1:=zae c5
     clear c5
     by_cases c6:B0<(a0.size:Int)
     ·rw[if_pos c6] at H
      have U1:=zae c6
      clear c6
      obtain⟨F0,A8,H⟩:=bnd H
      obtain⟨ji9,hji9⟩:∃ j_:Int,(wrap64 (B0+1))=j_:=⟨_,rfl⟩
      replace H:(if 0≤(ji9) then((spec_l1Sign.f k1 (bt a0 (ji9))).bind fun C0=>(if F0<0 then(some ((([]:List Int)),false)) else(if C0<0 then(some ((([]:List Int)),false)) else(if H0.length<140737488355328 then(spec_Unhex.l0 k1 a0 (H0++[(wrap64 ((wrap64 (16*F0))+C0)) % 256]) (wrap64 (B0+2))) else(none))))) else(none))=some (r1,r2):=by first | (rw[hji9] at H;exact H) | (simp only[hji9] at H ⊢;exact H)
      (try rw[hji9] at D1)
      (try rw[hji9] at A8)
      have hji9w:(IntKind.i64.wrap (B0+1))=ji9:=(i64_w _).trans hji9
      by_cases c10:0≤(ji9)
      ·rw[if_pos c10] at H
       have Q1:=zae c10
       clear c10
       obtain⟨C0,A12,H⟩:=bnd H
       by_cases c13:F0<0
       ·rw[if_pos c13] at H
        have E1:=zae c13
        clear c13
        obtain⟨M1,M0⟩:∃ y_:List Int,y_=(([]:List Int)):=⟨_,rfl⟩
        replace H:(some (M1,false))=some (r1,r2):=jrw M0 H
        have I0:=Aside0.mk M0
        clear M0
        simp only[zaz,zbn] at H
        obtain⟨rfl,rfl⟩:=H
        have p7:0≤(B0:Int):=zad jab
        have q7:B0<(a0.size:Int):=zad jab
        have R1:=bt_at a0 B0
        replace p7:=zbr p7
        replace q7:=zbr q7
        go_wp2_with (first | (go_at_call 135;(with_reducible refine(spec_l1Sign.calls k1 (bt a0 B0) F0 _ A8.out).mono ?_);rintro e w' ⟨rfl,⟨nd,rfl⟩⟩;(try first | exact⟨rfl,_,zao _ _ _⟩ | exact⟨rfl,_,zer (zao _ _ _) (zeo (World.drewN _) (zci _ _ _))⟩);have p11:0≤((ji9):Int):=zad jab;have G0:(ji9)<(a0.size:Int):=zad jab;have K0:=bt_at a0 (ji9);replace p11:=zbr p11;replace G0:=zbr G0) | (go_at_call 135;(with_reducible refine(spec_l1Sign.calls k1 (bt a0 (ji9)) C0 _ A12.out).mono ?_);rintro e w' ⟨rfl,⟨nd,rfl⟩⟩;(try first | exact⟨rfl,_,zao _ _ _⟩ | exact⟨rfl,_,zer (zao _ _ _) (zeo (World.drewN _) (zci _ _ _))⟩)) | (refine jgd 31 ?_;refine jlt 31 (Kd.int .u8) 5 ?_;intro v161 w14 D0 hb;have xb_:=below_ofs bq hb;(first | rw[← I0.out] at D0 | (simp only[Int.reduceToNat] at D0;rw[← I0.out] at D0));have qHO_4:=Kd.R_ofs (pR o0.out) hb;have n_:=jA3 (zbx qHO_4 (zbg D0) hb) (zax (zdg D0 (zce qHO_4)) (zal xb_)) (zac xb_ hb);clear qHO_4 o0 HB;obtain⟨o0,N0,HB⟩:=n_;clear xb_ hb D0))
        repeat(go_quiet (first | (go_at_call 135;(with_reducible refine(spec_l1Sign.calls k1 (bt a0 B0) F0 _ A8.out).mono ?_);rintro e w' ⟨rfl,⟨nd,rfl⟩⟩;(try first | exact⟨rfl,_,zao _ _ _⟩ | exact⟨rfl,_,zer (zao _ _ _) (zeo (World.drewN _) (zci _ _ _))⟩);have p11:0≤((ji9):Int):=zad jab;have G0:(ji9)<(a0.size:Int):=zad jab;have K0:=bt_at a0 (ji9);replace p11:=zbr p11;replace G0:=zbr G0) | (go_at_call 135;(with_reducible refine(spec_l1Sign.calls k1 (bt a0 (ji9)) C0 _ A12.out).mono ?_);rintro e w' ⟨rfl,⟨nd,rfl⟩⟩;(try first | exact⟨rfl,_,zao _ _ _⟩ | exact⟨rfl,_,zer (zao _ _ _) (zeo (World.drewN _) (zci _ _ _))⟩)) | (refine jgd 31 ?_;refine jlt 31 (Kd.int .u8) 5 ?_;intro v161 w14 D0 hb;(first | rw[← I0.out] at D0 | (simp only[Int.reduceToNat] at D0;rw[← I0.out] at D0));have n_:=jA3 (zbx (pR o0.out) (zbg D0) hb) (zax (zdg D0 (zce (pR o0.out))) (zal bq)) (zac bq hb);clear o0 HB;obtain⟨o0,N0,HB⟩:=n_;clear hb D0));try go_wp2_with (first | (go_at_call 135;(with_reducible refine(spec_l1Sign.calls k1 (bt a0 B0) F0 _ A8.out).mono ?_);rintro e w' ⟨rfl,⟨nd,rfl⟩⟩;(try first | exact⟨rfl,_,zao _ _ _⟩ | exact⟨rfl,_,zer (zao _ _ _) (zeo (World.drewN _) (zci _ _ _))⟩);have p11:0≤((ji9):Int):=zad jab;have G0:(ji9)<(a0.size:Int):=zad jab;have K0:=bt_at a0 (ji9);replace p11:=zbr p11;replace G0:=zbr G0) | (go_at_call 135;(with_reducible refine(spec_l1Sign.calls k1 (bt a0 (ji9)) C0 _ A12.out).mono ?_);rintro e w' ⟨rfl,⟨nd,rfl⟩⟩;(try first | exact⟨rfl,_,zao _ _ _⟩ | exact⟨rfl,_,zer (zao _ _ _) (zeo (World.drewN _) (zci _ _ _))⟩)) | (refine jgd 31 ?_;refine jlt 31 (Kd.int .u8) 5 ?_;intro v161 w14 D0 hb;(first | rw[← I0.out] at D0 | (simp only[Int.reduceToNat] at D0;rw[← I0.out] at D0));have n_:=jA3 (zbx (pR o0.out) (zbg D0) hb) (zax (zdg D0 (zce (pR o0.out))) (zal bq)) (zac bq hb);clear o0 HB;obtain⟨o0,N0,HB⟩:=n_;clear hb D0)))
        go_ret2
        exact⟨_,by first | rfl | (simp [errW_none,errW_some] <;> rfl) | (simp only[← hji9];first | rfl | (simp [errW_none,errW_some] <;> rfl)) | (simp [*,errW_none,errW_some] <;> rfl),tqR N0.out,bq⟩
       rw[if_neg c13] at H
       have E1:=zbf c13
       clear c13
       by_cases Y0:C0<0
       ·rw[if_pos Y0] at H
        have F1:=zae Y0
        clear Y0
        obtain⟨N1,O0⟩:∃ y_:List Int,y_=(([]:List Int)):=⟨_,rfl⟩
        replace H:(some (N1,false))=some (r1,r2):=jrw O0 H
        have J0:=Aside0.mk O0
        clear O0
        simp only[zaz,zbn] at H
        obtain⟨rfl,rfl⟩:=H
        have p7:0≤(B0:Int):=zad jab
        have q7:B0<(a0.size:Int):=zad jab
        have R1:=bt_at a0 B0
        replace p7:=zbr p7
        replace q7:=zbr q7
        go_wp2_with (first | (go_at_call 135;(with_reducible refine(spec_l1Sign.calls k1 (bt a0 B0) F0 _ A8.out).mono ?_);rintro e w' ⟨rfl,⟨nd,rfl⟩⟩;(try first | exact⟨rfl,_,zao _ _ _⟩ | exact⟨rfl,_,zer (zao _ _ _) (zeo (World.drewN _) (zci _ _ _))⟩);have p11:0≤((ji9):Int):=zad jab;have G0:(ji9)<(a0.size:Int):=zad jab;have K0:=bt_at a0 (ji9);replace p11:=zbr p11;replace G0:=zbr G0) | (go_at_call 135;(with_reducible refine(spec_l1Sign.calls k1 (bt a0 (ji9)) C0 _ A12.out).mono ?_);rintro e w' ⟨rfl,⟨nd,rfl⟩⟩;(try first | exact⟨rfl,_,zao _ _ _⟩ | exact⟨rfl,_,zer (zao _ _ _) (zeo (World.drewN _) (zci _ _ _))⟩)) | (refine jgd 31 ?_;refine jlt 31 (Kd.int .u8) 5 ?_;intro v164 w17 E0 hb;have xb_:=below_ofs bq hb;(first | rw[← J0.out] at E0 | (simp only[Int.reduceToNat] at E0;rw[← J0.out] at E0));have qHO_4:=Kd.R_ofs (pR o0.out) hb;have n_:=jA3 (zbx qHO_4 (zbg E0) hb) (zax (zdg E0 (zce qHO_4)) (zal xb_)) (zac xb_ hb);clear qHO_4 o0 HB;obtain⟨o0,P0,HB⟩:=n_;clear xb_ hb E0))
        repeat(go_quiet (first | (go_at_call 135;(with_reducible refine(spec_l1Sign.calls k1 (bt a0 B0) F0 _ A8.out).mono ?_);rintro e w' ⟨rfl,⟨nd,rfl⟩⟩;(try first | exact⟨rfl,_,zao _ _ _⟩ | exact⟨rfl,_,zer (zao _ _ _) (zeo (World.drewN _) (zci _ _ _))⟩);have p11:0≤((ji9):Int):=zad jab;have G0:(ji9)<(a0.size:Int):=zad jab;have K0:=bt_at a0 (ji9);replace p11:=zbr p11;replace G0:=zbr G0) | (go_at_call 135;(with_reducible refine(spec_l1Sign.calls k1 (bt a0 (ji9)) C0 _ A12.out).mono ?_);rintro e w' ⟨rfl,⟨nd,rfl⟩⟩;(try first | exact⟨rfl,_,zao _ _ _⟩ | exact⟨rfl,_,zer (zao _ _ _) (zeo (World.drewN _) (zci _ _ _))⟩)) | (refine jgd 31 ?_;refine jlt 31 (Kd.int .u8) 5 ?_;intro v164 w17 E0 hb;(first | rw[← J0.out] at E0 | (simp only[Int.reduceToNat] at E0;rw[← J0.out] at E0));have n_:=jA3 (zbx (pR o0.out) (zbg E0) hb) (zax (zdg E0 (zce (pR o0.out))) (zal bq)) (zac bq hb);clear o0 HB;obtain⟨o0,P0,HB⟩:=n_;clear hb E0));try go_wp2_with (first | (go_at_call 135;(with_reducible refine(spec_l1Sign.calls k1 (bt a0 B0) F0 _ A8.out).mono ?_);rintro e w' ⟨rfl,⟨nd,rfl⟩⟩;(try first | exact⟨rfl,_,zao _ _ _⟩ | exact⟨rfl,_,zer (zao _ _ _) (zeo (World.drewN _) (zci _ _ _))⟩);have p11:0≤((ji9):Int):=zad jab;have G0:(ji9)<(a0.size:Int):=zad jab;have K0:=bt_at a0 (ji9);replace p11:=zbr p11;replace G0:=zbr G0) | (go_at_call 135;(with_reducible refine(spec_l1Sign.calls k1 (bt a0 (ji9)) C0 _ A12.out).mono ?_);rintro e w' ⟨rfl,⟨nd,rfl⟩⟩;(try first | exact⟨rfl,_,zao _ _ _⟩ | exact⟨rfl,_,zer (zao _ _ _) (zeo (World.drewN _) (zci _ _ _))⟩)) | (refine jgd 31 ?_;refine jlt 31 (Kd.int .u8) 5 ?_;intro v164 w17 E0 hb;(first | rw[← J0.out] at E0 | (simp only[Int.reduceToNat] at E0;rw[← J0.out] at E0));have n_:=jA3 (zbx (pR o0.out) (zbg E0) hb) (zax (zdg E0 (zce (pR o0.out))) (zal bq)) (zac bq hb);clear o0 HB;obtain⟨o0,P0,HB⟩:=n_;clear hb E0)))
        go_ret2
        exact⟨_,by first | rfl | (simp [errW_none,errW_some] <;> rfl) | (simp only[← hji9];first | rfl | (simp [errW_none,errW_some] <;> rfl)) | (simp [*,errW_none,errW_some] <;> rfl),tqR P0.out,bq⟩
       rw[if_neg Y0] at H
       have F1:=zbf Y0
       clear Y0
       by_cases K1:H0.length<140737488355328
       ·rw[if_pos K1] at H
        have Q0:=Aside0.mk K1
        clear K1
        obtain⟨G1,R0⟩:∃ y_:List Int,y_=(H0++[(wrap64 ((wrap64 (16*F0))+C0)) % 256]):=⟨_,rfl⟩
        replace H:(spec_Unhex.l0 k1 a0 G1 (wrap64 (B0+2)))=some (r1,r2):=jrw R0 H
        have S0:=Aside0.mk R0
        clear R0
        have H':=Aside0.mk H
        clear H
        have p7:0≤(B0:Int):=zad jab
        have q7:B0<(a0.size:Int):=zad jab
        have R1:=bt_at a0 B0
        replace p7:=zbr p7
        replace q7:=zbr q7
        go_wp2_with (first | (go_at_call 135;(with_reducible refine(spec_l1Sign.calls k1 (bt a0 B0) F0 _ A8.out).mono ?_);rintro e w' ⟨rfl,⟨nd,rfl⟩⟩;(try first | exact⟨rfl,_,zao _ _ _⟩ | exact⟨rfl,_,zer (zao _ _ _) (zeo (World.drewN _) (zci _ _ _))⟩);have p11:0≤((ji9):Int):=zad jab;have G0:(ji9)<(a0.size:Int):=zad jab;have K0:=bt_at a0 (ji9);replace p11:=zbr p11;replace G0:=zbr G0) | (go_at_call 135;(with_reducible refine(spec_l1Sign.calls k1 (bt a0 (ji9)) C0 _ A12.out).mono ?_);rintro e w' ⟨rfl,⟨nd,rfl⟩⟩;(try first | exact⟨rfl,_,zao _ _ _⟩ | exact⟨rfl,_,zer (zao _ _ _) (zeo (World.drewN _) (zci _ _ _))⟩)) | ((with_reducible refine zcd (b:= .append) (xs:= #[.tmp 32, .tmp 38]) rfl ?_);at_builtin;refine zhd (Kd.int .u8) (w0:=w) w.heap.size rfl (.tmp 32) (.tmp 38) 29 5 (.int .u8 0) 1 rfl Try.underlying29 info5 rfl (by decide) (by omega) u4 H0 ((wrap64 ((wrap64 (16*F0))+C0)) % 256) [.int .u8 ((wrap64 ((wrap64 (16*F0))+C0)) % 256)] (fun _=>True) (fun _=>False) rfl rfl ?aP (fun _ hk=>hk.elim) ?aF ?aO ?aB ?aS ?aL ?_;(case aP=>exact rfl);(case aB=>exact bq);(case aF=>exact(fun _ _=>trivial));(case aO=>exact(pR o0.out));(case aS=>exact(zal bq));(case aL=>have:=Q0.out;omega);intro v167 w20 ho hb hg hat;rw[← S0.out] at ho;have n_:=jA2 (hb) (ho);clear HB o0;obtain⟨HB,T0⟩:=n_;clear ho hb hg hat))
        repeat(go_quiet (first | (go_at_call 135;(with_reducible refine(spec_l1Sign.calls k1 (bt a0 B0) F0 _ A8.out).mono ?_);rintro e w' ⟨rfl,⟨nd,rfl⟩⟩;(try first | exact⟨rfl,_,zao _ _ _⟩ | exact⟨rfl,_,zer (zao _ _ _) (zeo (World.drewN _) (zci _ _ _))⟩);have p11:0≤((ji9):Int):=zad jab;have G0:(ji9)<(a0.size:Int):=zad jab;have K0:=bt_at a0 (ji9);replace p11:=zbr p11;replace G0:=zbr G0) | (go_at_call 135;(with_reducible refine(spec_l1Sign.calls k1 (bt a0 (ji9)) C0 _ A12.out).mono ?_);rintro e w' ⟨rfl,⟨nd,rfl⟩⟩;(try first | exact⟨rfl,_,zao _ _ _⟩ | exact⟨rfl,_,zer (zao _ _ _) (zeo (World.drewN _) (zci _ _ _))⟩)) | ((with_reducible refine zcd (b:= .append) (xs:= #[.tmp 32, .tmp 38]) rfl ?_);at_builtin;refine zhd (Kd.int .u8) (w0:=w) w.heap.size rfl (.tmp 32) (.tmp 38) 29 5 (.int .u8 0) 1 rfl Try.underlying29 info5 rfl (by decide) (by omega) u4 H0 ((wrap64 ((wrap64 (16*F0))+C0)) % 256) [.int .u8 ((wrap64 ((wrap64 (16*F0))+C0)) % 256)] (fun _=>True) (fun _=>False) rfl rfl ?aP (fun _ hk=>hk.elim) ?aF ?aO ?aB ?aS ?aL ?_;(case aP=>exact rfl);(case aB=>exact bq);(case aF=>exact(fun _ _=>trivial));(case aO=>exact(pR o0.out));(case aS=>exact(zal bq));(case aL=>have:=Q0.out;omega);intro v167 w20 ho hb hg hat;rw[← S0.out] at ho;have n_:=jA2 (hb) (ho);clear HB o0;obtain⟨HB,T0⟩:=n_;clear ho hb hg hat));try go_wp2_with (first | (go_at_call 135;(with_reducible refine(spec_l1Sign.calls k1 (bt a0 B0) F0 _ A8.out).mono ?_);rintro e w' ⟨rfl,⟨nd,rfl⟩⟩;(try first | exact⟨rfl,_,zao _ _ _⟩ | exact⟨rfl,_,zer (zao _ _ _) (zeo (World.drewN _) (zci _ _ _))⟩);have p11:0≤((ji9):Int):=zad jab;have G0:(ji9)<(a0.size:Int):=zad jab;have K0:=bt_at a0 (ji9);replace p11:=zbr p11;replace G0:=zbr G0) | (go_at_call 135;(with_reducible refine(spec_l1Sign.calls k1 (bt a0 (ji9)) C0 _ A12.out).mono ?_);rintro e w' ⟨rfl,⟨nd,rfl⟩⟩;(try first | exact⟨rfl,_,zao _ _ _⟩ | exact⟨rfl,_,zer (zao _ _ _) (zeo (World.drewN _) (zci _ _ _))⟩)) | ((with_reducible refine zcd (b:= .append) (xs:= #[.tmp 32, .tmp 38]) rfl ?_);at_builtin;refine zhd (Kd.int .u8) (w0:=w) w.heap.size rfl (.tmp 32) (.tmp 38) 29 5 (.int .u8 0) 1 rfl Try.underlying29 info5 rfl (by decide) (by omega) u4 H0 ((wrap64 ((wrap64 (16*F0))+C0)) % 256) [.int .u8 ((wrap64 ((wrap64 (16*F0))+C0)) % 256)] (fun _=>True) (fun _=>False) rfl rfl ?aP (fun _ hk=>hk.elim) ?aF ?aO ?aB ?aS ?aL ?_;(case aP=>exact rfl);(case aB=>exact bq);(case aF=>exact(fun _ _=>trivial));(case aO=>exact(pR o0.out));(case aS=>exact(zal bq));(case aL=>have:=Q0.out;omega);intro v167 w20 ho hb hg hat;rw[← S0.out] at ho;have n_:=jA2 (hb) (ho);clear HB o0;obtain⟨HB,T0⟩:=n_;clear ho hb hg hat)))
        go_roundg k1
        case measure=>have:=P1.out;omega
        case rel=>exact⟨(G1),(wrap64 (B0+2)),jer,H',⟨by have:=P1.out;omega⟩,⟨pR T0.out⟩,⟨bq⟩⟩
       rw[if_neg K1] at H
       exact absurd H (by simp)
      rw[if_neg c10] at H
      exact absurd H (by simp)
     rw[if_neg c6] at H
     exact absurd H (by simp)
    rw[if_neg c5] at H
    exact absurd H (by simp)
   rw[if_neg c4] at H
   have D1:=zbf c4
   clear c4
   by_cases X0:((a0.size:Int) % 2)=0
   ·rw[if_pos X0] at H
    have H1:=beqT X0
    have I1:=zbb.mpr X0
    clear X0
    simp only[zaz,zbn] at H
    obtain⟨rfl,rfl⟩:=H
    go_wp2
    go_ret2
    exact⟨_,jex,by(with_reducible repeat(first | apply zbl | apply zbm | apply zbs));exact o0.out,bq⟩
   rw[if_neg X0] at H
   have H1:=zau.mpr X0
   have I1:=zcz.mpr X0
   obtain⟨O1,U0⟩:∃ y_:List Int,y_=(([]:List Int)):=⟨_,rfl⟩
   replace H:(some (O1,false))=some (r1,r2):=jrw U0 H
   have W0:=Aside0.mk U0
   clear U0
   simp only[zaz,zbn] at H
   obtain⟨rfl,rfl⟩:=H
   go_wp2_with (first | (refine jgd 44 ?_;refine jlt 44 (Kd.int .u8) 5 ?_;intro v156 w22 ho23 hb;have xb_:=below_ofs bq hb;(first | rw[← W0.out] at ho23 | (simp only[Int.reduceToNat] at ho23;rw[← W0.out] at ho23));have qHO_4:=Kd.R_ofs (pR o0.out) hb;have n_:=jA3 (zbx qHO_4 (zbg ho23) hb) (zax (zdg ho23 (zce qHO_4)) (zal xb_)) (zac xb_ hb);clear qHO_4 o0 HB;obtain⟨o0,J1,HB⟩:=n_;clear xb_ hb ho23))
   go_ret2
   exact⟨_,jex,tqR J1.out,bq⟩
end Go.Proofs.Ytlalkldjpniakaa.P
