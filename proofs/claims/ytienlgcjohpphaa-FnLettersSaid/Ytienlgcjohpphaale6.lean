import Derived.Test.Ytienlgcjohpphaale5
/- Walks of functions that only read what others made: each fact stays at the world in which it arose, and is led to the present world where it is used. -/
namespace Go.Proofs.Ytienlgcjohpphaa.P
open Go.RowKit Go.Proofs.YtienlgcjohpphaaW.PrintWords Go.Proofs.YtienlgcjohpphaaW.PrintLast Go.Proofs.YtienlgcjohpphaaW.PrintMore
set_option linter.unusedVariables false
set_option linter.unusedSimpArgs false
set_option maxHeartbeats 8000000
set_option maxRecDepth 100000
theorem bst {w W w2:World} (k:Aside0 (Below W.heap.size W w2)) (h:Below w.heap.size w W):Below w.heap.size w w2:=below_step h k.out
/-- One world comes from another, by the steps among the hypotheses. -/
theorem ch {P:Prop} (h:P:=by with_reducible repeat(first | exact Below.refl _ _ | (refine Aside0.out ?_;assumption) | refine bst (by assumption) ?_)):P:=h
/-- A list is read as it was, or something that was put aside. -/
theorem sd {P:Prop} (h:P:=by first | (refine Aside0.out ?_;with_reducible assumption) | (refine Kd.C_below (Aside0.out (by with_reducible assumption)) ?_;with_reducible repeat(first | exact Below.refl _ _ | (refine Aside0.out ?_;assumption) | refine bst (by assumption) ?_))):P:=h
theorem rsl {α:Type} {d:Kd α} {e base:Nat} {w:World} {ok:Nat→Prop} {v:Value} {xs:List α} (h:Kd.R d e w base ok v xs):∃ A c,v= .slice A xs.length c∧Aside0 (xs.length≤c)∧Aside0 (Kd.C d w A xs.length xs):=by
  obtain⟨A,c,rfl⟩:=Kd.R_slice h
  exact⟨A,c,rfl,⟨(Kd.R_reads' h).2.1⟩,⟨(Kd.R_reads' h).2.2⟩⟩
theorem vsl {α:Type} {d:Kd α} {e:Nat} {w:World} {ok:Nat→Prop} {v:Value} {xs:List α} {B:Nat} (h:Kd.V d e w B ok v xs):∃ A c,v= .slice A xs.length c∧Aside0 (xs.length≤c)∧Aside0 (Kd.C d w A xs.length xs):=by
  obtain⟨A,c,rfl⟩:=Kd.V_slice h
  exact⟨A,c,rfl,⟨(Kd.V_reads' h).2.1⟩,⟨(Kd.V_reads' h).2.2⟩⟩
theorem ifT {α:Type} {c:Prop} [Decidable c] {x:Option α} {r:α} (h:(if c then x else none)=some r):c∧x=some r:=by
  by_cases p:c
  · rw[if_pos p] at h;exact⟨p,h⟩
  · rw[if_neg p] at h;cases h
theorem ifF {α:Type} {c:Prop} [Decidable c] {x:Option α} {r:α} (h:(if c then none else x)=some r):¬c∧x=some r:=by
  by_cases p:c
  · rw[if_pos p] at h;cases h
  · rw[if_neg p] at h;exact⟨p,h⟩
theorem bnn {α β:Type} {x:Option α} {f:α→Option β} {r:β} (h:x.bind f=some r):∃ t,Aside0 (x=some t)∧f t=some r:=by
  obtain⟨t,h1,h2⟩:=Option.bind_eq_some_iff.mp h
  exact⟨t,⟨h1⟩,h2⟩
section
variable {P:Program} {ops:Array Oper} {Q:Exit→Act→World→Prop} {rest:List Oper} {o o1 o2:Oper} {a:Act} {W:World}
/-- The operation that writes this slot. -/
theorem kd (n:Tmp) (h:wpList P ops Q (o :: rest) a W) (_h:o.dst=some n:=by with_reducible rfl):wpList P ops Q (o :: rest) a W:=h
/-- The same, of an operation that its guard wants. -/
theorem kg (n:Tmp) (h:wpList P ops Q ({o with guard:=none} :: rest) a W) (_h:o.dst=some n:=by with_reducible rfl) (hw:Region.wanted o (yielded ops a.tmps)=true:=by rfl):wpList P ops Q (o :: rest) a W:=gate_guard hw h
/-- A call in a plain region. -/
theorem kc (f:FuncId) (n:Tmp) {fn:Func} (hf:P.funcs[f]? =some fn) {as_:Array Operand} {ts:Array TypeId} (args:Array Value) (h:Calls P f args W fun e w'=>∃ v,e= .returned v∧wpList P ops Q rest (a.put (some n) v) w') (hop:o.op= .call {callee:= .value (.func f),args:=as_,argTypes:=ts}:=by with_reducible exact rfl) (hd:o.dst=some n:=by rfl) (hg:o.guard=none:=by rfl) (hname:(fn.name== "runtime.NumGoroutine")=false:=by kernel_rfl) (hb:fn.body.isSome=true:=by rfl)
    (hargs:as_.map a.eval=args:=by(try simp only[List.map_toArray,List.map_cons,List.map_nil]);first | done | rfl):wpList P ops Q (o :: rest) a W:=goesL_ (some n) hd hg hf hname hb args hop hargs h
/-- What is read, in a plain region. -/
theorem kl (n:Tmp) {v:Value} (hy:(execOp a.eval o).run P W= .ok (.value v) W) (h:wpList P ops Q rest (a.put (some n) v) W) (hd:o.dst=some n:=by rfl) (hg:o.guard=none:=by rfl):wpList P ops Q (o :: rest) a W:=Kd.event_run hg hy (by rw[hd];exact h)
/-- A variable is made and written whole at once. -/
theorem kb (N t:Nat) (old new:List Value) (v:Value) {x:Operand} (h:∀ g w',Aside0 (w'.heap[g]? =some (.cells new.toArray t (0,0)))→Aside0 (Below W.heap.size W w')→wpList P ops Q rest (a.put (some N) (.pointer (some ⟨g,0,none⟩))) w') (ho1:o1.op= .alloc t:=by with_reducible exact rfl) (hd1:o1.dst=some N:=by rfl) (hg1:o1.guard=none:=by rfl)
    (ho2:o2.op= .store t (.tmp N) x:=by rfl) (hd2:o2.dst=none:=by rfl) (hg2:o2.guard=none:=by rfl) (hrun:(execOp a.eval o1).run P W= .ok (.value (.pointer (some ⟨W.heap.size,0,none⟩))) (W.alloc (.cells old.toArray t (0,0))):=by first | (go_simp;done) | (go_simp;rfl))
    (hp:∀ g,(a.put (some N) (.pointer (some ⟨g,0,none⟩))).eval (.tmp N)= .pointer (some ⟨g,0,none⟩):=by intro g;rfl) (hx:∀ g,(a.put (some N) (.pointer (some ⟨g,0,none⟩))).eval x=v:=by intro g;rfl)
    (hlen:new.length=old.length:=by rfl) (hv:v.cells.toList=new:=by rfl) (hsz:(P.info? t).map (·.size)=some new.length:=by kernel_rfl) (h1:∀ u∈new,u.oneCell'=true:=by intro u hu;simp only[List.mem_cons,List.not_mem_nil,or_false] at hu;repeat(first | (rcases hu with rfl | hu;rfl) | (subst hu;rfl))) (hp0:0<new.length:=by simp):wpList P ops Q (o1 :: o2 :: rest) a W:=by
  refine box_event hg1 hd1 hrun fun g hg w1 hb hw=>?_
  rw[hd1]
  refine put_whole t hd2 hg2 (.tmp N) x ho2 new v (hp g) (hx g) hb hlen hv hsz h1 hp0 fun w2 hgr hb2=>?_
  exact h g w2 ⟨hb2⟩ ⟨(hw.grown hgr hw.size (fun k e=>by injection e with e;omega))⟩
end
theorem bcell {w w':World} {g:Nat} {cs:Array Value} {t:TypeId} (h:Aside0 (w.heap[g]? =some (.cells cs t (0,0)))) (b:Below w.heap.size w w':=by with_reducible repeat(first | exact Below.refl _ _ | (refine Aside0.out ?_;assumption) | refine bst (by assumption) ?_)):w'.heap[g]? =some (.cells cs t (0,0)):=blk_below h.out b
section
variable {P:Program} {ops:Array Oper} {Q:Exit→Act→World→Prop} {md:Region.Mode} {S:World→Prop} {ds:List Nat} {T:Bool×List (List Nat×List Nat)} {oi:Oper} {v:Value} {fuel:Nat} {l:Array Bool} {a a':Act} {w:World}
/-- The beginning of a region that draws: what S asks is that the world comes from the one at its beginning. -/
theorem rst (n:Nat) {id:Nat} (hm:P.follows .mixedOrders=true) (h:∀ w1,Aside0 (Below w.heap.size w w1)→wpAnyLast P .any ops Q (fun w'=>Below w1.heap.size w1 w') [] n (Array.replicate n false) a w1) (hn:ops.size=n:=by rfl):(Code.region id ops true).wp P Q a w:=
  start_ (n:=n) (S:=fun w'=>Below w.drew.heap.size w.drew w') (ds:=[]) _ hm hn rfl (Below.refl _ _) (fun _=>h w.drew ⟨below_drew (Below.refl _ _)⟩)
/-- A call in a region that draws. -/
theorem rc (i n:Nat) (f:FuncId) {fn:Func} (hT:rtab md ops=T) (hf:P.funcs[f]? =some fn) (args:Array Value) {as_:Array Operand} {ts:Array TypeId} (h:Calls P f args w fun e w'=>∃ v,e= .returned v∧S w'∧wpAnyLast P md ops Q S ds fuel (l.setIfInBounds i true) (a.put (some n) v) w') (hi:ops[i]? =some oi:=by rfl) (hN:oi.dst=some n:=by rfl)
    (hc:(readyT T.2 l.toList==[i] && l.toList.set i true==(l.setIfInBounds i true).toList)=true:=by kernel_rfl) (hd:i ∉ ds:=by decide) (hname:(fn.name== "runtime.NumGoroutine")=false:=by kernel_rfl) (hb:fn.body.isSome=true:=by rfl) (hw:Region.wanted oi (yielded ops a.tmps)=true:=by rfl) (hop:oi.op= .call {callee:= .value (.func f),args:=as_,argTypes:=ts}:=by rfl)
    (hargs:as_.map a.eval=args:=by(try simp only[List.map_toArray,List.map_cons,List.map_nil]);first | done | rfl):wpAnyLast P md ops Q S ds (fuel+1) l a w:=
  one_ (l.setIfInBounds i true) hi hN (one_of hT hc) hd (fun K hK=>goes_ hf hname hb args hw hN hop hargs (h.mono fun e w' ⟨v,h1,h2,h3⟩=>⟨v,h1,hK.out _ _ h2 (fun _=>h3)⟩))
theorem ru (i n:Nat) (hT:rtab md ops=T) (h:wpAnyLast P md ops Q S ds fuel (l.setIfInBounds i true) a' w) (hi:ops[i]? =some oi:=by rfl) (hN:oi.dst=some n:=by rfl) (hc:anyT T l.toList (l.setIfInBounds i true).toList i=true:=by kernel_rfl)
    (hQ:∀ c a w,Q (.panic c) (a.put oi.dst v) w→Q (.panic c) a w:=by exact fun _ _ _ h=>h) (hw:Region.wanted oi (yielded ops a.tmps)=true:=by rfl) (hy:∀ w',(execOp a.eval oi).run P w'= .ok (.value v) w':=by intro w';go_simp;with_reducible rfl) (ha:a.put (some n) v=a':=by simp only[Act.put,List.setIfInBounds_toArray,List.set_cons_zero,List.set_cons_succ,i64_w,i32_w];rfl):wpAnyLast P md ops Q S ds (fuel+1) l a w:=
  pure_ (l.setIfInBounds i true) hi hN (any_of hT hc) hQ (.inl ⟨hw,hy⟩) ha h
theorem rn (i n:Nat) (hT:rtab md ops=T) (h:wpAnyLast P md ops Q S ds fuel (l.setIfInBounds i true) a' w) (hi:ops[i]? =some oi:=by rfl) (hN:oi.dst=some n:=by rfl) (hc:anyT T l.toList (l.setIfInBounds i true).toList i=true:=by kernel_rfl)
    (hQ:∀ c a w,Q (.panic c) (a.put oi.dst undef) w→Q (.panic c) a w:=by exact fun _ _ _ h=>h) (hw:Region.wanted oi (yielded ops a.tmps)=false:=by rfl) (ha:a.put (some n) undef=a':=by simp only[Act.put,List.setIfInBounds_toArray,List.set_cons_zero,List.set_cons_succ,i64_w,i32_w];rfl):wpAnyLast P md ops Q S ds (fuel+1) l a w:=
  pure_ (l.setIfInBounds i true) hi hN (any_of hT hc) hQ (.inr ⟨hw,rfl⟩) ha h
theorem nrm (h:wpAnyLast P md ops Q S ds fuel l a' w) (ha:a=a':=by simp only[Act.put,List.setIfInBounds_toArray,List.set_cons_zero,List.set_cons_succ,i64_w,i32_w];rfl):wpAnyLast P md ops Q S ds fuel l a w:=norm_ ha h
/-- What is read is told for every world that holds S. -/
theorem tl (i n:Nat) {B:List Nat} (v:Value) (hT:rtab md ops=T) (hB:waitsOk T.2 B=true) (hS:S w) (hy:∀ w',S w'→(execOp a.eval oi).run P w'= .ok (.value v) w') (h:wpAnyLast P md ops Q S ds fuel (l.setIfInBounds i true) a' w) (hi:ops[i]? =some oi:=by rfl) (hN:oi.dst=some n:=by rfl) (hc:takeW T B ds l.toList (l.setIfInBounds i true).toList i=true:=by kernel_rfl)
    (hQ:∀ c a w,Q (.panic c) (a.put oi.dst v) w→Q (.panic c) a w:=by exact fun _ _ _ h=>h) (hw:Region.wanted oi (yielded ops a.tmps)=true:=by rfl) (ha:a.put (some n) v=a':=by simp only[Act.put,List.setIfInBounds_toArray,List.set_cons_zero,List.set_cons_succ,i64_w,i32_w];rfl):wpAnyLast P md ops Q S ds (fuel+1) l a w:=
  take_ (l.setIfInBounds i true) hi hN (take_ofW hT hB hc) hQ (.inl ⟨hw,hy⟩) hS ha h
end
end Go.Proofs.Ytienlgcjohpphaa.P
namespace Go.Proofs.Ytienlgcjohpphaa.P
open Go.RowKit Go.Proofs.YtienlgcjohpphaaW.PrintWords Go.Proofs.YtienlgcjohpphaaW.PrintLast Go.Proofs.YtienlgcjohpphaaW.PrintMore
attribute [local go_sem] zcn zco zdk zdl zce zcf zcp zcq -- for this text's walks alone
set_option linter.unusedVariables false
set_option linter.unusedSimpArgs false
set_option maxHeartbeats 8000000
set_option maxRecDepth 100000

def laws_big.f (l0:List Int):Option (Bool):=some (decide ((l0.length:Int)>1048576))
theorem laws_big.calls (A0:Option Addr) (c0:Nat) (l0:List Int) (r:Bool) (w:World) (hr0:Kd.C (Kd.int .u8) w A0 l0.length l0) (hc0:l0.length≤c0) (h:laws_big.f l0=some r):
  Calls Try.prog 27 #[.slice A0 l0.length c0] w fun e w'=>e= .returned (.bool r)∧Drawn0 w w':=by
 have HR0:=Aside0.mk hr0
 have HC0:=Aside0.mk hc0
 clear hr0 hc0
 have H:(some (decide ((l0.length:Int)>1048576)))=some r:=h
 clear h
 obtain rfl:=Option.some.inj H
 go_enter Try.func27,Try.ntmps27
 go_wp2
 go_ret
 exact⟨by first | rfl | (simp;done) | (simp [*];done),by repeat(first | exact Drawn0.refl _ | apply Drawn0.step)⟩
def bytes_Equal.f (l0:List Int) (l1:List Int):Option (Bool):=some ((strOfNums l0).toList==(strOfNums l1).toList)
theorem bytes_Equal.calls (A0:Option Addr) (c0:Nat) (l0:List Int) (A1:Option Addr) (c1:Nat) (l1:List Int) (r:Bool) (w:World) (hr0:Kd.C (Kd.int .u8) w A0 l0.length l0) (hc0:l0.length≤c0) (hr1:Kd.C (Kd.int .u8) w A1 l1.length l1) (hc1:l1.length≤c1) (h:bytes_Equal.f l0 l1=some r):
  Calls Try.prog 85 #[.slice A0 l0.length c0, .slice A1 l1.length c1] w fun e w'=>e= .returned (.bool r)∧Drawn0 w w':=by
 have HR0:=Aside0.mk hr0
 have HC0:=Aside0.mk hc0
 clear hr0 hc0
 have HR1:=Aside0.mk hr1
 have HC1:=Aside0.mk hc1
 clear hr1 hc1
 have H:(some ((strOfNums l0).toList==(strOfNums l1).toList))=some r:=h
 clear h
 obtain rfl:=Option.some.inj H
 have hcv3:=Kd.C_string (P:=Try.prog) (A:=A0) (c:=c0) Try.underlying23 Try.underlying5 Try.underlying9 HR0.out
 have hcv4:=Kd.C_string (P:=Try.prog) (A:=A1) (c:=c1) Try.underlying23 Try.underlying5 Try.underlying9 HR1.out
 go_enter Try.func85,Try.ntmps85
 go_wp2
 go_ret
 exact⟨by first | rfl | (simp;done) | (simp [*];done),by repeat(first | exact Drawn0.refl _ | apply Drawn0.step)⟩
def impl_Same.f (l0:List Int) (l1:List Int):Option (Bool):=(bytes_Equal.f l0 l1).bind fun t670=>(some t670)
theorem impl_Same.calls (A0:Option Addr) (c0:Nat) (l0:List Int) (A1:Option Addr) (c1:Nat) (l1:List Int) (r:Bool) (w:World) (hr0:Kd.C (Kd.int .u8) w A0 l0.length l0) (hc0:l0.length≤c0) (hr1:Kd.C (Kd.int .u8) w A1 l1.length l1) (hc1:l1.length≤c1) (h:impl_Same.f l0 l1=some r):
  Calls Try.prog 32 #[.slice A0 l0.length c0, .slice A1 l1.length c1] w fun e w'=>e= .returned (.bool r)∧Drawn0 w w':=by
 have HR0:=Aside0.mk hr0
 have HC0:=Aside0.mk hc0
 clear hr0 hc0
 have HR1:=Aside0.mk hr1
 have HC1:=Aside0.mk hc1
 clear hr1 hc1
 have H:((bytes_Equal.f l0 l1).bind fun t670=>(some t670))=some r:=h
 clear h
 obtain⟨t670,A3,H⟩:=bnd H
 obtain rfl:=Option.some.inj H
 go_enter Try.func32,Try.ntmps32
 go_wp2_with (first | (refine jgc 85 ?_;refine jgs 7 Try.func85 #[.slice A0 l0.length c0, .slice A1 l1.length c1] ?_;(with_reducible refine(bytes_Equal.calls _ _ l0 _ _ l1 t670 _ ?side1 ?side2 ?side3 ?side4 A3.out).mono ?_);(case side1=>repeat(first | exact HR0.out | (with_reducible first | apply zbs | apply zbt | apply zcg)));(case side2=>exact HC0.out);(case side3=>repeat(first | exact HR1.out | (with_reducible first | apply zbs | apply zbt | apply zcg)));(case side4=>exact HC1.out);rintro e w' ⟨rfl,⟨nd,rfl⟩⟩;refine⟨_,rfl,?_⟩))
 go_ret
 exact⟨by first | rfl | (simp;done) | (simp [*];done),by repeat(first | exact Drawn0.refl _ | apply Drawn0.step)⟩
end Go.Proofs.Ytienlgcjohpphaa.P
/- A region that draws its order: as GReg's law, with what holds all along told of what is done, too. -/
namespace Go.Proofs.Ytienlgcjohpphaa.P
open Go.RowKit Go.Proofs.YtienlgcjohpphaaW.PrintWords Go.Proofs.YtienlgcjohpphaaW.PrintLast Go.Proofs.YtienlgcjohpphaaW.PrintMore
set_option linter.unusedVariables false
set_option linter.unusedSimpArgs false
set_option maxHeartbeats 8000000
set_option maxRecDepth 100000
structure RInv2 (ops:Array Oper) (V:Nat→(Nat→Value)→World→Prop) (G:Array Bool→(Nat→Value)→World→Prop) (cons:Nat→Nat) (a0:Act) (l:Array Bool) (a:Act) (w:World) (vals:Nat→Value):Prop where
  dfr:a.defers=a0.defers
  size:a.tmps.size=a0.tmps.size
  frame:∀ s,(∀ j,j<ops.size→dstOf ops j≠some s)→a.tmps[s]? =a0.tmps[s]?
  slots:∀ j s,l.getD j false=true→dstOf ops j=some s→a.tmps[s]? =some (vals j)
  facts:∀ j,l.getD j false=true→l.getD (cons j) false=false→V j vals w
  closed:∀ j,l.getD j false=true→∀ d∈depsOf ops j,l.getD d false=true
  glob:G l vals w
section
variable {P:Program} {id:Nat} {ops:Array Oper} {Q:Exit→Act→World→Prop}
/-- Region by region: what each operation leaves is told by V; what G tells holds all along; cons j: the operation that uses up what j left (none: the number of operations). -/
theorem region_inv2 {a0:Act} {w0:World} (hm:P.follows .mixedOrders=true) (V:Nat→(Nat→Value)→World→Prop) (G:Array Bool→(Nat→Value)→World→Prop) (cons:Nat→Nat) (hk:regOk ops a0.tmps.size=true)
    (hcong:∀ j vals vals' w,vals j=vals' j→(∀ d∈depsOf ops j,vals d=vals' d)→V j vals w→V j vals' w)
    (h0:G (Array.replicate ops.size false) (fun _=>undef) w0.drew)
    (hstep:∀ i o,ops[i]? =some o→∀ (a:Act) (w:World) (vals:Nat→Value) (l:Array Bool),l.size=ops.size→l.getD i false=false→(∀ s,(∀ j,j<ops.size→dstOf ops j≠some s)→a.tmps[s]? =a0.tmps[s]?)→
      (∀ d∈depsOf ops i,(∀ s,dstOf ops d=some s→a.tmps[s]? =some (vals d))∧((cons d=i∨ops.size≤cons d)→V d vals w))→G l vals w→
      ∀ K:Act→World→Prop,(∀ v w1,V i (upd vals i v) w1→G (l.setIfInBounds i true) (upd vals i v) w1→(∀ k,k≠i→cons k≠i→V k vals w→V k vals w1)→K (a.put o.dst v) w1)→wpOp P ops Q i K a w)
    (hend:∀ (a:Act) (w:World) (vals:Nat→Value),a.defers=a0.defers→a.tmps.size=a0.tmps.size→(∀ s,(∀ j,j<ops.size→dstOf ops j≠some s)→a.tmps[s]? =a0.tmps[s]?)→
      (∀ j s,dstOf ops j=some s→a.tmps[s]? =some (vals j))→(∀ j,j<ops.size→ops.size≤cons j→V j vals w)→(∀ l:Array Bool,l.size=ops.size→(∀ j,j<ops.size→l.getD j false=true)→G l vals w→Q .normal a w)):
    (Code.region id ops true).wp P Q a0 w0:=by
  refine wp_region_any hm ?_
  have key:∀ (fuel:Nat) (l:Array Bool) (a:Act) (w:World) (vals:Nat→Value),l.size=ops.size→RInv2 ops V G cons a0 l a w vals→((List.range ops.size).filter fun j=> !l.getD j false).length≤fuel→wpAny P .any ops Q fuel l a w:=by
    have hready:∀ (l:Array Bool),l.size=ops.size→Region.ready .any ops l=[]→∀ j,j<ops.size→l.getD j false=true:=by
      intro l hl hr
      intro j
      induction j using Nat.strongRecOn with
      | ind j ih=>
        intro hj
        cases hb:l.getD j false with
        | true=>rfl
        | false=>
          exfalso
          have:j∈Region.ready .any ops l:=by
            rw[mem_ready]
            refine⟨?_,ops[j],Array.getElem?_eq_getElem hj,fun e he hbn=>?_⟩
            · simp only[Array.getD_eq_getD_getElem?,Array.getElem?_eq_getElem (show j<l.size by omega),Option.getD_some] at hb ⊢
              exact hb
            · have hd:e.on∈depsOf ops j:=by
                unfold depsOf
                rw[Array.getElem?_eq_getElem hj]
                simp only[Option.map_some,Option.getD_some]
                exact List.mem_map.2 ⟨e,List.mem_filter.2 ⟨Array.mem_toList_iff.2 he,hbn⟩,rfl⟩
              have hlt:=regOk_deps hk hd
              exact ih e.on hlt (by omega)
          rw[hr] at this
          cases this
    have hfin:∀ (l:Array Bool) (a:Act) (w:World) (vals:Nat→Value),l.size=ops.size→RInv2 ops V G cons a0 l a w vals→Region.ready .any ops l=[]→Q .normal a w:=by
      intro l a w vals hl hI hr
      have hall:=hready l hl hr
      refine hend a w vals hI.dfr hI.size hI.frame (fun j s hs=>hI.slots j s (hall j (dst_lt hs)) hs) (fun j hj hc=>hI.facts j (hall j hj) ?_) l hl hall hI.glob
      simp only[Array.getD_eq_getD_getElem?,Array.getElem?_eq_none (show l.size≤cons j by omega)]
      rfl
    intro fuel
    induction fuel with
    | zero=>
      intro l a w vals hl hI hc
      have hr:Region.ready .any ops l=[]:=by
        apply List.eq_nil_iff_forall_not_mem.2
        intro j hj
        have hjr:=(mem_ready.1 hj)
        obtain⟨hun,o,ho,_⟩:=hjr
        have hjl:j<ops.size:=(Array.getElem?_eq_some_iff.1 ho).1
        have:j∈(List.range ops.size).filter fun j=> !l.getD j false:=by
          rw[List.mem_filter,List.mem_range]
          refine⟨hjl,?_⟩
          simp only[Array.getD_eq_getD_getElem?,Array.getElem?_eq_getElem (show j<l.size by omega),Option.getD_some] at hun ⊢
          simp [hun]
        rw[List.eq_nil_of_length_eq_zero (Nat.le_zero.1 hc)] at this
        cases this
      exact⟨hr,hfin l a w vals hl hI hr⟩
    | succ fuel ih=>
      intro l a w vals hl hI hc
      refine⟨hfin l a w vals hl hI,fun i hi=>?_⟩
      obtain⟨hun,o,ho,hdeps⟩:=mem_ready.1 hi
      have hil:i<ops.size:=(Array.getElem?_eq_some_iff.1 ho).1
      have hunl:l.getD i false=false:=by
        simp only[Array.getD_eq_getD_getElem?,Array.getElem?_eq_getElem (show i<l.size by omega),Option.getD_some] at hun ⊢
        exact hun
      have hdl:∀ d∈depsOf ops i,l.getD d false=true:=by
        intro d hd
        unfold depsOf at hd
        rw[ho] at hd
        simp only[Option.map_some,Option.getD_some] at hd
        obtain⟨e,he,rfl⟩:=List.mem_map.1 hd
        obtain⟨he1,he2⟩:=List.mem_filter.1 he
        exact hdeps e (Array.mem_toList_iff.1 he1) he2
      refine hstep i o ho a w vals l hl hunl hI.frame (fun d hd=>⟨fun s hs=>hI.slots d s (hdl d hd) hs,fun hcd=>hI.facts d (hdl d hd) ?_⟩) hI.glob _ (fun v w1 hv hg hst=>?_)
      · rcases hcd with h | h
        · rw[h];exact hunl
        · simp only[Array.getD_eq_getD_getElem?,Array.getElem?_eq_none (show l.size≤cons d by omega)]
          rfl
      · have hil2:i<l.size:=by omega
        refine ih (l.setIfInBounds i true) (a.put o.dst v) w1 (upd vals i v) (by rw[Array.size_setIfInBounds];exact hl) ⟨?_,?_,?_,?_,?_,?_,hg⟩ ?_
        · cases hd:o.dst with
          | none=>exact hI.dfr
          | some d=>exact hI.dfr
        · cases hd:o.dst with
          | none=>exact hI.size
          | some d=>show(a.tmps.setIfInBounds d v).size=_;rw[Array.size_setIfInBounds];exact hI.size
        · intro s hs
          cases hd:o.dst with
          | none=>exact hI.frame s hs
          | some d=>
            have hne:d≠s:=fun e=>hs i hil (by unfold dstOf;rw[ho];show o.dst=_;rw[hd,e])
            show(a.tmps.setIfInBounds d v)[s]? =_
            rw[Array.getElem?_setIfInBounds_ne hne]
            exact hI.frame s hs
        · intro j s hj hs
          have hdi:dstOf ops i=o.dst:=by unfold dstOf;rw[ho];rfl
          by_cases hji:j=i
          · subst hji
            rw[upd_same]
            rw[hdi] at hs
            rw[hs]
            show(a.tmps.setIfInBounds s v)[s]? =_
            have hlt:=(regOk_dst hk (show dstOf ops j=some s by rw[hdi];exact hs)).1
            rw[Array.getElem?_setIfInBounds_self]
            rw[if_pos (by rw[hI.size];exact hlt)]
          · rw[upd_ne vals v hji]
            have hold:=((getD_listed hil2).1 hj).resolve_left hji
            cases hd:o.dst with
            | none=>exact hI.slots j s hold hs
            | some d=>
              have hne:d≠s:=fun e=>(regOk_dst hk hs).2 i (Ne.symm hji) (by rw[hdi,hd,e])
              show(a.tmps.setIfInBounds d v)[s]? =_
              rw[Array.getElem?_setIfInBounds_ne hne]
              exact hI.slots j s hold hs
        · intro j hj hcj
          by_cases hji:j=i
          · subst hji;exact hv
          · have hold:=((getD_listed hil2).1 hj).resolve_left hji
            have hci:cons j≠i:=fun e=>by
              have:=(getD_listed (j:=cons j) hil2).2 (.inl e)
              rw[this] at hcj;cases hcj
            have hcl:l.getD (cons j) false=false:=by
              cases hb:l.getD (cons j) false with
              | false=>rfl
              | true=>
                have:=(getD_listed (j:=cons j) hil2).2 (.inr hb)
                rw[this] at hcj;cases hcj
            refine hcong j vals (upd vals i v) w1 (upd_ne vals v hji).symm (fun d hd=>(upd_ne vals v (fun e=>?_)).symm) (hst j hji hci (hI.facts j hold hcl))
            have:=hI.closed j hold d hd
            rw[e,hunl] at this
            cases this
        · intro j hj d hd
          refine(getD_listed hil2).2 (.inr ?_)
          rcases (getD_listed hil2).1 hj with h | h
          · subst h;exact hdl d hd
          · exact hI.closed j h d hd
        · have hlt:((List.range ops.size).filter fun j=> !(l.setIfInBounds i true).getD j false).length<((List.range ops.size).filter fun j=> !l.getD j false).length:=by
            have hsub:((List.range ops.size).filter fun j=> !(l.setIfInBounds i true).getD j false)=((List.range ops.size).filter fun j=> !l.getD j false).filter (fun j=>decide (j≠i)):=by
              rw[List.filter_filter]
              congr 1
              funext j
              by_cases hji:j=i
              · subst hji
                have:=(getD_listed (j:=j) hil2).2 (.inl rfl)
                simp [this]
              · have:(l.setIfInBounds i true).getD j false=l.getD j false:=by
                  simp only[Array.getD_eq_getD_getElem?,Array.getElem?_setIfInBounds_ne (Ne.symm hji)]
                simp [this,hji]
            rw[hsub]
            refine List.length_filter_lt_length_iff_exists.2 ⟨i,List.mem_filter.2 ⟨List.mem_range.2 hil,by simp [hunl]⟩,by simp⟩
          omega
  have hz:∀ j,(Array.replicate ops.size false).getD j false=false:=by
    intro j
    simp only[Array.getD_eq_getD_getElem?]
    rcases Nat.lt_or_ge j ops.size with h | h
    · simp [h]
    · rw[Array.getElem?_eq_none (by simpa using h)];rfl
  refine key ops.size (Array.replicate ops.size false) a0 _ (fun _=>undef) (by simp) ⟨rfl,rfl,fun _ _=>rfl,fun j s hj=>?_,fun j hj=>?_,fun j hj=>?_,h0⟩ ?_
  · rw[hz j] at hj;cases hj
  · rw[hz j] at hj;cases hj
  · rw[hz j] at hj;cases hj
  · exact Nat.le_trans (List.length_filter_le _ _) (by simp)
end
end Go.Proofs.Ytienlgcjohpphaa.P
