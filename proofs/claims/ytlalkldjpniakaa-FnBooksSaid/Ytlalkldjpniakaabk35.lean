import Derived.Test.Ytlalkldjpniakaabk34
/- spec.l14Dent: bytes with one put in between, whatever the order of the region. -/
namespace Go.Proofs.Ytlalkldjpniakaa.P
open Go.RowKit Go.Proofs.YtlalkldjpniakaaW.PrintWords Go.Proofs.YtlalkldjpniakaaW.PrintLast Go.Proofs.YtlalkldjpniakaaW.PrintMore
set_option linter.unusedVariables false
set_option linter.unusedSimpArgs false
theorem getD_set_ne {l:Array Bool} {m j:Nat} (h:j≠m):(l.setIfInBounds m true).getD j false=l.getD j false:=by
  simp only[Array.getD_eq_getD_getElem?,Array.getElem?_setIfInBounds_ne (Ne.symm h)]
theorem getD_set_self {l:Array Bool} {m:Nat} (h:m<l.size):(l.setIfInBounds m true).getD m false=true:=by
  simp [Array.getD_eq_getD_getElem?,h]
theorem getD_rep (n j:Nat):(Array.replicate n false).getD j false=false:=by
  simp only[Array.getD_eq_getD_getElem?]
  rcases Nat.lt_or_ge j n with h | h
  · simp [h]
  · rw[Array.getElem?_eq_none (by simpa using h)];rfl
/-- append onto a slice of no capacity, of something: a new block. -/
theorem reg_app1 {P:Program} {ops:Array Oper} {Q:Exit→Act→World→Prop} {i:Nat} {o:Oper} {a:Act} {w:World} {K:Act→World→Prop} (hi:ops[i]? =some o) (hg:o.guard=none) (s x:Operand) (t e:TypeId) (hop:o.op=Op.call {callee:=Callee.builtin Builtin.append,args:= #[s,x],argTypes:= #[t,t]})
    (ht:P.underlying t=some (.slice e)) (hinfo:(P.info? e).map (fun i=>(i.zero,i.size,i.bytes))=some (some (.int .u8 0),1,1)) {A0 A1:Option Addr} {n0 c1:Nat} {olds ys:List Int} (hs:a.eval s= .slice A0 n0 n0) (hn0:n0=olds.length) (hnone:A0=none→n0=0) (holds:∀ b,A0=some b→∀ j u,(olds.map (Value.int .u8))[j]? =some u→w.cell? (b.add j)=some u)
    (hx:a.eval x= .slice A1 ys.length c1) (HC:Kd.C (Kd.int .u8) w A1 ys.length ys) (h0:0<ys.length) (hm:n0+ys.length≤140737488355328)
    (h:∀ v1 w1,Kd.R (Kd.int .u8) e w1 w.heap.size (fun _=>True) v1 (olds++ys)→Below w.heap.size w w1→K (a.put o.dst v1) w1):wpOp P ops Q i K a w:=by
  obtain⟨ti,hti,hz⟩:=Option.map_eq_some_iff.1 hinfo
  simp only[Prod.mk.injEq] at hz
  obtain⟨hz1,hz2,hz3⟩:=hz
  refine reg_if hi ?_
  obtain⟨ad1,rfl,hcB⟩:=HC.2.2 h0
  have cells:∀ j u,(ys.map (Value.int .u8))[j]? =some u→w.cell? (ad1.add j)=some u:=by
    intro j u hj
    rw[List.getElem?_map] at hj
    obtain⟨z,hz,rfl⟩:=Option.map_eq_some_iff.1 hj
    obtain⟨c,hc1,hc2,hc3⟩:=hcB j z hz
    have h3:=hc3 0 (.int .u8 z) (by rw[hc2];rfl)
    rw[show j*(Kd.int .u8).sz+0=j from by show j*1+0=j;omega] at h3
    exact h3
  refine step_append_grows hg s x t hop e ti (.int .u8 0) 1 1 ht hti hz1 hz2 hz3 rfl (by decide) A0 n0 n0 (olds.map (Value.int .u8)) hs (fun e=>⟨hnone e,hnone e⟩) (by rw[List.length_map];omega) holds ad1 ys.length c1 (ys.map (Value.int .u8)) hx (by rw[List.length_map];omega) cells (fun u hu=>by obtain⟨z,_,rfl⟩:=List.mem_map.1 hu;rfl) (by omega) (by unfold maxLen;omega) (by omega) ?_
  intro v' w' ho hgr
  refine h v' w' ?_ ⟨hgr.os,hgr.tape,hgr.output,hgr.size,fun j hj=>hgr.block j hj (by simp)⟩
  rw[← List.map_append,hn0, ← List.length_append] at ho
  exact Kd.R_of_own (enc:=Value.int .u8) (h1:=fun _=>rfl) ho.lax (fun _ _=>trivial)
/-- append of nothing: nothing happens. -/
theorem reg_app_nil {P:Program} {ops:Array Oper} {Q:Exit→Act→World→Prop} {i:Nat} {o:Oper} {a:Act} {w:World} {K:Act→World→Prop} (hi:ops[i]? =some o) (hg:o.guard=none) (s x:Operand) (t e:TypeId) (hop:o.op=Op.call {callee:=Callee.builtin Builtin.append,args:= #[s,x],argTypes:= #[t,t]})
    (ht:P.underlying t=some (.slice e)) (hinfo:(P.info? e).map (fun i=>(i.zero,i.size,i.bytes))=some (some (.int .u8 0),1,1)) {A0 A1:Option Addr} {n0 c0 c1:Nat} (hs:a.eval s= .slice A0 n0 c0) (hle:n0≤c0) (hnone:A0=none→n0=0∧c0=0)
    (hx:a.eval x= .slice A1 0 c1) (h:K (a.put o.dst (.slice A0 n0 c0)) w):wpOp P ops Q i K a w:=by
  obtain⟨ti,hti,hz⟩:=Option.map_eq_some_iff.1 hinfo
  simp only[Prod.mk.injEq] at hz
  obtain⟨hz1,hz2,hz3⟩:=hz
  refine reg_if hi ?_
  have hrun:(Builtin.append_ #[t,t] o.type #[.slice A0 n0 c0, .slice A1 0 c1]).run P w= .ok (.slice A0 n0 c0) w:=by
    cases A0 with
    | none=>obtain⟨rfl,rfl⟩:=hnone rfl;cases A1 <;> simp [Builtin.append_,run_underlying ht,sizeOf,typeInfo,hti,Builtin.lenOf,Builtin.firstCells,storeCells,loadCells,loadCellsFrom,Result.andThen]
    | some b=>cases A1 <;> simp [Builtin.append_,run_underlying ht,sizeOf,typeInfo,hti,hle,Builtin.lenOf,Builtin.firstCells,storeCells,loadCells,loadCellsFrom,Result.andThen]
  rw[if_pos (reg_wanted hg)]
  unfold Oper.wp execOp
  simp only[hop,resolve,invoke,builtin,Sem.run_bind,Sem.run_pure,Result.andThen_ok,List.map_toArray,List.map_cons,List.map_nil,hs,hx,hrun]
  exact h
/-- What is done of l14Dent's region. -/
structure spec_l14Dent.G (w0 W:World) (g:Nat) (s0:List Int) (s1 s2 x x1 x2:Int) (lx ly:List Int) (l:Array Bool) (vals:Nat→Value) (w:World):Prop where
  bel:Below w0.heap.size w0 w
  keep:KeepBut W w g none
  lt:g<W.heap.size
  old:l.getD 6 false=false→IsS132 w0 w g s0 s1 s2
  new:l.getD 6 false=true→IsS132 w0 w g s0 x1 x2
  r4:vals 4≠undef→l.getD 13 false=false→(lx=[]∧∃ A,vals 4= .slice A 0 0)∨(0<lx.length∧Kd.R (Kd.int .u8) 5 w W.heap.size (fun _=>True) (vals 4) lx)
  r8:vals 8≠undef→l.getD 13 false=false→∃ ad,vals 8= .slice (some ad) 1 1∧Kd.R (Kd.int .u8) 5 w W.heap.size (fun _=>True) (.slice (some ad) 1 1) [x % 256]
  r12:vals 12≠undef→l.getD 13 false=false→Kd.R (Kd.int .u8) 5 w W.heap.size (fun _=>True) (vals 12) (x % 256 :: ly)
  u12:l.getD 12 false=false→vals 12=undef
  c13:l.getD 13 false=true→l.getD 12 false=true
  r13:l.getD 13 false=true→Kd.R (Kd.int .u8) 5 w W.heap.size (fun _=>True) (vals 13) (lx++x % 256 :: ly)
theorem R_keepW {W w w1:World} {g:Nat} {v:Value} {xs:List Int} (h:Kd.R (Kd.int .u8) 5 w W.heap.size (fun _=>True) v xs) (hg:g<W.heap.size) (hk:KeepBut w w1 g none):Kd.R (Kd.int .u8) 5 w1 W.heap.size (fun _=>True) v xs:=
  Kd.R_mono (Kd.R_keep (Kd.R_bound h) hk (fun k h=>by have:=h.2.1;omega)) (fun _ _=>trivial)
theorem spec_l14Dent.G.start {w0 W:World} {g:Nat} {s0:List Int} {s1 s2 x x1 x2:Int} {lx ly:List Int} {n:Nat} {w:World} (hb:Below w0.heap.size w0 w) (hk:KeepBut W w g none) (hl:g<W.heap.size) (hi:IsS132 w0 w g s0 s1 s2):spec_l14Dent.G w0 W g s0 s1 s2 x x1 x2 lx ly (Array.replicate n false) (fun _=>undef) w:=
  ⟨hb,hk,hl,fun _=>hi,fun e=>(by rw[getD_rep] at e;cases e),fun e=>absurd rfl e,fun e=>absurd rfl e,fun e=>absurd rfl e,fun _=>rfl,fun e=>(by rw[getD_rep] at e;cases e),fun e=>(by rw[getD_rep] at e;cases e)⟩
section
variable {w0 W:World} {g:Nat} {s0:List Int} {s1 s2 x x1 x2:Int} {lx ly:List Int} {l:Array Bool} {vals:Nat→Value} {w w1:World} {v:Value}
/-- A step that only makes something, and is none of those that are told. -/
theorem spec_l14Dent.G.other (h:spec_l14Dent.G w0 W g s0 s1 s2 x x1 x2 lx ly l vals w) (m:Nat) (hm:m≠4∧m≠6∧m≠8∧m≠12∧m≠13) (hb:Below w.heap.size w w1):spec_l14Dent.G w0 W g s0 s1 s2 x x1 x2 lx ly (l.setIfInBounds m true) (upd vals m v) w1:=by
  obtain⟨h4,h6,h8,h12,h13⟩:=hm
  refine⟨below_step h.bel hb,h.keep.trans (KeepBut.of_below hb g none) (.inl rfl),h.lt,?_,?_,?_,?_,?_,by rw[getD_set_ne (Ne.symm h12),upd_ne vals v (Ne.symm h12)];exact h.u12,by rw[getD_set_ne (Ne.symm h13),getD_set_ne (Ne.symm h12)];exact h.c13,?_⟩
  · rw[getD_set_ne (Ne.symm h6)];exact fun e=>(h.old e).below hb
  · rw[getD_set_ne (Ne.symm h6)];exact fun e=>(h.new e).below hb
  · rw[getD_set_ne (Ne.symm h13),upd_ne vals v (Ne.symm h4)];exact fun e e2=>(h.r4 e e2).imp id (fun q=>⟨q.1,Kd.R_below q.2 hb⟩)
  · rw[getD_set_ne (Ne.symm h13),upd_ne vals v (Ne.symm h8)];exact fun e e2=>(h.r8 e e2).imp (fun _ q=>⟨q.1,Kd.R_below q.2 hb⟩)
  · rw[getD_set_ne (Ne.symm h13),upd_ne vals v (Ne.symm h12)];exact fun e e2=>Kd.R_below (h.r12 e e2) hb
  · rw[getD_set_ne (Ne.symm h13),upd_ne vals v (Ne.symm h13)];exact fun e=>Kd.R_below (h.r13 e) hb
theorem spec_l14Dent.G.at4 (h:spec_l14Dent.G w0 W g s0 s1 s2 x x1 x2 lx ly l vals w) (hb:Below w.heap.size w w1) (hr:(lx=[]∧∃ A,v= .slice A 0 0)∨(0<lx.length∧Kd.R (Kd.int .u8) 5 w1 W.heap.size (fun _=>True) v lx)):spec_l14Dent.G w0 W g s0 s1 s2 x x1 x2 lx ly (l.setIfInBounds 4 true) (upd vals 4 v) w1:=by
  refine⟨below_step h.bel hb,h.keep.trans (KeepBut.of_below hb g none) (.inl rfl),h.lt,?_,?_,?_,?_,?_,by rw[getD_set_ne (by decide),upd_ne vals v (by decide)];exact h.u12,by rw[getD_set_ne (by decide),getD_set_ne (by decide)];exact h.c13,?_⟩
  · rw[getD_set_ne (by decide)];exact fun e=>(h.old e).below hb
  · rw[getD_set_ne (by decide)];exact fun e=>(h.new e).below hb
  · rw[upd_same];exact fun _ _=>hr
  · rw[getD_set_ne (by decide),upd_ne vals v (by decide)];exact fun e e2=>(h.r8 e e2).imp (fun _ q=>⟨q.1,Kd.R_below q.2 hb⟩)
  · rw[getD_set_ne (by decide),upd_ne vals v (by decide)];exact fun e e2=>Kd.R_below (h.r12 e e2) hb
  · rw[getD_set_ne (by decide),upd_ne vals v (by decide)];exact fun e=>Kd.R_below (h.r13 e) hb
theorem spec_l14Dent.G.at8 (h:spec_l14Dent.G w0 W g s0 s1 s2 x x1 x2 lx ly l vals w) (hb:Below w.heap.size w w1) {ad:Addr} (hr:Kd.R (Kd.int .u8) 5 w1 W.heap.size (fun _=>True) (.slice (some ad) 1 1) [x % 256]):spec_l14Dent.G w0 W g s0 s1 s2 x x1 x2 lx ly (l.setIfInBounds 8 true) (upd vals 8 (.slice (some ad) 1 1)) w1:=by
  refine⟨below_step h.bel hb,h.keep.trans (KeepBut.of_below hb g none) (.inl rfl),h.lt,?_,?_,?_,?_,?_,by rw[getD_set_ne (by decide),upd_ne vals _ (by decide)];exact h.u12,by rw[getD_set_ne (by decide),getD_set_ne (by decide)];exact h.c13,?_⟩
  · rw[getD_set_ne (by decide)];exact fun e=>(h.old e).below hb
  · rw[getD_set_ne (by decide)];exact fun e=>(h.new e).below hb
  · rw[getD_set_ne (by decide),upd_ne vals _ (by decide)];exact fun e e2=>(h.r4 e e2).imp id (fun q=>⟨q.1,Kd.R_below q.2 hb⟩)
  · rw[upd_same];exact fun _ _=>⟨ad,rfl,hr⟩
  · rw[getD_set_ne (by decide),upd_ne vals _ (by decide)];exact fun e e2=>Kd.R_below (h.r12 e e2) hb
  · rw[getD_set_ne (by decide),upd_ne vals _ (by decide)];exact fun e=>Kd.R_below (h.r13 e) hb
theorem spec_l14Dent.G.at12 (h:spec_l14Dent.G w0 W g s0 s1 s2 x x1 x2 lx ly l vals w) (hs:12<l.size) (hb:Below w.heap.size w w1) (hr:Kd.R (Kd.int .u8) 5 w1 W.heap.size (fun _=>True) v (x % 256 :: ly)):spec_l14Dent.G w0 W g s0 s1 s2 x x1 x2 lx ly (l.setIfInBounds 12 true) (upd vals 12 v) w1:=by
  refine⟨below_step h.bel hb,h.keep.trans (KeepBut.of_below hb g none) (.inl rfl),h.lt,?_,?_,?_,?_,?_,(by rw[getD_set_self hs];exact fun e=>(by cases e)),fun _=>getD_set_self hs,?_⟩
  · rw[getD_set_ne (by decide)];exact fun e=>(h.old e).below hb
  · rw[getD_set_ne (by decide)];exact fun e=>(h.new e).below hb
  · rw[getD_set_ne (by decide),upd_ne vals v (by decide)];exact fun e e2=>(h.r4 e e2).imp id (fun q=>⟨q.1,Kd.R_below q.2 hb⟩)
  · rw[getD_set_ne (by decide),upd_ne vals v (by decide)];exact fun e e2=>(h.r8 e e2).imp (fun _ q=>⟨q.1,Kd.R_below q.2 hb⟩)
  · rw[upd_same];exact fun _ _=>hr
  · rw[getD_set_ne (by decide),upd_ne vals v (by decide)];exact fun e=>Kd.R_below (h.r13 e) hb
theorem spec_l14Dent.G.at6 (h:spec_l14Dent.G w0 W g s0 s1 s2 x x1 x2 lx ly l vals w) (hs:6<l.size) (hi:IsS132 w0 w1 g s0 x1 x2) (hb:Below w0.heap.size w0 w1) (hk:KeepBut w w1 g none):spec_l14Dent.G w0 W g s0 s1 s2 x x1 x2 lx ly (l.setIfInBounds 6 true) (upd vals 6 v) w1:=by
  refine⟨hb,h.keep.trans hk (.inl rfl),h.lt,?_,fun _=>hi,?_,?_,?_,by rw[getD_set_ne (by decide),upd_ne vals v (by decide)];exact h.u12,by rw[getD_set_ne (by decide),getD_set_ne (by decide)];exact h.c13,?_⟩
  · rw[getD_set_self hs];exact fun e=>by cases e
  · rw[getD_set_ne (by decide),upd_ne vals v (by decide)];exact fun e e2=>(h.r4 e e2).imp id (fun q=>⟨q.1,R_keepW q.2 h.lt hk⟩)
  · rw[getD_set_ne (by decide),upd_ne vals v (by decide)];exact fun e e2=>(h.r8 e e2).imp (fun _ q=>⟨q.1,R_keepW q.2 h.lt hk⟩)
  · rw[getD_set_ne (by decide),upd_ne vals v (by decide)];exact fun e e2=>R_keepW (h.r12 e e2) h.lt hk
  · rw[getD_set_ne (by decide),upd_ne vals v (by decide)];exact fun e=>R_keepW (h.r13 e) h.lt hk
theorem spec_l14Dent.G.at13 (h:spec_l14Dent.G w0 W g s0 s1 s2 x x1 x2 lx ly l vals w) (hs:13<l.size) (h12:vals 12≠undef) (hbw:Below W.heap.size w w1) {row:Option Nat} (hgr:w.grownBy w1 row) (hrow:∀ k,row=some k→W.heap.size≤k) (hr:Kd.R (Kd.int .u8) 5 w1 W.heap.size (fun _=>True) v (lx++x % 256 :: ly)):spec_l14Dent.G w0 W g s0 s1 s2 x x1 x2 lx ly (l.setIfInBounds 13 true) (upd vals 13 v) w1:=by
  have hne:some g≠row:=by
    intro e
    have:=hrow g e.symm
    have:=h.lt
    omega
  have hw0:w0.heap.size≤W.heap.size:=by
    cases e6:l.getD 6 false with
    | false=>have:=(h.old e6).ge;have:=h.lt;omega
    | true=>have:=(h.new e6).ge;have:=h.lt;omega
  refine⟨below_weaken h.bel hw0 hbw,h.keep.trans (KeepBut.of_grown hgr g) ?_,h.lt,?_,?_,?_,?_,?_,by rw[getD_set_ne (by decide),upd_ne vals v (by decide)];exact h.u12,fun _=>by rw[getD_set_ne (by decide)];cases e:l.getD 12 false with | true=>rfl | false=>exact absurd (h.u12 e) h12,?_⟩
  · cases row with
    | none=>exact .inl rfl
    | some k=>exact .inr ⟨k,rfl,hrow k rfl⟩
  · rw[getD_set_ne (by decide)];exact fun e=>(h.old e).grown hgr hne
  · rw[getD_set_ne (by decide)];exact fun e=>(h.new e).grown hgr hne
  · rw[getD_set_self hs];exact fun _ e=>by cases e
  · rw[getD_set_self hs];exact fun _ e=>by cases e
  · rw[getD_set_self hs];exact fun _ e=>by cases e
  · rw[upd_same];exact fun _=>hr
end
theorem undef_slice {A:Option Addr} {n c:Nat}:(Value.slice A n c)≠undef:=by
  intro h
  cases h
set_option maxHeartbeats 4000000 in
set_option maxRecDepth 100000 in
theorem spec_l14Dent.r6 {Q:Exit→Act→World→Prop} {a0:Act} (w0 W:World) (g:Nat) (s0:List Int) (s1 s2 x x1 x2 at_:Int) (l lx ly:List Int) (A Ax Ay:Option Addr) (c cx cy:Nat) (hm:l.length≤1000000000) (hx1:lx.length≤l.length) (hy1:ly.length≤l.length)
    (hcutx:∀ W:World,(Instr.slice 29 (.slice A l.length c) none (some (.int .i64 at_)) none).run Try.prog W= .ok (.slice Ax lx.length cx) W) (hCx:∀ w:World,Kd.C (Kd.int .u8) w A l.length l→Kd.C (Kd.int .u8) w Ax lx.length lx)
    (hcuty:∀ W:World,(Instr.slice 29 (.slice A l.length c) (some (.int .i64 at_)) none none).run Try.prog W= .ok (.slice Ay ly.length cy) W) (hCy:∀ w:World,Kd.C (Kd.int .u8) w A l.length l→Kd.C (Kd.int .u8) w Ay ly.length ly)
    (hI:IsS132 w0 W g s0 s1 s2) (hB:Below w0.heap.size w0 W) (hV:Kd.V (Kd.int .u8) 5 W W.heap.size (fun k_=>k_≠g) (.slice A l.length c) l) (FX:spec_l1Below.f s0 s1 s2 4=some (x,x1,x2))
    (hsz:a0.tmps.size=35) (h0:a0.tmps[0]? =some (.pointer (some ⟨g,0,none⟩))) (h1:a0.tmps[1]? =some (.slice A l.length c)) (h5:a0.tmps[5]? =some (.int .i64 at_))
    (hend:∀ (w':World) (v0 v4 v8 v12 v13:Value),Kd.R (Kd.int .u8) 5 w' W.heap.size (fun _=>True) v13 (lx++x % 256 :: ly)→IsS132 w0 w' g s0 x1 x2→Below w0.heap.size w0 w'→KeepBut W w' g none→Q .normal (((((((((((((((a0.put (some 20) (v0)).put (some 21) (.slice A l.length c)).put (some 22) (.int .i64 at_)).put (some 23) (.slice Ax lx.length cx)).put (some 24) (v4)).put (some 25) (.pointer (some ⟨g,0,none⟩))).put (some 26) (.int .i64 x)).put (some 27) (.int .u8 (x % 256))).put (some 28) (v8)).put (some 29) (.slice A l.length c)).put (some 30) (.int .i64 at_)).put (some 31) (.slice Ay ly.length cy)).put (some 32) (v12)).put (some 33) (v13)).put (some 4) (v13)) w'):
    (Code.region 6 (opsOf Try.f125 6) true).wp Try.prog Q a0 W:=by
  have hn:(opsOf Try.f125 6).size=15:=by kernel_rfl
  have hk:regOk (opsOf Try.f125 6) a0.tmps.size=true:=by rw[hsz];kernel_rfl
  have hVw:∀ {w:World},KeepBut W w g none→Kd.C (Kd.int .u8) w A l.length l:=fun h=>(Kd.V_reads' (Kd.V_keep hV h (fun _ h=>h))).2.2
  have hst:∀ (vals:Nat→Value) (w_ w1:World) (j:Nat),([fun vals w_=>∃ A,vals 0= .slice A 0 0,fun vals w_=>vals 1= .slice A l.length c,fun vals w_=>vals 2= .int .i64 at_,fun vals w_=>vals 3= .slice Ax lx.length cx,fun vals w_=>∃ A n c,vals 4= .slice A n c,fun vals w_=>vals 5= .pointer (some ⟨g,0,none⟩),fun vals w_=>vals 6= .int .i64 x,fun vals w_=>vals 7= .int .u8 (x % 256),fun vals w_=>∃ A n c,vals 8= .slice A n c,fun vals w_=>vals 9= .slice A l.length c,fun vals w_=>vals 10= .int .i64 at_,fun vals w_=>vals 11= .slice Ay ly.length cy,fun vals w_=>∃ A n c,vals 12= .slice A n c,fun vals w_=>∃ A n c,vals 13= .slice A n c,fun vals w_=>vals 14=vals 13]:List ((Nat→Value)→World→Prop)).getD j (fun _ _=>True) vals w_→([fun vals w_=>∃ A,vals 0= .slice A 0 0,fun vals w_=>vals 1= .slice A l.length c,fun vals w_=>vals 2= .int .i64 at_,fun vals w_=>vals 3= .slice Ax lx.length cx,fun vals w_=>∃ A n c,vals 4= .slice A n c,fun vals w_=>vals 5= .pointer (some ⟨g,0,none⟩),fun vals w_=>vals 6= .int .i64 x,fun vals w_=>vals 7= .int .u8 (x % 256),fun vals w_=>∃ A n c,vals 8= .slice A n c,fun vals w_=>vals 9= .slice A l.length c,fun vals w_=>vals 10= .int .i64 at_,fun vals w_=>vals 11= .slice Ay ly.length cy,fun vals w_=>∃ A n c,vals 12= .slice A n c,fun vals w_=>∃ A n c,vals 13= .slice A n c,fun vals w_=>vals 14=vals 13]:List ((Nat→Value)→World→Prop)).getD j (fun _ _=>True) vals w1:=by
    intro vals w_ w1 j h
    match j,h with
    | 0,h=>exact h
    | 1,h=>exact h
    | 2,h=>exact h
    | 3,h=>exact h
    | 4,h=>exact h
    | 5,h=>exact h
    | 6,h=>exact h
    | 7,h=>exact h
    | 8,h=>exact h
    | 9,h=>exact h
    | 10,h=>exact h
    | 11,h=>exact h
    | 12,h=>exact h
    | 13,h=>exact h
    | 14,h=>exact h
    | k+15,_=>exact trivial
  refine region_inv2 (by kernel_rfl) (fun j=>([fun vals w_=>∃ A,vals 0= .slice A 0 0,fun vals w_=>vals 1= .slice A l.length c,fun vals w_=>vals 2= .int .i64 at_,fun vals w_=>vals 3= .slice Ax lx.length cx,fun vals w_=>∃ A n c,vals 4= .slice A n c,fun vals w_=>vals 5= .pointer (some ⟨g,0,none⟩),fun vals w_=>vals 6= .int .i64 x,fun vals w_=>vals 7= .int .u8 (x % 256),fun vals w_=>∃ A n c,vals 8= .slice A n c,fun vals w_=>vals 9= .slice A l.length c,fun vals w_=>vals 10= .int .i64 at_,fun vals w_=>vals 11= .slice Ay ly.length cy,fun vals w_=>∃ A n c,vals 12= .slice A n c,fun vals w_=>∃ A n c,vals 13= .slice A n c,fun vals w_=>vals 14=vals 13]:List ((Nat→Value)→World→Prop)).getD j (fun _ _=>True)) (spec_l14Dent.G w0 W g s0 s1 s2 x x1 x2 lx ly) (fun _=>(opsOf Try.f125 6).size) hk ?_ ?_ ?_ ?_
  · intro j vals vals' w_ h0 h1 h
    match j,h0,h1,h with
    | 0,h0,h1,h=>exact Exists.imp (fun A e=>h0.symm.trans e) h
    | 1,h0,h1,h=>exact h0.symm.trans h
    | 2,h0,h1,h=>exact h0.symm.trans h
    | 3,h0,h1,h=>exact h0.symm.trans h
    | 4,h0,h1,h=>exact Exists.imp (fun A=>Exists.imp (fun n=>Exists.imp (fun c e=>h0.symm.trans e))) h
    | 5,h0,h1,h=>exact h0.symm.trans h
    | 6,h0,h1,h=>exact h0.symm.trans h
    | 7,h0,h1,h=>exact h0.symm.trans h
    | 8,h0,h1,h=>exact Exists.imp (fun A=>Exists.imp (fun n=>Exists.imp (fun c e=>h0.symm.trans e))) h
    | 9,h0,h1,h=>exact h0.symm.trans h
    | 10,h0,h1,h=>exact h0.symm.trans h
    | 11,h0,h1,h=>exact h0.symm.trans h
    | 12,h0,h1,h=>exact Exists.imp (fun A=>Exists.imp (fun n=>Exists.imp (fun c e=>h0.symm.trans e))) h
    | 13,h0,h1,h=>exact Exists.imp (fun A=>Exists.imp (fun n=>Exists.imp (fun c e=>h0.symm.trans e))) h
    | 14,h0,h1,h=>exact(h0.symm.trans h).trans (h1 13 (dep_of (by kernel_rfl)))
    | k+15,_,_,_=>exact trivial
  · exact spec_l14Dent.G.start (below_drew hB) (keep_drew (KeepBut.refl W g none)) hI.lt (hI.drew)
  · intro i o ho a w vals l_ hl hli hfr hdp hG K hK
    match i,ho,hli,hdp,hK with
    | 0,ho,hli,hdp,hK=>
      obtain⟨hop,hds,hgd⟩:=jro (Op.buildSlice 29 0 #[]) 20 ho
      refine reg_lit0 ho hgd 5 (by unfold execOp;simp only[hop];go_simp;done) 0 (Nat.zero_le _) ?_
      intro A w1 hr hb
      exact hK _ _ ⟨A,upd_same _ _ _⟩ (hG.other 0 (by decide) hb) (fun _ _ _ h=>hst _ _ _ _ h)
    | 1,ho,hli,hdp,hK=>
      obtain⟨hop,hds,hgd⟩:=jro (Op.move (Operand.tmp 1)) 21 ho
      have e1:a.eval (.tmp 1)= .slice A l.length c:=jfr (hfr 1) h1
      refine reg_val (w1:=w) ho hgd (.slice A l.length c) (by unfold execOp;simp only[hop,e1];go_simp) ?_
      exact hK _ _ (upd_same _ _ _) (hG.other 1 (by decide) (Below.refl _ _)) (fun _ _ _ h=>hst _ _ _ _ h)
    | 2,ho,hli,hdp,hK=>
      obtain⟨hop,hds,hgd⟩:=jro (Op.move (Operand.tmp 5)) 22 ho
      have e1:a.eval (.tmp 5)= .int .i64 at_:=jfr (hfr 5) h5
      refine reg_val (w1:=w) ho hgd (.int .i64 at_) (by unfold execOp;simp only[hop,e1];go_simp) ?_
      exact hK _ _ (upd_same _ _ _) (hG.other 2 (by decide) (Below.refl _ _)) (fun _ _ _ h=>hst _ _ _ _ h)
    | 3,ho,hli,hdp,hK=>
      obtain⟨hop,hds,hgd⟩:=jro (Op.slice 29 (Operand.tmp 21) none (some (Operand.tmp 22)) none) 23 ho
      have e1:a.eval (.tmp 21)= .slice A l.length c:=jdv (hdp 1)
      have e2:a.eval (.tmp 22)= .int .i64 at_:=jdv (hdp 2)
      have q_:=hcutx
      refine reg_val (w1:=w) ho hgd (.slice Ax lx.length cx) (by unfold execOp;simp only[hop,Option.map_some,Option.map_none,e1,e2];go_simp) ?_
      exact hK _ _ (upd_same _ _ _) (hG.other 3 (by decide) (Below.refl _ _)) (fun _ _ _ h=>hst _ _ _ _ h)
    | 4,ho,hli,hdp,hK=>
      obtain⟨hop,hds,hgd⟩:=jro (Op.call {callee:=Callee.builtin Builtin.append,args:= #[(Operand.tmp 20),(Operand.tmp 23)],argTypes:= #[29,29]}) 24 ho
      have e1:a.eval (.tmp 20)=vals 0:=eval_tmp ((hdp 0 (dep_of (by kernel_rfl))).1 20 rfl)
      obtain⟨A4,f1⟩:=(hdp 0 (dep_of (by kernel_rfl))).2 (.inr (Nat.le_refl _))
      replace e1:=e1.trans f1
      have e2:a.eval (.tmp 23)= .slice Ax lx.length cx:=jdv (hdp 3)
      have hC:=hCx w (hVw hG.keep)
      rcases Nat.eq_zero_or_pos lx.length with hz | hz
      · have hz2:lx=[]:=List.eq_nil_of_length_eq_zero hz
        rw[hz] at e2
        refine reg_app_nil ho hgd (.tmp 20) (.tmp 23) 29 5 hop Try.underlying29 info5 e1 (Nat.le_refl _) (fun _=>⟨rfl,rfl⟩) e2 ?_
        exact hK _ _ ⟨_,_,_,upd_same _ _ _⟩ (hG.at4 (Below.refl _ _) (.inl ⟨hz2,_,rfl⟩)) (fun _ _ _ h=>hst _ _ _ _ h)
      · refine reg_app1 (olds:=[]) ho hgd (.tmp 20) (.tmp 23) 29 5 hop Try.underlying29 info5 e1 rfl (fun _=>rfl) (fun _ _ j u hj=>by simp at hj) e2 hC hz (by omega) ?_
        intro v1 w1 hr hb
        obtain⟨A5,c5,e5⟩:=Kd.R_slice hr
        exact hK _ _ ⟨_,_,_,(upd_same _ _ _).trans e5⟩ (hG.at4 hb (.inr ⟨hz,Kd.R_lower hr hG.keep.1⟩)) (fun _ _ _ h=>hst _ _ _ _ h)
    | 5,ho,hli,hdp,hK=>
      obtain⟨hop,hds,hgd⟩:=jro (Op.move (Operand.tmp 0)) 25 ho
      have e1:a.eval (.tmp 0)= .pointer (some ⟨g,0,none⟩):=jfr (hfr 0) h0
      refine reg_val (w1:=w) ho hgd (.pointer (some ⟨g,0,none⟩)) (by unfold execOp;simp only[hop,e1];go_simp) ?_
      exact hK _ _ (upd_same _ _ _) (hG.other 5 (by decide) (Below.refl _ _)) (fun _ _ _ h=>hst _ _ _ _ h)
    | 6,ho,hli,hdp,hK=>
      obtain⟨hop,hds,hgd⟩:=jro (Op.call {callee:=Callee.value (Operand.func 143),args:= #[(Operand.tmp 25),(Operand.const (Value.int IntKind.i64 4))],argTypes:= #[115,3]}) 26 ho
      have e1:a.eval (.tmp 25)= .pointer (some ⟨g,0,none⟩):=jdv (hdp 5)
      refine reg_call ho hgd (f:=143) Try.func143 (by kernel_rfl) rfl #[.pointer (some ⟨g,0,none⟩), .int .i64 4] hop (by simp only[List.map_toArray,List.map_cons,List.map_nil,e1];rfl) ?_
      refine(spec_l1Below.calls g s0 s1 s2 4 x x1 x2 w0 w (hG.old hli) hG.bel FX).mono ?_
      rintro e w1 ⟨rfl,hi,hb,hk2⟩
      exact⟨_,rfl,hK _ _ (upd_same _ _ _) (hG.at6 (by rw[hl,hn];decide) hi hb hk2) (fun _ _ _ h=>hst _ _ _ _ h)⟩
    | 7,ho,hli,hdp,hK=>
      obtain⟨hop,hds,hgd⟩:=jro (Op.convert 3 5 (Operand.tmp 26)) 27 ho
      have e1:a.eval (.tmp 26)= .int .i64 x:=jdv (hdp 6)
      refine reg_val (w1:=w) ho hgd (.int .u8 (x % 256)) (by unfold execOp;simp only[hop,e1];go_simp;rfl) ?_
      exact hK _ _ (upd_same _ _ _) (hG.other 7 (by decide) (Below.refl _ _)) (fun _ _ _ h=>hst _ _ _ _ h)
    | 8,ho,hli,hdp,hK=>
      obtain⟨hop,hds,hgd⟩:=jro (Op.buildSlice 29 1 #[(0,(Operand.tmp 27))]) 28 ho
      have e1:a.eval (.tmp 27)= .int .u8 (x % 256):=jdv (hdp 7)
      have t27:a.tmps[27]? =some (.int .u8 (x % 256)):=((hdp 7 (dep_of (by kernel_rfl))).1 27 rfl).trans (congrArg some ((hdp 7 (dep_of (by kernel_rfl))).2 (.inr (Nat.le_refl _))))
      refine reg_if ho ?_
      refine event_step (reg_wanted hgd) (w1:=w.alloc (.cells #[.int .u8 (x % 256)] 5)) (v:= .slice (some ⟨w.heap.size,0,none⟩) 1 1) (by unfold execOp;simp only[hop];go_simp) ?_
      have hb:Below w.heap.size w (w.alloc (.cells #[.int .u8 (x % 256)] 5)):=below_alloc (Below.refl _ _) _
      refine hK _ _ ⟨_,_,_,upd_same _ _ _⟩ (hG.at8 hb ?_) (fun _ _ _ h=>hst _ _ _ _ h)
      exact⟨fun _ _=>trivial,[.int .u8 (x % 256)],World.laxRow_lit (base:=W.heap.size) (e:=5) (size:=1) w #[.int .u8 (x % 256)] 1 hG.keep.1 (by decide) rfl,Reps.one (show Kd.M (Kd.int .u8) _ _ _ (x % 256) [.int .u8 (x % 256)] from rfl) (Reps.none _ _)⟩
    | 9,ho,hli,hdp,hK=>
      obtain⟨hop,hds,hgd⟩:=jro (Op.move (Operand.tmp 1)) 29 ho
      have e1:a.eval (.tmp 1)= .slice A l.length c:=jfr (hfr 1) h1
      refine reg_val (w1:=w) ho hgd (.slice A l.length c) (by unfold execOp;simp only[hop,e1];go_simp) ?_
      exact hK _ _ (upd_same _ _ _) (hG.other 9 (by decide) (Below.refl _ _)) (fun _ _ _ h=>hst _ _ _ _ h)
    | 10,ho,hli,hdp,hK=>
      obtain⟨hop,hds,hgd⟩:=jro (Op.move (Operand.tmp 5)) 30 ho
      have e1:a.eval (.tmp 5)= .int .i64 at_:=jfr (hfr 5) h5
      refine reg_val (w1:=w) ho hgd (.int .i64 at_) (by unfold execOp;simp only[hop,e1];go_simp) ?_
      exact hK _ _ (upd_same _ _ _) (hG.other 10 (by decide) (Below.refl _ _)) (fun _ _ _ h=>hst _ _ _ _ h)
    | 11,ho,hli,hdp,hK=>
      obtain⟨hop,hds,hgd⟩:=jro (Op.slice 29 (Operand.tmp 29) (some (Operand.tmp 30)) none none) 31 ho
      have e1:a.eval (.tmp 29)= .slice A l.length c:=jdv (hdp 9)
      have e2:a.eval (.tmp 30)= .int .i64 at_:=jdv (hdp 10)
      have q_:=hcuty
      refine reg_val (w1:=w) ho hgd (.slice Ay ly.length cy) (by unfold execOp;simp only[hop,Option.map_some,Option.map_none,e1,e2];go_simp) ?_
      exact hK _ _ (upd_same _ _ _) (hG.other 11 (by decide) (Below.refl _ _)) (fun _ _ _ h=>hst _ _ _ _ h)
    | 12,ho,hli,hdp,hK=>
      obtain⟨hop,hds,hgd⟩:=jro (Op.call {callee:=Callee.builtin Builtin.append,args:= #[(Operand.tmp 28),(Operand.tmp 31)],argTypes:= #[29,29]}) 32 ho
      have e1:a.eval (.tmp 28)=vals 8:=eval_tmp ((hdp 8 (dep_of (by kernel_rfl))).1 28 rfl)
      obtain⟨A8,n8,c8,f1⟩:=(hdp 8 (dep_of (by kernel_rfl))).2 (.inr (Nat.le_refl _))
      have e2:a.eval (.tmp 31)= .slice Ay ly.length cy:=jdv (hdp 11)
      have hC:=hCy w (hVw hG.keep)
      cases h13:l_.getD 13 false with
      | true=>rw[hG.c13 h13] at hli;cases hli
      | false=>
      obtain⟨ad,f2,hr8⟩:=hG.r8 (by rw[f1];exact undef_slice) h13
      replace e1:=e1.trans f2
      have hC8:=(Kd.R_reads' hr8).2.2
      rcases Nat.eq_zero_or_pos ly.length with hz | hz
      · have hz2:ly=[]:=List.eq_nil_of_length_eq_zero hz
        rw[hz] at e2
        refine reg_app_nil ho hgd (.tmp 28) (.tmp 31) 29 5 hop Try.underlying29 info5 e1 (Nat.le_refl _) (fun h=>by cases h) e2 ?_
        exact hK _ _ ⟨_,_,_,upd_same _ _ _⟩ (hG.at12 (by rw[hl,hn];decide) (Below.refl _ _) (by rw[hz2];exact hr8)) (fun _ _ _ h=>hst _ _ _ _ h)
      · refine reg_app1 (olds:=[x % 256]) ho hgd (.tmp 28) (.tmp 31) 29 5 hop Try.underlying29 info5 e1 rfl (fun h=>by cases h) ?_ e2 hC hz (by omega) ?_
        · intro b hb j u hj
          obtain rfl:=Option.some.inj hb
          obtain⟨ad2,e3,hcB⟩:=hC8.2.2 (Nat.succ_pos _)
          obtain rfl:=Option.some.inj e3
          cases j with
          | succ j=>simp at hj
          | zero=>
            simp only[List.map_cons,List.map_nil,List.getElem?_cons_zero,Option.some.injEq] at hj
            subst hj
            obtain⟨cs,hc1,hc2,hc3⟩:=hcB 0 (x % 256) rfl
            exact hc3 0 (.int .u8 (x % 256)) (by rw[hc2];rfl)
        · intro v1 w1 hr hb
          obtain⟨A5,c5,e5⟩:=Kd.R_slice hr
          exact hK _ _ ⟨_,_,_,(upd_same _ _ _).trans e5⟩ (hG.at12 (by rw[hl,hn];decide) hb (Kd.R_lower hr hG.keep.1)) (fun _ _ _ h=>hst _ _ _ _ h)
    | 13,ho,hli,hdp,hK=>
      obtain⟨hop,hds,hgd⟩:=jro (Op.call {callee:=Callee.builtin Builtin.append,args:= #[(Operand.tmp 24),(Operand.tmp 32)],argTypes:= #[29,29]}) 33 ho
      have e1:a.eval (.tmp 24)=vals 4:=eval_tmp ((hdp 4 (dep_of (by kernel_rfl))).1 24 rfl)
      obtain⟨A4,n4,c4,f1⟩:=(hdp 4 (dep_of (by kernel_rfl))).2 (.inr (Nat.le_refl _))
      have e2:a.eval (.tmp 32)=vals 12:=eval_tmp ((hdp 12 (dep_of (by kernel_rfl))).1 32 rfl)
      obtain⟨A12,n12,c12,f2⟩:=(hdp 12 (dep_of (by kernel_rfl))).2 (.inr (Nat.le_refl _))
      have r12:=hG.r12 (by rw[f2];exact undef_slice) hli
      have hs:13<l_.size:=by rw[hl,hn];decide
      obtain⟨A6,c6,e6⟩:=Kd.R_slice r12
      rw[e6] at r12
      replace e2:=e2.trans e6
      have hC12:=(Kd.R_reads' r12).2.2
      have hlen:(x % 256 :: ly).length=ly.length+1:=rfl
      rcases hG.r4 (by rw[f1];exact undef_slice) hli with ⟨hz,A7,f3⟩ | ⟨hz,r4⟩
      · replace e1:=e1.trans f3
        refine reg_app1 (olds:=[]) ho hgd (.tmp 24) (.tmp 32) 29 5 hop Try.underlying29 info5 e1 rfl (fun _=>rfl) (fun _ _ j u hj=>by simp at hj) e2 hC12 (by rw[hlen];omega) (by rw[hlen];omega) ?_
        intro v1 w1 hr hb
        obtain⟨A5,c5,e5⟩:=Kd.R_slice hr
        refine hK _ _ ⟨_,_,_,(upd_same _ _ _).trans e5⟩ (hG.at13 hs (by rw[f2];exact undef_slice) (row:=none) (hb.mono hG.keep.1) (grown_of_below hb none) (fun k h=>by cases h) ?_) (fun _ _ _ h=>hst _ _ _ _ h)
        rw[hz]
        exact Kd.R_lower hr hG.keep.1
      · refine reg_if ho ?_
        refine Kd.R_append_rows_step (Kd.int .u8) (w0:=w) W.heap.size (reg_wanted hgd) (.tmp 24) (.tmp 32) 29 5 (.int .u8 0) 1 hop Try.underlying29 info5 rfl (by decide) (by decide) (vals 4) lx (x % 256 :: ly) A6 (x % 256 :: ly).length c6 (fun _=>True) (fun _=>False) e1 e2 r4 hC12 (fun _ _ h=>h) (fun _ h=>h.elim) (fun _ _=>trivial) (Below.refl _ _) hG.keep.1 (by rw[hlen];omega) ?_
        intro v1 w1 hr hb hgr hat
        obtain⟨A5,c5,e5⟩:=Kd.R_slice hr
        exact hK _ _ ⟨_,_,_,(upd_same _ _ _).trans e5⟩ (hG.at13 hs (by rw[f2];exact undef_slice) hb hgr (fun k h=>((Kd.R_bound r4).1 k h).2.1) hr) (fun _ _ _ h=>hst _ _ _ _ h)
    | 14,ho,hli,hdp,hK=>
      obtain⟨hop,hds,hgd⟩:=jro (Op.assign (Operand.tmp 33)) 4 ho
      have x1_:a.eval (.tmp 33)=vals 13:=eval_tmp ((hdp 13 (dep_of (by kernel_rfl))).1 33 rfl)
      refine reg_val (w1:=w) ho hgd (vals 13) (by unfold execOp;simp only[hop,x1_];go_simp) ?_
      exact hK _ _ ((upd_same _ _ _).trans (upd_ne _ _ (by decide)).symm) (hG.other 14 (by decide) (Below.refl _ _)) (fun _ _ _ h=>hst _ _ _ _ h)
    | k+15,ho,_,_,_=>exact absurd (Array.getElem?_eq_some_iff.1 ho).1 (by rw[hn];omega)
  · intro a w' vals hd hs hf hv hV2 l_ hl hall hG
    have ha:=region_act hk hd hs hf hv
    have hN:∀ j,j<15→j<(opsOf Try.f125 6).size:=fun j h=>by rw[hn];exact h
    replace ha:a=(((((((((((((((a0.put (some 20) (vals 0)).put (some 21) (vals 1)).put (some 22) (vals 2)).put (some 23) (vals 3)).put (some 24) (vals 4)).put (some 25) (vals 5)).put (some 26) (vals 6)).put (some 27) (vals 7)).put (some 28) (vals 8)).put (some 29) (vals 9)).put (some 30) (vals 10)).put (some 31) (vals 11)).put (some 32) (vals 12)).put (some 33) (vals 13)).put (some 4) (vals 14)):=ha.trans (by rw[hn];rfl)
    rw[ha]
    rw[(hV2 1 (hN 1 (by omega)) (Nat.le_refl _):vals 1=_),(hV2 2 (hN 2 (by omega)) (Nat.le_refl _):vals 2=_),(hV2 3 (hN 3 (by omega)) (Nat.le_refl _):vals 3=_),(hV2 5 (hN 5 (by omega)) (Nat.le_refl _):vals 5=_),(hV2 6 (hN 6 (by omega)) (Nat.le_refl _):vals 6=_),(hV2 7 (hN 7 (by omega)) (Nat.le_refl _):vals 7=_),(hV2 9 (hN 9 (by omega)) (Nat.le_refl _):vals 9=_),(hV2 10 (hN 10 (by omega)) (Nat.le_refl _):vals 10=_),(hV2 11 (hN 11 (by omega)) (Nat.le_refl _):vals 11=_),(hV2 14 (hN 14 (by omega)) (Nat.le_refl _):vals 14=_)]
    have r13:=hG.r13 (hall 13 (hN 13 (by omega)))
    exact hend w' _ _ _ _ _ r13 (hG.new (hall 6 (hN 6 (by omega)))) hG.bel hG.keep
end Go.Proofs.Ytlalkldjpniakaa.P
