import Derived.Test.Ytienlgcjohpphaale6
import Derived.Test.Ytienlgcjohpphaale7
/- KeysOf: the regions that make its two answers, in whatever order. -/
namespace Go.Proofs.Ytienlgcjohpphaa.P
open Go.RowKit Go.Proofs.YtienlgcjohpphaaW.PrintWords Go.Proofs.YtienlgcjohpphaaW.PrintLast Go.Proofs.YtienlgcjohpphaaW.PrintMore
set_option linter.unusedVariables false
set_option linter.unusedSimpArgs false
set_option maxHeartbeats 8000000
set_option maxRecDepth 100000
/-- append onto a slice of no capacity, of something: a new block. -/
theorem reg_app1 {P:Program} {ops:Array Oper} {Q:Exit→Act→World→Prop} {i:Nat} {o:Oper} {a:Act} {w:World} {K:Act→World→Prop} (hi:ops[i]? =some o) (hg:o.guard=none) (s x:Operand) (t e:TypeId) (hop:o.op=Op.call {callee:=Callee.builtin Builtin.append,args:= #[s,x],argTypes:= #[t,t]})
    (ht:P.underlying t=some (.slice e)) (hinfo:(P.info? e).map (fun i=>(i.zero,i.size,i.bytes))=some (some (.int .u8 0),1,1)) {A0 A1:Option Addr} {c1:Nat} {ys:List Int} (hs:a.eval s= .slice A0 0 0)
    (hx:a.eval x= .slice A1 ys.length c1) (HC:Kd.C (Kd.int .u8) w A1 ys.length ys) (h0:0<ys.length) (hm:ys.length≤140737488355328)
    (h:∀ v1 w1,Kd.R (Kd.int .u8) e w1 w.heap.size (fun _=>True) v1 ys→Below w.heap.size w w1→K (a.put o.dst v1) w1):wpOp P ops Q i K a w:=by
  obtain⟨ti,hti,hz⟩:=Option.map_eq_some_iff.1 hinfo
  simp only[Prod.mk.injEq] at hz
  obtain⟨hz1,hz2,hz3⟩:=hz
  refine reg_if hi ?_
  obtain⟨ad1,rfl,hcB⟩:=HC.2.2 h0
  have cells:∀ j u,(ys.map (Value.int .u8))[j]? =some u→w.cell? (ad1.add j)=some u:=by
    intro j u hj
    rw[List.getElem?_map] at hj
    obtain⟨z,hz,rfl⟩:=Option.map_eq_some_iff.1 hj
    obtain⟨c,hc1,hc2,hc3⟩:=hcB j z hz
    have h3:=hc3 0 (.int .u8 z) (by rw[hc2];rfl)
    rw[show j*(Kd.int .u8).sz+0=j from by show j*1+0=j;omega] at h3
    exact h3
  refine step_append_grows hg s x t hop e ti (.int .u8 0) 1 1 ht hti hz1 hz2 hz3 rfl (by decide) A0 0 0 [] hs (fun _=>⟨rfl,rfl⟩) rfl (fun _ _ j u hj=>by simp at hj) ad1 ys.length c1 (ys.map (Value.int .u8)) hx (by rw[List.length_map];omega) cells (fun u hu=>by obtain⟨z,_,rfl⟩:=List.mem_map.1 hu;rfl) (by omega) (by unfold maxLen;omega) (by omega) ?_
  intro v' w' ho hgr
  refine h v' w' ?_ ⟨hgr.os,hgr.tape,hgr.output,hgr.size,fun j hj=>hgr.block j hj (by simp)⟩
  simp only[List.nil_append,Nat.zero_add] at ho
  exact Kd.R_of_own (enc:=Value.int .u8) (h1:=fun _=>rfl) ho.lax (fun _ _=>trivial)
/-- What is done of two that make a row each: the rows, and that they are two. -/
structure KG (W:World) (i j:Nat) (la lb:List Int) (l:Array Bool) (vals:Nat→Value) (w:World):Prop where
  bel:Below W.heap.size W w
  fst:l.getD i false=true→Kd.R (Kd.int .u8) 5 w W.heap.size (fun _=>True) (vals i) la
  snd:l.getD j false=true→Kd.R (Kd.int .u8) 5 w W.heap.size (fun _=>True) (vals j) lb
  two:l.getD i false=true→l.getD j false=true→∀ k,(vals i).ownBlock=some k→(vals j).ownBlock≠some k
theorem KG.start {W:World} {i j n:Nat} {la lb:List Int} {vals:Nat→Value} {w:World} (h:Below W.heap.size W w):KG W i j la lb (Array.replicate n false) vals w:=by
  have hz:∀ j,(Array.replicate n false).getD j false=false:=by
    intro j
    simp only[Array.getD_eq_getD_getElem?]
    rcases Nat.lt_or_ge j n with h | h
    · simp [h]
    · rw[Array.getElem?_eq_none (by simpa using h)];rfl
  have hf:∀ j,(Array.replicate n false).getD j false≠true:=fun j e=>by rw[hz j] at e;cases e
  exact⟨h,fun e=>absurd e (hf _),fun e=>absurd e (hf _),fun e=>absurd e (hf _)⟩
theorem KG.getD_ne {l:Array Bool} {m j:Nat} (h:j≠m):(l.setIfInBounds m true).getD j false=l.getD j false:=by
  simp only[Array.getD_eq_getD_getElem?,Array.getElem?_setIfInBounds_ne (Ne.symm h)]
theorem KG.other {W:World} {i j m:Nat} {la lb:List Int} {l:Array Bool} {vals:Nat→Value} {w w1:World} {v:Value} (h:KG W i j la lb l vals w) (hi:i≠m) (hj:j≠m) (hb:Below w.heap.size w w1):KG W i j la lb (l.setIfInBounds m true) (upd vals m v) w1:=by
  refine⟨below_step h.bel hb,?_,?_,?_⟩
  · rw[KG.getD_ne hi,upd_ne vals v hi];exact fun e=>Kd.R_below (h.fst e) hb
  · rw[KG.getD_ne hj,upd_ne vals v hj];exact fun e=>Kd.R_below (h.snd e) hb
  · rw[KG.getD_ne hi,KG.getD_ne hj,upd_ne vals v hi,upd_ne vals v hj];exact h.two
theorem KG.left {W:World} {i j:Nat} {la lb:List Int} {l:Array Bool} {vals:Nat→Value} {w w1:World} {v:Value} (h:KG W i j la lb l vals w) (hij:j≠i) (hb:Below w.heap.size w w1) (hr:Kd.R (Kd.int .u8) 5 w1 w.heap.size (fun _=>True) v la):KG W i j la lb (l.setIfInBounds i true) (upd vals i v) w1:=by
  refine⟨below_step h.bel hb,?_,?_,?_⟩
  · rw[upd_same];exact fun _=>Kd.R_lower hr h.bel.size
  · rw[KG.getD_ne hij,upd_ne vals v hij];exact fun e=>Kd.R_below (h.snd e) hb
  · rw[KG.getD_ne hij,upd_ne vals v hij,upd_same]
    intro _ e k hk hk2
    have h1:=((Kd.R_bound hr).1 k hk).2.1
    have h2:=Kd.R_lt (h.snd e) k hk2
    omega
theorem KG.right {W:World} {i j:Nat} {la lb:List Int} {l:Array Bool} {vals:Nat→Value} {w w1:World} {v:Value} (h:KG W i j la lb l vals w) (hij:i≠j) (hb:Below w.heap.size w w1) (hr:Kd.R (Kd.int .u8) 5 w1 w.heap.size (fun _=>True) v lb):KG W i j la lb (l.setIfInBounds j true) (upd vals j v) w1:=by
  refine⟨below_step h.bel hb,?_,?_,?_⟩
  · rw[KG.getD_ne hij,upd_ne vals v hij];exact fun e=>Kd.R_below (h.fst e) hb
  · rw[upd_same];exact fun _=>Kd.R_lower hr h.bel.size
  · rw[KG.getD_ne hij,upd_ne vals v hij,upd_same]
    intro e _ k hk hk2
    have h1:=((Kd.R_bound hr).1 k hk2).2.1
    have h2:=Kd.R_lt (h.fst e) k hk
    omega
set_option maxHeartbeats 4000000 in
theorem spec_KeysOf.r5 {Q:Exit→Act→World→Prop} {a0:Act} {W:World} (lk lx ly:List Int) (Ak Ax Ay:Option Addr) (ck cx cy:Nat) (hx0:0<lx.length) (hx1:lx.length≤1000) (hy0:0<ly.length) (hy1:ly.length≤1000)
    (hcutx:∀ W:World,(Instr.slice 23 (.slice Ak lk.length ck) none (some (.int .i64 32)) none).run Try.prog W= .ok (.slice Ax lx.length cx) W) (hCx:Kd.C (Kd.int .u8) W Ax lx.length lx)
    (hcuty:∀ W:World,(Instr.slice 23 (.slice Ak lk.length ck) (some (.int .i64 32)) none none).run Try.prog W= .ok (.slice Ay ly.length cy) W) (hCy:Kd.C (Kd.int .u8) W Ay ly.length ly)
    (hsz:a0.tmps.size=33) (h9:a0.tmps[9]? =some (.slice Ak lk.length ck))
    (hend:∀ (w':World) (v25 v28 v29 v32:Value),Below W.heap.size W w'→Kd.R (Kd.int .u8) 5 w' W.heap.size (fun k_=>some k_≠v32.ownBlock) v28 lx→Kd.R (Kd.int .u8) 5 w' W.heap.size (fun k_=>some k_≠v28.ownBlock) v32 ly→
      Q .normal ((((((((((a0.put (some 25) v25).put (some 26) (.slice Ak lk.length ck)).put (some 27) (.slice Ax lx.length cx)).put (some 28) v28).put (some 29) v29).put (some 30) (.slice Ak lk.length ck)).put (some 31) (.slice Ay ly.length cy)).put (some 32) v32).put (some 6) v28).put (some 7) v32) w'):
    (Code.region 5 (opsOf Try.f49 5) true).wp Try.prog Q a0 W:=by
  have hn:(opsOf Try.f49 5).size=10:=by kernel_rfl
  have hk:regOk (opsOf Try.f49 5) a0.tmps.size=true:=by rw[hsz];kernel_rfl
  have hst:jSta (fun j=>([fun vals w_=>∃ A,vals 0= .slice A 0 0,fun vals w_=>vals 1= .slice Ak lk.length ck,fun vals w_=>vals 2= .slice Ax lx.length cx,fun vals w_=>True,fun vals w_=>∃ A,vals 4= .slice A 0 0,fun vals w_=>vals 5= .slice Ak lk.length ck,fun vals w_=>vals 6= .slice Ay ly.length cy,fun vals w_=>True,fun vals w_=>vals 8=vals 3,fun vals w_=>vals 9=vals 7]:List ((Nat→Value)→World→Prop)).getD j (fun _ _=>True)):=by
    intro vals w_ w1 hb j h
    match j,h with
    | 0,h=>exact h
    | 1,h=>exact h
    | 2,h=>exact h
    | 3,h=>exact h
    | 4,h=>exact h
    | 5,h=>exact h
    | 6,h=>exact h
    | 7,h=>exact h
    | 8,h=>exact h
    | 9,h=>exact h
    | k+10,_=>exact trivial
  refine region_inv2 (by kernel_rfl) (jV hst) (KG W 3 7 lx ly) (fun _=>(opsOf Try.f49 5).size) hk ?_ ?_ ?_ ?_
  · intro j vals vals' w_ h0 h1 h
    match j,h0,h1,h with
    | 0,h0,h1,h=>exact Exists.imp (fun A e=>h0.symm.trans e) h
    | 1,h0,h1,h=>exact h0.symm.trans h
    | 2,h0,h1,h=>exact h0.symm.trans h
    | 3,h0,h1,h=>exact trivial
    | 4,h0,h1,h=>exact Exists.imp (fun A e=>h0.symm.trans e) h
    | 5,h0,h1,h=>exact h0.symm.trans h
    | 6,h0,h1,h=>exact h0.symm.trans h
    | 7,h0,h1,h=>exact trivial
    | 8,h0,h1,h=>exact(h0.symm.trans h).trans (h1 3 (dep_of (by kernel_rfl)))
    | 9,h0,h1,h=>exact(h0.symm.trans h).trans (h1 7 (dep_of (by kernel_rfl)))
    | k+10,_,_,_=>exact trivial
  · exact KG.start (below_drew (Below.refl _ _))
  · intro i o ho a w vals l hl hli hfr hdp hG K hK
    match i,ho,hli,hdp,hK with
    | 0,ho,hli,hdp,hK=>
      obtain⟨hop,hds,hgd⟩:=jro (Op.buildSlice 23 0 #[]) 25 ho
      refine reg_lit0 ho hgd 5 (by unfold execOp;simp only[hop];go_simp;done) W.heap.size hG.bel.size ?_
      intro A w1 hr hb
      exact hK _ _ ⟨A,upd_same _ _ _⟩ (hG.other (by decide) (by decide) hb) (fun j _ _ h=>hst vals w w1 hb j h)
    | 1,ho,hli,hdp,hK=>
      obtain⟨hop,hds,hgd⟩:=jro (Op.move (Operand.tmp 9)) 26 ho
      have x1_:a.eval (.tmp 9)= .slice Ak lk.length ck:=jfr (hfr 9) h9
      refine reg_val (w1:=w) ho hgd (.slice Ak lk.length ck) (by unfold execOp;simp only[hop,x1_];go_simp) ?_
      exact hK _ _ (upd_same _ _ _) (hG.other (by decide) (by decide) (Below.refl _ _)) (fun _ _ _ h=>h)
    | 2,ho,hli,hdp,hK=>
      obtain⟨hop,hds,hgd⟩:=jro (Op.slice 23 (Operand.tmp 26) none (some (Operand.const (Value.int IntKind.i64 32))) none) 27 ho
      have e1:a.eval (.tmp 26)= .slice Ak lk.length ck:=jdv (hdp 1)
      have q_:=hcutx
      refine reg_val (w1:=w) ho hgd (.slice Ax lx.length cx) (by unfold execOp;simp only[hop,e1];simp only[Option.map_some,Option.map_none];go_simp) ?_
      exact hK _ _ (upd_same _ _ _) (hG.other (by decide) (by decide) (Below.refl _ _)) (fun _ _ _ h=>h)
    | 3,ho,hli,hdp,hK=>
      obtain⟨hop,hds,hgd⟩:=jro (Op.call {callee:=Callee.builtin Builtin.append,args:= #[(Operand.tmp 25),(Operand.tmp 27)],argTypes:= #[23,23]}) 28 ho
      have e25:a.eval (.tmp 25)=vals 0:=eval_tmp ((hdp 0 (dep_of (by kernel_rfl))).1 25 rfl)
      obtain⟨A,f1⟩:=(hdp 0 (dep_of (by kernel_rfl))).2 (.inr (Nat.le_refl _))
      replace e25:=e25.trans f1
      have e27:a.eval (.tmp 27)= .slice Ax lx.length cx:=jdv (hdp 2)
      refine reg_app1 ho hgd (.tmp 25) (.tmp 27) 23 5 hop Try.underlying23 info5 e25 e27 (Kd.C_below hCx hG.bel) hx0 (by omega) ?_
      intro v1 w1 hr hb
      exact hK _ _ trivial (hG.left (by decide) hb hr) (fun j _ _ h=>hst vals w w1 hb j h)
    | 4,ho,hli,hdp,hK=>
      obtain⟨hop,hds,hgd⟩:=jro (Op.buildSlice 23 0 #[]) 29 ho
      refine reg_lit0 ho hgd 5 (by unfold execOp;simp only[hop];go_simp;done) W.heap.size hG.bel.size ?_
      intro A w1 hr hb
      exact hK _ _ ⟨A,upd_same _ _ _⟩ (hG.other (by decide) (by decide) hb) (fun j _ _ h=>hst vals w w1 hb j h)
    | 5,ho,hli,hdp,hK=>
      obtain⟨hop,hds,hgd⟩:=jro (Op.move (Operand.tmp 9)) 30 ho
      have x1_:a.eval (.tmp 9)= .slice Ak lk.length ck:=jfr (hfr 9) h9
      refine reg_val (w1:=w) ho hgd (.slice Ak lk.length ck) (by unfold execOp;simp only[hop,x1_];go_simp) ?_
      exact hK _ _ (upd_same _ _ _) (hG.other (by decide) (by decide) (Below.refl _ _)) (fun _ _ _ h=>h)
    | 6,ho,hli,hdp,hK=>
      obtain⟨hop,hds,hgd⟩:=jro (Op.slice 23 (Operand.tmp 30) (some (Operand.const (Value.int IntKind.i64 32))) none none) 31 ho
      have e1:a.eval (.tmp 30)= .slice Ak lk.length ck:=jdv (hdp 5)
      have q_:=hcuty
      refine reg_val (w1:=w) ho hgd (.slice Ay ly.length cy) (by unfold execOp;simp only[hop,e1];simp only[Option.map_some,Option.map_none];go_simp) ?_
      exact hK _ _ (upd_same _ _ _) (hG.other (by decide) (by decide) (Below.refl _ _)) (fun _ _ _ h=>h)
    | 7,ho,hli,hdp,hK=>
      obtain⟨hop,hds,hgd⟩:=jro (Op.call {callee:=Callee.builtin Builtin.append,args:= #[(Operand.tmp 29),(Operand.tmp 31)],argTypes:= #[23,23]}) 32 ho
      have e29:a.eval (.tmp 29)=vals 4:=eval_tmp ((hdp 4 (dep_of (by kernel_rfl))).1 29 rfl)
      obtain⟨A,f1⟩:=(hdp 4 (dep_of (by kernel_rfl))).2 (.inr (Nat.le_refl _))
      replace e29:=e29.trans f1
      have e31:a.eval (.tmp 31)= .slice Ay ly.length cy:=jdv (hdp 6)
      refine reg_app1 ho hgd (.tmp 29) (.tmp 31) 23 5 hop Try.underlying23 info5 e29 e31 (Kd.C_below hCy hG.bel) hy0 (by omega) ?_
      intro v1 w1 hr hb
      exact hK _ _ trivial (hG.right (by decide) hb hr) (fun j _ _ h=>hst vals w w1 hb j h)
    | 8,ho,hli,hdp,hK=>
      obtain⟨hop,hds,hgd⟩:=jro (Op.assign (Operand.tmp 28)) 6 ho
      have x1_:a.eval (.tmp 28)=vals 3:=eval_tmp ((hdp 3 (dep_of (by kernel_rfl))).1 28 rfl)
      refine reg_val (w1:=w) ho hgd (vals 3) (by unfold execOp;simp only[hop,x1_];go_simp) ?_
      exact hK _ _ ((upd_same _ _ _).trans (upd_ne _ _ (by decide)).symm) (hG.other (by decide) (by decide) (Below.refl _ _)) (fun _ _ _ h=>h)
    | 9,ho,hli,hdp,hK=>
      obtain⟨hop,hds,hgd⟩:=jro (Op.assign (Operand.tmp 32)) 7 ho
      have x1_:a.eval (.tmp 32)=vals 7:=eval_tmp ((hdp 7 (dep_of (by kernel_rfl))).1 32 rfl)
      refine reg_val (w1:=w) ho hgd (vals 7) (by unfold execOp;simp only[hop,x1_];go_simp) ?_
      exact hK _ _ ((upd_same _ _ _).trans (upd_ne _ _ (by decide)).symm) (hG.other (by decide) (by decide) (Below.refl _ _)) (fun _ _ _ h=>h)
    | k+10,ho,_,_,_=>exact absurd (Array.getElem?_eq_some_iff.1 ho).1 (by rw[hn];omega)
  · intro a w' vals hd hs hf hv hV l hl hall hG
    have ha:=region_act hk hd hs hf hv
    have hN:∀ j,j<10→j<(opsOf Try.f49 5).size:=fun j h=>by rw[hn];exact h
    replace ha:a=((((((((((a0.put (some 25) (vals 0)).put (some 26) (vals 1)).put (some 27) (vals 2)).put (some 28) (vals 3)).put (some 29) (vals 4)).put (some 30) (vals 5)).put (some 31) (vals 6)).put (some 32) (vals 7)).put (some 6) (vals 8)).put (some 7) (vals 9)):=ha.trans (by rw[hn];rfl)
    rw[ha]
    rw[(hV 1 (hN 1 (by omega)) (Nat.le_refl _):vals 1=_),(hV 2 (hN 2 (by omega)) (Nat.le_refl _):vals 2=_),(hV 5 (hN 5 (by omega)) (Nat.le_refl _):vals 5=_),(hV 6 (hN 6 (by omega)) (Nat.le_refl _):vals 6=_),(hV 8 (hN 8 (by omega)) (Nat.le_refl _):vals 8=_),(hV 9 (hN 9 (by omega)) (Nat.le_refl _):vals 9=_)]
    have d3:=hall 3 (hN 3 (by omega))
    have d7:=hall 7 (hN 7 (by omega))
    exact hend w' _ _ _ _ hG.bel (Kd.R_reok rfl (hG.fst d3) (fun k e e2=>hG.two d3 d7 k e e2.symm)) (Kd.R_reok rfl (hG.snd d7) (fun k e e2=>hG.two d3 d7 k e2.symm e))
/-- A list of one list, laid: it reads. -/
def KL (lx:List Int) (v:Value) (w:World):Prop:=∃ A c,v= .slice A ([lx]:List (List Int)).length c∧([lx]:List (List Int)).length≤c∧Kd.C (Kd.slice 5 (Kd.int .u8)) w A ([lx]:List (List Int)).length [lx]
theorem KL.below {lx:List Int} {v:Value} {w w1:World} (h:KL lx v w) (hb:Below w.heap.size w w1):KL lx v w1:=by
  obtain⟨A,c,h1,h2,h3⟩:=h
  exact⟨A,c,h1,h2,Kd.C_below h3 hb⟩
theorem reg_one {ops:Array Oper} {Q:Exit→Act→World→Prop} {i:Nat} {o:Oper} {a:Act} {w:World} {K:Act→World→Prop} (hi:ops[i]? =some o) (hg:o.guard=none) (n:Tmp) (hd:o.dst=some n) (lx:List Int) (Ax:Option Addr) (cx:Nat) (hl:lx.length≤cx) (hC:Kd.C (Kd.int .u8) w Ax lx.length lx)
    (hrun:(execOp a.eval o).run Try.prog w= .ok (.value (.slice (some ⟨w.heap.size,0,none⟩) ([lx]:List (List Int)).length ([lx]:List (List Int)).length)) (w.alloc (.cells [Value.slice Ax lx.length cx].toArray 23)))
    (h:∀ v w1,KL lx v w1→Below w.heap.size w w1→K (a.put o.dst v) w1):wpOp Try.prog ops Q i K a w:=by
  refine reg_if hi ?_
  refine Kd.N_lit_step (Kd.slice 5 (Kd.int .u8)) w.heap.size 23 (reg_wanted hg) (N':=n) hd (xs:=([lx]:List (List Int))) (inner:=[.slice Ax lx.length cx]) (ok:=(fun _=>True)) (okp:=(fun _=>True)) hrun (Reps.one (show Kd.FK (Kd.slice 5 (Kd.int .u8)) _ _ lx [.slice Ax lx.length cx] from(Kd.FK_slice_mk hl (Kd.F_mono (Kd.C_F (Kd.heap_int .u8) hC) (fun _ _=>trivial)))) (Reps.none _ _)) (fun _ hk=>hk) trivial (Below.refl _ _) (Nat.le_refl _) (by simp) ?_
  intro v w1 ho hb _ _
  refine h v w1 ?_ hb
  obtain⟨A,c,e⟩:=Kd.N_slice ho
  subst e
  exact⟨A,c,rfl,(Kd.N_reads' ho).2.1,(Kd.N_reads' ho).2.2⟩
set_option maxHeartbeats 4000000 in
theorem impl_KeysOf.r4 {Q:Exit→Act→World→Prop} {a0:Act} {W:World} (lk lx ly ra rb:List Int) (Ak Ax Ay:Option Addr) (ck cx cy:Nat)
    (hcutx:∀ W:World,(Instr.slice 23 (.slice Ak lk.length ck) none (some (.int .i64 32)) none).run Try.prog W= .ok (.slice Ax lx.length cx) W) (hCx:Kd.C (Kd.int .u8) W Ax lx.length lx) (hlx:lx.length≤cx)
    (hcuty:∀ W:World,(Instr.slice 23 (.slice Ak lk.length ck) (some (.int .i64 32)) none none).run Try.prog W= .ok (.slice Ay ly.length cy) W) (hCy:Kd.C (Kd.int .u8) W Ay ly.length ly) (hly:ly.length≤cy)
    (FA:impl_joined.f [lx]=some ra) (FB:impl_joined.f [ly]=some rb)
    (hsz:a0.tmps.size=28) (h8:a0.tmps[8]? =some (.slice Ak lk.length ck))
    (hend:∀ (w':World) (v22 v23 v26 v27:Value),Below W.heap.size W w'→Kd.R (Kd.int .u8) 5 w' W.heap.size (fun k_=>some k_≠v27.ownBlock) v23 ra→Kd.R (Kd.int .u8) 5 w' W.heap.size (fun k_=>some k_≠v23.ownBlock) v27 rb→
      Q .normal ((((((((((a0.put (some 20) (.slice Ak lk.length ck)).put (some 21) (.slice Ax lx.length cx)).put (some 22) v22).put (some 23) v23).put (some 24) (.slice Ak lk.length ck)).put (some 25) (.slice Ay ly.length cy)).put (some 26) v26).put (some 27) v27).put (some 6) v23).put (some 7) v27) w'):
    (Code.region 4 (opsOf Try.f50 4) true).wp Try.prog Q a0 W:=by
  have hn:(opsOf Try.f50 4).size=10:=by kernel_rfl
  have hk:regOk (opsOf Try.f50 4) a0.tmps.size=true:=by rw[hsz];kernel_rfl
  have hst:jSta (fun j=>([fun vals w_=>vals 0= .slice Ak lk.length ck,fun vals w_=>vals 1= .slice Ax lx.length cx,fun vals w_=>KL lx (vals 2) w_,fun vals w_=>True,fun vals w_=>vals 4= .slice Ak lk.length ck,fun vals w_=>vals 5= .slice Ay ly.length cy,fun vals w_=>KL ly (vals 6) w_,fun vals w_=>True,fun vals w_=>vals 8=vals 3,fun vals w_=>vals 9=vals 7]:List ((Nat→Value)→World→Prop)).getD j (fun _ _=>True)):=by
    intro vals w_ w1 hb j h
    match j,h with
    | 0,h=>exact h
    | 1,h=>exact h
    | 2,h=>exact KL.below h hb
    | 3,h=>exact h
    | 4,h=>exact h
    | 5,h=>exact h
    | 6,h=>exact KL.below h hb
    | 7,h=>exact h
    | 8,h=>exact h
    | 9,h=>exact h
    | k+10,_=>exact trivial
  refine region_inv2 (by kernel_rfl) (jV hst) (KG W 3 7 ra rb) (fun _=>(opsOf Try.f50 4).size) hk ?_ ?_ ?_ ?_
  · intro j vals vals' w_ h0 h1 h
    match j,h0,h1,h with
    | 0,h0,h1,h=>exact h0.symm.trans h
    | 1,h0,h1,h=>exact h0.symm.trans h
    | 2,h0,h1,h=>exact(show KL lx (vals' 2) w_ from h0 ▸ h)
    | 3,h0,h1,h=>exact trivial
    | 4,h0,h1,h=>exact h0.symm.trans h
    | 5,h0,h1,h=>exact h0.symm.trans h
    | 6,h0,h1,h=>exact(show KL ly (vals' 6) w_ from h0 ▸ h)
    | 7,h0,h1,h=>exact trivial
    | 8,h0,h1,h=>exact(h0.symm.trans h).trans (h1 3 (dep_of (by kernel_rfl)))
    | 9,h0,h1,h=>exact(h0.symm.trans h).trans (h1 7 (dep_of (by kernel_rfl)))
    | k+10,_,_,_=>exact trivial
  · exact KG.start (below_drew (Below.refl _ _))
  · intro i o ho a w vals l hl hli hfr hdp hG K hK
    match i,ho,hli,hdp,hK with
    | 0,ho,hli,hdp,hK=>
      obtain⟨hop,hds,hgd⟩:=jro (Op.move (Operand.tmp 8)) 20 ho
      have x1_:a.eval (.tmp 8)= .slice Ak lk.length ck:=jfr (hfr 8) h8
      refine reg_val (w1:=w) ho hgd (.slice Ak lk.length ck) (by unfold execOp;simp only[hop,x1_];go_simp) ?_
      exact hK _ _ (upd_same _ _ _) (hG.other (by decide) (by decide) (Below.refl _ _)) (fun _ _ _ h=>h)
    | 1,ho,hli,hdp,hK=>
      obtain⟨hop,hds,hgd⟩:=jro (Op.slice 23 (Operand.tmp 20) none (some (Operand.const (Value.int IntKind.i64 32))) none) 21 ho
      have e1:a.eval (.tmp 20)= .slice Ak lk.length ck:=jdv (hdp 0)
      have q_:=hcutx
      refine reg_val (w1:=w) ho hgd (.slice Ax lx.length cx) (by unfold execOp;simp only[hop,e1];simp only[Option.map_some,Option.map_none];go_simp) ?_
      exact hK _ _ (upd_same _ _ _) (hG.other (by decide) (by decide) (Below.refl _ _)) (fun _ _ _ h=>h)
    | 2,ho,hli,hdp,hK=>
      obtain⟨hop,hds,hgd⟩:=jro (Op.buildSlice 86 1 #[(0,(Operand.tmp 21))]) 22 ho
      have e1:a.eval (.tmp 21)= .slice Ax lx.length cx:=jdv (hdp 1)
      refine reg_one ho hgd 22 hds lx Ax cx hlx (Kd.C_below hCx hG.bel) (by unfold execOp;simp only[hop];simp only[List.map_toArray,List.map_cons,List.map_nil,e1];first | (go_simp;done) | (go_simp;rfl)) ?_
      intro v w1 hr hb
      exact hK _ _ (show KL lx (upd vals 2 v 2) w1 from by rw[upd_same];exact hr) (hG.other (by decide) (by decide) hb) (fun j _ _ h=>hst vals w w1 hb j h)
    | 3,ho,hli,hdp,hK=>
      obtain⟨hop,hds,hgd⟩:=jro (Op.call {callee:=Callee.value (Operand.func 79),args:= #[(Operand.tmp 22)],argTypes:= #[86]}) 23 ho
      have e1:a.eval (.tmp 22)=vals 2:=eval_tmp ((hdp 2 (dep_of (by kernel_rfl))).1 22 rfl)
      obtain⟨A,c,f1,f2,f3⟩:=(show KL lx (vals 2) w from(hdp 2 (dep_of (by kernel_rfl))).2 (.inr (Nat.le_refl _)))
      replace e1:=e1.trans f1
      refine reg_call ho hgd (f:=79) Try.func79 (by kernel_rfl) rfl #[.slice A ([lx]:List (List Int)).length c] hop (by simp only[List.map_toArray,List.map_cons,List.map_nil,e1]) ?_
      refine(impl_joined.calls A c [lx] ra w f3 f2 FA).mono ?_
      rintro e w1 ⟨v,rfl,hr,hb⟩
      exact⟨_,rfl,hK _ _ trivial (hG.left (by decide) hb hr) (fun j _ _ h=>hst vals w w1 hb j h)⟩
    | 4,ho,hli,hdp,hK=>
      obtain⟨hop,hds,hgd⟩:=jro (Op.move (Operand.tmp 8)) 24 ho
      have x1_:a.eval (.tmp 8)= .slice Ak lk.length ck:=jfr (hfr 8) h8
      refine reg_val (w1:=w) ho hgd (.slice Ak lk.length ck) (by unfold execOp;simp only[hop,x1_];go_simp) ?_
      exact hK _ _ (upd_same _ _ _) (hG.other (by decide) (by decide) (Below.refl _ _)) (fun _ _ _ h=>h)
    | 5,ho,hli,hdp,hK=>
      obtain⟨hop,hds,hgd⟩:=jro (Op.slice 23 (Operand.tmp 24) (some (Operand.const (Value.int IntKind.i64 32))) none none) 25 ho
      have e1:a.eval (.tmp 24)= .slice Ak lk.length ck:=jdv (hdp 4)
      have q_:=hcuty
      refine reg_val (w1:=w) ho hgd (.slice Ay ly.length cy) (by unfold execOp;simp only[hop,e1];simp only[Option.map_some,Option.map_none];go_simp) ?_
      exact hK _ _ (upd_same _ _ _) (hG.other (by decide) (by decide) (Below.refl _ _)) (fun _ _ _ h=>h)
    | 6,ho,hli,hdp,hK=>
      obtain⟨hop,hds,hgd⟩:=jro (Op.buildSlice 86 1 #[(0,(Operand.tmp 25))]) 26 ho
      have e1:a.eval (.tmp 25)= .slice Ay ly.length cy:=jdv (hdp 5)
      refine reg_one ho hgd 26 hds ly Ay cy hly (Kd.C_below hCy hG.bel) (by unfold execOp;simp only[hop];simp only[List.map_toArray,List.map_cons,List.map_nil,e1];first | (go_simp;done) | (go_simp;rfl)) ?_
      intro v w1 hr hb
      exact hK _ _ (show KL ly (upd vals 6 v 6) w1 from by rw[upd_same];exact hr) (hG.other (by decide) (by decide) hb) (fun j _ _ h=>hst vals w w1 hb j h)
    | 7,ho,hli,hdp,hK=>
      obtain⟨hop,hds,hgd⟩:=jro (Op.call {callee:=Callee.value (Operand.func 79),args:= #[(Operand.tmp 26)],argTypes:= #[86]}) 27 ho
      have e1:a.eval (.tmp 26)=vals 6:=eval_tmp ((hdp 6 (dep_of (by kernel_rfl))).1 26 rfl)
      obtain⟨A,c,f1,f2,f3⟩:=(show KL ly (vals 6) w from(hdp 6 (dep_of (by kernel_rfl))).2 (.inr (Nat.le_refl _)))
      replace e1:=e1.trans f1
      refine reg_call ho hgd (f:=79) Try.func79 (by kernel_rfl) rfl #[.slice A ([ly]:List (List Int)).length c] hop (by simp only[List.map_toArray,List.map_cons,List.map_nil,e1]) ?_
      refine(impl_joined.calls A c [ly] rb w f3 f2 FB).mono ?_
      rintro e w1 ⟨v,rfl,hr,hb⟩
      exact⟨_,rfl,hK _ _ trivial (hG.right (by decide) hb hr) (fun j _ _ h=>hst vals w w1 hb j h)⟩
    | 8,ho,hli,hdp,hK=>
      obtain⟨hop,hds,hgd⟩:=jro (Op.assign (Operand.tmp 23)) 6 ho
      have x1_:a.eval (.tmp 23)=vals 3:=eval_tmp ((hdp 3 (dep_of (by kernel_rfl))).1 23 rfl)
      refine reg_val (w1:=w) ho hgd (vals 3) (by unfold execOp;simp only[hop,x1_];go_simp) ?_
      exact hK _ _ ((upd_same _ _ _).trans (upd_ne _ _ (by decide)).symm) (hG.other (by decide) (by decide) (Below.refl _ _)) (fun _ _ _ h=>h)
    | 9,ho,hli,hdp,hK=>
      obtain⟨hop,hds,hgd⟩:=jro (Op.assign (Operand.tmp 27)) 7 ho
      have x1_:a.eval (.tmp 27)=vals 7:=eval_tmp ((hdp 7 (dep_of (by kernel_rfl))).1 27 rfl)
      refine reg_val (w1:=w) ho hgd (vals 7) (by unfold execOp;simp only[hop,x1_];go_simp) ?_
      exact hK _ _ ((upd_same _ _ _).trans (upd_ne _ _ (by decide)).symm) (hG.other (by decide) (by decide) (Below.refl _ _)) (fun _ _ _ h=>h)
    | k+10,ho,_,_,_=>exact absurd (Array.getElem?_eq_some_iff.1 ho).1 (by rw[hn];omega)
  · intro a w' vals hd hs hf hv hV l hl hall hG
    have ha:=region_act hk hd hs hf hv
    have hN:∀ j,j<10→j<(opsOf Try.f50 4).size:=fun j h=>by rw[hn];exact h
    replace ha:a=((((((((((a0.put (some 20) (vals 0)).put (some 21) (vals 1)).put (some 22) (vals 2)).put (some 23) (vals 3)).put (some 24) (vals 4)).put (some 25) (vals 5)).put (some 26) (vals 6)).put (some 27) (vals 7)).put (some 6) (vals 8)).put (some 7) (vals 9)):=ha.trans (by rw[hn];rfl)
    rw[ha]
    rw[(hV 0 (hN 0 (by omega)) (Nat.le_refl _):vals 0=_),(hV 1 (hN 1 (by omega)) (Nat.le_refl _):vals 1=_),(hV 4 (hN 4 (by omega)) (Nat.le_refl _):vals 4=_),(hV 5 (hN 5 (by omega)) (Nat.le_refl _):vals 5=_),(hV 8 (hN 8 (by omega)) (Nat.le_refl _):vals 8=_),(hV 9 (hN 9 (by omega)) (Nat.le_refl _):vals 9=_)]
    have d3:=hall 3 (hN 3 (by omega))
    have d7:=hall 7 (hN 7 (by omega))
    exact hend w' _ _ _ _ hG.bel (Kd.R_reok rfl (hG.fst d3) (fun k e e2=>hG.two d3 d7 k e e2.symm)) (Kd.R_reok rfl (hG.snd d7) (fun k e e2=>hG.two d3 d7 k e2.symm e))
end Go.Proofs.Ytienlgcjohpphaa.P
namespace Go.Proofs.Ytienlgcjohpphaa.P
open Go.RowKit Go.Proofs.YtienlgcjohpphaaW.PrintWords Go.Proofs.YtienlgcjohpphaaW.PrintLast Go.Proofs.YtienlgcjohpphaaW.PrintMore
attribute [local go_sem] zcn zco zdk zdl zce zcf zcp zcq -- for this text's walks alone
set_option linter.unusedVariables false
set_option linter.unusedSimpArgs false
set_option maxHeartbeats 8000000
set_option maxRecDepth 100000

def spec_Word.f (a0:Int):Option (Int):=some (Go.bits .and .i64 a0 4294967295)
theorem spec_Word.calls (a0:Int) (r:Int) (w:World) (h:spec_Word.f a0=some r):
  Calls Try.prog 69 #[.int .i64 a0] w fun e w'=>e= .returned (.int .i64 r)∧Drawn0 w w':=by
 have H:(some (Go.bits .and .i64 a0 4294967295))=some r:=h
 clear h
 obtain rfl:=Option.some.inj H
 go_enter Try.func69,Try.ntmps69
 go_wp2
 go_ret
 exact⟨by first | rfl | (simp;done) | (simp [*];done),by repeat(first | exact Drawn0.refl _ | apply Drawn0.step)⟩
def spec_Turn.f (a0:Int) (a1:Int):Option (Int):=(spec_Word.f a0).bind fun t101=>(if 0≤(Go.bits .and .i64 a1 31) then(if 0≤(wrap64 (32 - (Go.bits .and .i64 a1 31))) then((spec_Word.f (Go.bits .or .i64 (shl .i64 t101 (Go.bits .and .i64 a1 31)) (shr .i64 t101 (wrap64 (32 - (Go.bits .and .i64 a1 31)))))).bind fun t102=>(some t102)) else(none)) else(none))
theorem spec_Turn.calls (a0:Int) (a1:Int) (r:Int) (w:World) (h:spec_Turn.f a0 a1=some r):
  Calls Try.prog 101 #[.int .i64 a0, .int .i64 a1] w fun e w'=>e= .returned (.int .i64 r)∧Drawn0 w w':=by
 have H:((spec_Word.f a0).bind fun t101=>(if 0≤(Go.bits .and .i64 a1 31) then(if 0≤(wrap64 (32 - (Go.bits .and .i64 a1 31))) then((spec_Word.f (Go.bits .or .i64 (shl .i64 t101 (Go.bits .and .i64 a1 31)) (shr .i64 t101 (wrap64 (32 - (Go.bits .and .i64 a1 31)))))).bind fun t102=>(some t102)) else(none)) else(none)))=some r:=h
 clear h
 obtain⟨t101,A3,H⟩:=bnd H
 by_cases c4:0≤(Go.bits .and .i64 a1 31)
 ·rw[if_pos c4] at H
  have c4b0:=zas c4
  have c4b1:=zab c4
  clear c4
  obtain⟨ji5,hji5⟩:∃ j_:Int,(shl .i64 t101 (Go.bits .and .i64 a1 31))=j_:=⟨_,rfl⟩
  replace H:(if 0≤(wrap64 (32 - (Go.bits .and .i64 a1 31))) then((spec_Word.f (Go.bits .or .i64 (ji5) (shr .i64 t101 (wrap64 (32 - (Go.bits .and .i64 a1 31)))))).bind fun t102=>(some t102)) else(none))=some r:=by first | (rw[hji5] at H;exact H) | (simp only[hji5] at H ⊢;exact H)
  (try rw[hji5] at A3)
  have hji5_:(IntKind.i64.wrap (t101*2 ^ min (Go.bits .and .i64 a1 31).toNat 64))=ji5:=hji5
  have hji5z:(Go.bits .and .i64 a1 31)≤64→(IntKind.i64.wrap (t101*2 ^ (Go.bits .and .i64 a1 31).toNat))=ji5:=shl_small hji5
  have hji5y:(wrap64 (t101*2 ^ min (Go.bits .and .i64 a1 31).toNat 64))=ji5:=(i64_w _).symm.trans hji5_
  have hji5x:(Go.bits .and .i64 a1 31)≤64→(wrap64 (t101*2 ^ (Go.bits .and .i64 a1 31).toNat))=ji5:=fun h_=>(i64_w _).symm.trans (hji5z h_)
  obtain⟨ji6,hji6⟩:∃ j_:Int,(wrap64 (32 - (Go.bits .and .i64 a1 31)))=j_:=⟨_,rfl⟩
  replace H:(if 0≤(ji6) then((spec_Word.f (Go.bits .or .i64 (ji5) (shr .i64 t101 (ji6)))).bind fun t102=>(some t102)) else(none))=some r:=by first | (rw[hji6] at H;exact H) | (simp only[hji6] at H ⊢;exact H)
  (try rw[hji6] at A3)
  have hji6w:(IntKind.i64.wrap (32 - (Go.bits .and .i64 a1 31)))=ji6:=(i64_w _).trans hji6
  by_cases c7:0≤(ji6)
  ·rw[if_pos c7] at H
   have c7b0:=zas c7
   have c7b1:=zab c7
   clear c7
   obtain⟨ji8,hji8⟩:∃ j_:Int,(shr .i64 t101 (ji6))=j_:=⟨_,rfl⟩
   replace H:((spec_Word.f (Go.bits .or .i64 (ji5) (ji8))).bind fun t102=>(some t102))=some r:=by first | (rw[hji8] at H;exact H) | (simp only[hji8] at H ⊢;exact H)
   (try rw[hji8] at A3)
   have hji8_:(t101 / 2 ^ min (ji6).toNat 64)=ji8:=hji8
   have hji8z:(ji6)≤64→(t101 / 2 ^ (ji6).toNat)=ji8:=shr_small hji8
   obtain⟨t102,A9,H⟩:=bnd H
   obtain rfl:=Option.some.inj H
   go_enter Try.func101,Try.ntmps101
   go_wp2_with (first | (go_at_call 69;(with_reducible refine(spec_Word.calls a0 t101 _ A3.out).mono ?_);rintro e w' ⟨rfl,⟨nd,rfl⟩⟩;(try first | exact⟨rfl,_,zcx _ _ _⟩ | exact⟨rfl,_,Eq.trans (zcx _ _ _) (congrArg (World.drewN _) (zfq _ _ _))⟩)) | (go_at_call 69;(with_reducible refine(spec_Word.calls (Go.bits .or .i64 (ji5) (ji8)) t102 _ A9.out).mono ?_);rintro e w' ⟨rfl,⟨nd,rfl⟩⟩;(try first | exact⟨rfl,_,zcx _ _ _⟩ | exact⟨rfl,_,Eq.trans (zcx _ _ _) (congrArg (World.drewN _) (zfq _ _ _))⟩)))
   repeat(go_quiet (first | (go_at_call 69;(with_reducible refine(spec_Word.calls a0 t101 _ A3.out).mono ?_);rintro e w' ⟨rfl,⟨nd,rfl⟩⟩;(try first | exact⟨rfl,_,zcx _ _ _⟩ | exact⟨rfl,_,Eq.trans (zcx _ _ _) (congrArg (World.drewN _) (zfq _ _ _))⟩)) | (go_at_call 69;(with_reducible refine(spec_Word.calls (Go.bits .or .i64 (ji5) (ji8)) t102 _ A9.out).mono ?_);rintro e w' ⟨rfl,⟨nd,rfl⟩⟩;(try first | exact⟨rfl,_,zcx _ _ _⟩ | exact⟨rfl,_,Eq.trans (zcx _ _ _) (congrArg (World.drewN _) (zfq _ _ _))⟩)));try go_wp2_with (first | (go_at_call 69;(with_reducible refine(spec_Word.calls a0 t101 _ A3.out).mono ?_);rintro e w' ⟨rfl,⟨nd,rfl⟩⟩;(try first | exact⟨rfl,_,zcx _ _ _⟩ | exact⟨rfl,_,Eq.trans (zcx _ _ _) (congrArg (World.drewN _) (zfq _ _ _))⟩)) | (go_at_call 69;(with_reducible refine(spec_Word.calls (Go.bits .or .i64 (ji5) (ji8)) t102 _ A9.out).mono ?_);rintro e w' ⟨rfl,⟨nd,rfl⟩⟩;(try first | exact⟨rfl,_,zcx _ _ _⟩ | exact⟨rfl,_,Eq.trans (zcx _ _ _) (congrArg (World.drewN _) (zfq _ _ _))⟩))))
   go_ret
   exact⟨by first | rfl | (simp;done) | (simp only[← hji5, ← hji6, ← hji8] <;> (first | rfl | simp)) | (simp [*];done),by repeat(first | exact Drawn0.refl _ | apply Drawn0.step)⟩
  rw[if_neg c7] at H
  exact absurd H (by simp)
 rw[if_neg c4] at H
 exact absurd H (by simp)
end Go.Proofs.Ytienlgcjohpphaa.P
