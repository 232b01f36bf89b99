import Derived.Test.Ytlalkldjpniakaabk5
import Derived.Deep.RegionLawGrows
/- A region that draws its order, by what each of its operations leaves: one goal for each operation, whatever the order. -/
namespace Go.Proofs.Ytlalkldjpniakaa.P
open Go.RowKit Go.Proofs.YtlalkldjpniakaaW.PrintWords Go.Proofs.YtlalkldjpniakaaW.PrintLast Go.Proofs.YtlalkldjpniakaaW.PrintMore
set_option linter.unusedVariables false
set_option linter.unusedSimpArgs false
theorem grown_setCells5 (w:World) (g o:Nat) (seg:List Value):w.grownBy (w.setCells g o seg) (some g):=by
  obtain⟨s1,s2,s3,s4⟩:=setCells_same g seg o w
  exact⟨s1,s2,s3,Nat.le_of_eq s4.symm,fun k _ hne=>setCells_far seg o k (fun e=>hne (by rw[e]))⟩
def upd (vals:Nat→Value) (i:Nat) (v:Value):Nat→Value:=fun j=>if j=i then v else vals j
theorem upd_same (vals:Nat→Value) (i:Nat) (v:Value):upd vals i v i=v:=if_pos rfl
theorem upd_ne (vals:Nat→Value) {i j:Nat} (v:Value) (h:j≠i):upd vals i v j=vals j:=if_neg h
def dstOf (ops:Array Oper) (j:Nat):Option Nat:=(ops[j]?).bind (·.dst)
def depsOf (ops:Array Oper) (j:Nat):List Nat:=((ops[j]?).map fun o=>(o.after.toList.filter (Region.binds .any)).map (·.on)).getD []
/-- Every operation waits for earlier ones; no two write one slot; each slot is there. -/
def regOk (ops:Array Oper) (n:Nat):Bool:=
  ((List.range ops.size).all fun j=>(depsOf ops j).all fun d=>decide (d<j)) &&
  ((List.range ops.size).all fun j=>match dstOf ops j with | some s=>decide (s<n) && (List.range ops.size).all (fun k=>decide (k=j) || dstOf ops k != some s) | none=>true)
structure RInv (ops:Array Oper) (V:Nat→(Nat→Value)→World→Prop) (G:World→Prop) (cons:Nat→Nat) (a0:Act) (l:Array Bool) (a:Act) (w:World) (vals:Nat→Value):Prop where
  dfr:a.defers=a0.defers
  size:a.tmps.size=a0.tmps.size
  frame:∀ s,(∀ j,j<ops.size→dstOf ops j≠some s)→a.tmps[s]? =a0.tmps[s]?
  slots:∀ j s,l.getD j false=true→dstOf ops j=some s→a.tmps[s]? =some (vals j)
  facts:∀ j,l.getD j false=true→l.getD (cons j) false=false→V j vals w
  closed:∀ j,l.getD j false=true→∀ d∈depsOf ops j,l.getD d false=true
  glob:G w
section
variable {P:Program} {id:Nat} {ops:Array Oper} {Q:Exit→Act→World→Prop}
theorem dst_lt {j s:Nat} (h:dstOf ops j=some s):j<ops.size:=by
  rcases Nat.lt_or_ge j ops.size with h1 | h1
  · exact h1
  · unfold dstOf at h
    rw[Array.getElem?_eq_none h1] at h
    cases h
theorem regOk_dst {n j s:Nat} (hk:regOk ops n=true) (h:dstOf ops j=some s):s<n∧∀ k,k≠j→dstOf ops k≠some s:=by
  unfold regOk at hk
  rw[Bool.and_eq_true] at hk
  have h2:=List.all_eq_true.1 hk.2 j (List.mem_range.2 (dst_lt h))
  rw[h] at h2
  simp only[Bool.and_eq_true,decide_eq_true_eq] at h2
  refine⟨h2.1,fun k hkj e=>?_⟩
  have h3:=List.all_eq_true.1 h2.2 k (List.mem_range.2 (dst_lt e))
  simp [hkj,e] at h3
theorem regOk_deps {n j d:Nat} (hk:regOk ops n=true) (h:d∈depsOf ops j):d<j:=by
  unfold regOk at hk
  rw[Bool.and_eq_true] at hk
  have hj:j<ops.size:=by
    rcases Nat.lt_or_ge j ops.size with h1 | h1
    · exact h1
    · unfold depsOf at h
      rw[Array.getElem?_eq_none h1] at h
      simp at h
  have h2:=List.all_eq_true.1 hk.1 j (List.mem_range.2 hj)
  have h3:=List.all_eq_true.1 h2 d h
  simpa using h3
theorem getD_listed {l:Array Bool} {i j:Nat} (hi:i<l.size):(l.setIfInBounds i true).getD j false=true↔j=i∨l.getD j false=true:=by
  simp only[Array.getD_eq_getD_getElem?]
  by_cases h:j=i
  · subst h
    simp [hi]
  · simp [Array.getElem?_setIfInBounds_ne (Ne.symm h),h]
/-- Region by region: what each operation leaves is told by V; what G tells holds all along; cons j: the operation that uses up what j left (none: the number of operations). -/
theorem region_inv {a0:Act} {w0:World} (hm:P.follows .mixedOrders=true) (V:Nat→(Nat→Value)→World→Prop) (G:World→Prop) (cons:Nat→Nat) (hk:regOk ops a0.tmps.size=true)
    (hcong:∀ j vals vals' w,vals j=vals' j→(∀ d∈depsOf ops j,vals d=vals' d)→V j vals w→V j vals' w)
    (h0:G w0.drew)
    (hstep:∀ i o,ops[i]? =some o→∀ (a:Act) (w:World) (vals:Nat→Value),(∀ s,(∀ j,j<ops.size→dstOf ops j≠some s)→a.tmps[s]? =a0.tmps[s]?)→
      (∀ d∈depsOf ops i,(∀ s,dstOf ops d=some s→a.tmps[s]? =some (vals d))∧((cons d=i∨ops.size≤cons d)→V d vals w))→G w→
      ∀ K:Act→World→Prop,(∀ v w1,V i (upd vals i v) w1→G w1→(∀ k,k≠i→cons k≠i→V k vals w→V k vals w1)→K (a.put o.dst v) w1)→wpOp P ops Q i K a w)
    (hend:∀ (a:Act) (w:World) (vals:Nat→Value),a.defers=a0.defers→a.tmps.size=a0.tmps.size→(∀ s,(∀ j,j<ops.size→dstOf ops j≠some s)→a.tmps[s]? =a0.tmps[s]?)→
      (∀ j s,dstOf ops j=some s→a.tmps[s]? =some (vals j))→(∀ j,j<ops.size→ops.size≤cons j→V j vals w)→G w→Q .normal a w):
    (Code.region id ops true).wp P Q a0 w0:=by
  refine wp_region_any hm ?_
  have key:∀ (fuel:Nat) (l:Array Bool) (a:Act) (w:World) (vals:Nat→Value),l.size=ops.size→RInv ops V G cons a0 l a w vals→((List.range ops.size).filter fun j=> !l.getD j false).length≤fuel→wpAny P .any ops Q fuel l a w:=by
    have hready:∀ (l:Array Bool),l.size=ops.size→Region.ready .any ops l=[]→∀ j,j<ops.size→l.getD j false=true:=by
      intro l hl hr
      intro j
      induction j using Nat.strongRecOn with
      | ind j ih=>
        intro hj
        cases hb:l.getD j false with
        | true=>rfl
        | false=>
          exfalso
          have:j∈Region.ready .any ops l:=by
            rw[mem_ready]
            refine⟨?_,ops[j],Array.getElem?_eq_getElem hj,fun e he hbn=>?_⟩
            · simp only[Array.getD_eq_getD_getElem?,Array.getElem?_eq_getElem (show j<l.size by omega),Option.getD_some] at hb ⊢
              exact hb
            · have hd:e.on∈depsOf ops j:=by
                unfold depsOf
                rw[Array.getElem?_eq_getElem hj]
                simp only[Option.map_some,Option.getD_some]
                exact List.mem_map.2 ⟨e,List.mem_filter.2 ⟨Array.mem_toList_iff.2 he,hbn⟩,rfl⟩
              have hlt:=regOk_deps hk hd
              exact ih e.on hlt (by omega)
          rw[hr] at this
          cases this
    have hfin:∀ (l:Array Bool) (a:Act) (w:World) (vals:Nat→Value),l.size=ops.size→RInv ops V G cons a0 l a w vals→Region.ready .any ops l=[]→Q .normal a w:=by
      intro l a w vals hl hI hr
      have hall:=hready l hl hr
      refine hend a w vals hI.dfr hI.size hI.frame (fun j s hs=>hI.slots j s (hall j (dst_lt hs)) hs) (fun j hj hc=>hI.facts j (hall j hj) ?_) hI.glob
      simp only[Array.getD_eq_getD_getElem?,Array.getElem?_eq_none (show l.size≤cons j by omega)]
      rfl
    intro fuel
    induction fuel with
    | zero=>
      intro l a w vals hl hI hc
      have hr:Region.ready .any ops l=[]:=by
        apply List.eq_nil_iff_forall_not_mem.2
        intro j hj
        have hjr:=(mem_ready.1 hj)
        obtain⟨hun,o,ho,_⟩:=hjr
        have hjl:j<ops.size:=(Array.getElem?_eq_some_iff.1 ho).1
        have:j∈(List.range ops.size).filter fun j=> !l.getD j false:=by
          rw[List.mem_filter,List.mem_range]
          refine⟨hjl,?_⟩
          simp only[Array.getD_eq_getD_getElem?,Array.getElem?_eq_getElem (show j<l.size by omega),Option.getD_some] at hun ⊢
          simp [hun]
        rw[List.eq_nil_of_length_eq_zero (Nat.le_zero.1 hc)] at this
        cases this
      exact⟨hr,hfin l a w vals hl hI hr⟩
    | succ fuel ih=>
      intro l a w vals hl hI hc
      refine⟨hfin l a w vals hl hI,fun i hi=>?_⟩
      obtain⟨hun,o,ho,hdeps⟩:=mem_ready.1 hi
      have hil:i<ops.size:=(Array.getElem?_eq_some_iff.1 ho).1
      have hunl:l.getD i false=false:=by
        simp only[Array.getD_eq_getD_getElem?,Array.getElem?_eq_getElem (show i<l.size by omega),Option.getD_some] at hun ⊢
        exact hun
      have hdl:∀ d∈depsOf ops i,l.getD d false=true:=by
        intro d hd
        unfold depsOf at hd
        rw[ho] at hd
        simp only[Option.map_some,Option.getD_some] at hd
        obtain⟨e,he,rfl⟩:=List.mem_map.1 hd
        obtain⟨he1,he2⟩:=List.mem_filter.1 he
        exact hdeps e (Array.mem_toList_iff.1 he1) he2
      refine hstep i o ho a w vals hI.frame (fun d hd=>⟨fun s hs=>hI.slots d s (hdl d hd) hs,fun hcd=>hI.facts d (hdl d hd) ?_⟩) hI.glob _ (fun v w1 hv hg hst=>?_)
      · rcases hcd with h | h
        · rw[h];exact hunl
        · simp only[Array.getD_eq_getD_getElem?,Array.getElem?_eq_none (show l.size≤cons d by omega)]
          rfl
      · have hil2:i<l.size:=by omega
        refine ih (l.setIfInBounds i true) (a.put o.dst v) w1 (upd vals i v) (by rw[Array.size_setIfInBounds];exact hl) ⟨?_,?_,?_,?_,?_,?_,hg⟩ ?_
        · cases hd:o.dst with
          | none=>exact hI.dfr
          | some d=>exact hI.dfr
        · cases hd:o.dst with
          | none=>exact hI.size
          | some d=>show(a.tmps.setIfInBounds d v).size=_;rw[Array.size_setIfInBounds];exact hI.size
        · intro s hs
          cases hd:o.dst with
          | none=>exact hI.frame s hs
          | some d=>
            have hne:d≠s:=fun e=>hs i hil (by unfold dstOf;rw[ho];show o.dst=_;rw[hd,e])
            show(a.tmps.setIfInBounds d v)[s]? =_
            rw[Array.getElem?_setIfInBounds_ne hne]
            exact hI.frame s hs
        · intro j s hj hs
          have hdi:dstOf ops i=o.dst:=by unfold dstOf;rw[ho];rfl
          by_cases hji:j=i
          · subst hji
            rw[upd_same]
            rw[hdi] at hs
            rw[hs]
            show(a.tmps.setIfInBounds s v)[s]? =_
            have hlt:=(regOk_dst hk (show dstOf ops j=some s by rw[hdi];exact hs)).1
            rw[Array.getElem?_setIfInBounds_self]
            rw[if_pos (by rw[hI.size];exact hlt)]
          · rw[upd_ne vals v hji]
            have hold:=((getD_listed hil2).1 hj).resolve_left hji
            cases hd:o.dst with
            | none=>exact hI.slots j s hold hs
            | some d=>
              have hne:d≠s:=fun e=>(regOk_dst hk hs).2 i (Ne.symm hji) (by rw[hdi,hd,e])
              show(a.tmps.setIfInBounds d v)[s]? =_
              rw[Array.getElem?_setIfInBounds_ne hne]
              exact hI.slots j s hold hs
        · intro j hj hcj
          by_cases hji:j=i
          · subst hji;exact hv
          · have hold:=((getD_listed hil2).1 hj).resolve_left hji
            have hci:cons j≠i:=fun e=>by
              have:=(getD_listed (j:=cons j) hil2).2 (.inl e)
              rw[this] at hcj;cases hcj
            have hcl:l.getD (cons j) false=false:=by
              cases hb:l.getD (cons j) false with
              | false=>rfl
              | true=>
                have:=(getD_listed (j:=cons j) hil2).2 (.inr hb)
                rw[this] at hcj;cases hcj
            refine hcong j vals (upd vals i v) w1 (upd_ne vals v hji).symm (fun d hd=>(upd_ne vals v (fun e=>?_)).symm) (hst j hji hci (hI.facts j hold hcl))
            have:=hI.closed j hold d hd
            rw[e,hunl] at this
            cases this
        · intro j hj d hd
          refine(getD_listed hil2).2 (.inr ?_)
          rcases (getD_listed hil2).1 hj with h | h
          · subst h;exact hdl d hd
          · exact hI.closed j h d hd
        · have hlt:((List.range ops.size).filter fun j=> !(l.setIfInBounds i true).getD j false).length<((List.range ops.size).filter fun j=> !l.getD j false).length:=by
            have hsub:((List.range ops.size).filter fun j=> !(l.setIfInBounds i true).getD j false)=((List.range ops.size).filter fun j=> !l.getD j false).filter (fun j=>decide (j≠i)):=by
              rw[List.filter_filter]
              congr 1
              funext j
              by_cases hji:j=i
              · subst hji
                have:=(getD_listed (j:=j) hil2).2 (.inl rfl)
                simp [this]
              · have:(l.setIfInBounds i true).getD j false=l.getD j false:=by
                  simp only[Array.getD_eq_getD_getElem?,Array.getElem?_setIfInBounds_ne (Ne.symm hji)]
                simp [this,hji]
            rw[hsub]
            refine List.length_filter_lt_length_iff_exists.2 ⟨i,List.mem_filter.2 ⟨List.mem_range.2 hil,by simp [hunl]⟩,by simp⟩
          omega
  have hz:∀ j,(Array.replicate ops.size false).getD j false=false:=by
    intro j
    simp only[Array.getD_eq_getD_getElem?]
    rcases Nat.lt_or_ge j ops.size with h | h
    · simp [h]
    · rw[Array.getElem?_eq_none (by simpa using h)];rfl
  refine key ops.size (Array.replicate ops.size false) a0 _ (fun _=>undef) (by simp) ⟨rfl,rfl,fun _ _=>rfl,fun j s hj=>?_,fun j hj=>?_,fun j hj=>?_,h0⟩ ?_
  · rw[hz j] at hj;cases hj
  · rw[hz j] at hj;cases hj
  · rw[hz j] at hj;cases hj
  · exact Nat.le_trans (List.length_filter_le _ _) (by simp)
/-- The act at the region's end. -/
theorem region_act {a0 a:Act} {vals:Nat→Value} (hk:regOk ops a0.tmps.size=true) (hd:a.defers=a0.defers) (hs:a.tmps.size=a0.tmps.size) (hf:∀ s,(∀ j,j<ops.size→dstOf ops j≠some s)→a.tmps[s]? =a0.tmps[s]?) (hv:∀ j s,dstOf ops j=some s→a.tmps[s]? =some (vals j)):
    a=(List.range ops.size).foldl (fun b j=>b.put (dstOf ops j) (vals j)) a0:=by
  have hfold:∀ (L:List Nat) (b:Act),b.tmps.size=a0.tmps.size→(∀ j∈L,j<ops.size)→
      ((L.foldl (fun b j=>b.put (dstOf ops j) (vals j)) b).defers=b.defers)∧((L.foldl (fun b j=>b.put (dstOf ops j) (vals j)) b).tmps.size=a0.tmps.size)∧
      (∀ s,(∀ j∈L,dstOf ops j≠some s)→(L.foldl (fun b j=>b.put (dstOf ops j) (vals j)) b).tmps[s]? =b.tmps[s]?)∧(∀ j∈L,∀ s,dstOf ops j=some s→(L.foldl (fun b j=>b.put (dstOf ops j) (vals j)) b).tmps[s]? =some (vals j)):=by
    intro L
    induction L with
    | nil=>intro b hb _;exact⟨rfl,hb,fun _ _=>rfl,fun j hj=>by cases hj⟩
    | cons x L ih=>
      intro b hb hL
      have hb1:(b.put (dstOf ops x) (vals x)).tmps.size=a0.tmps.size:=by
        cases dstOf ops x with
        | none=>exact hb
        | some d=>show(b.tmps.setIfInBounds d _).size=_;rw[Array.size_setIfInBounds];exact hb
      obtain⟨i1,i2,i3,i4⟩:=ih (b.put (dstOf ops x) (vals x)) hb1 (fun j hj=>hL j (List.mem_cons_of_mem _ hj))
      refine⟨i1.trans (by cases dstOf ops x <;> rfl),i2,fun s hs=>?_,fun j hj s hjs=>?_⟩
      · refine(i3 s (fun j hj=>hs j (List.mem_cons_of_mem _ hj))).trans ?_
        cases hx:dstOf ops x with
        | none=>rfl
        | some d=>
          have hne:d≠s:=fun e=>hs x List.mem_cons_self (by rw[hx,e])
          show(b.tmps.setIfInBounds d _)[s]? =_
          rw[Array.getElem?_setIfInBounds_ne hne]
      · by_cases hmem:j∈L
        · exact i4 j hmem s hjs
        · have hjx:j=x:=(List.mem_cons.1 hj).resolve_right hmem
          subst hjx
          have hno:∀ k∈L,dstOf ops k≠some s:=fun k hk2=>(regOk_dst hk hjs).2 k (fun e=>hmem (e ▸ hk2))
          refine(i3 s hno).trans ?_
          rw[hjs]
          show(b.tmps.setIfInBounds s _)[s]? =_
          rw[Array.getElem?_setIfInBounds_self,if_pos (by rw[hb];exact(regOk_dst hk hjs).1)]
  obtain⟨f1,f2,f3,f4⟩:=hfold (List.range ops.size) a0 rfl (fun j hj=>List.mem_range.1 hj)
  have ht:a.tmps=((List.range ops.size).foldl (fun b j=>b.put (dstOf ops j) (vals j)) a0).tmps:=by
    apply Array.ext_getElem?
    intro s
    by_cases h:∃ j,j<ops.size∧dstOf ops j=some s
    · obtain⟨j,hj,hjs⟩:=h
      rw[hv j s hjs,f4 j (List.mem_range.2 hj) s hjs]
    · have h1:∀ j,j<ops.size→dstOf ops j≠some s:=fun j hj e=>h ⟨j,hj,e⟩
      rw[hf s h1,f3 s (fun j hj=>h1 j (List.mem_range.1 hj))]
  cases a with
  | mk t d=>
    have h1:t=_:=ht
    have h2:d=_:=hd.trans f1.symm
    rw[h1,h2]
/-! The steps. -/
variable {i:Nat} {o:Oper} {a:Act} {w w1:World} {K:Act→World→Prop}
theorem reg_if (hi:ops[i]? =some o) (h:if Region.wanted o (yielded ops a.tmps)=true then Oper.wp P o a w K Q else K (a.put o.dst undef) w):wpOp P ops Q i K a w:=by
  unfold wpOp
  simp only[hi]
  split
  · rename_i hw
    rw[if_pos hw] at h
    exact .inl h
  · rename_i hw
    rw[if_neg hw] at h
    exact h
theorem reg_wanted (hg:o.guard=none):Region.wanted o (yielded ops a.tmps)=true:=by
  unfold Region.wanted
  rw[hg]
theorem reg_val (hi:ops[i]? =some o) (hg:o.guard=none) (v:Value) (hrun:(execOp a.eval o).run P w= .ok (.value v) w1) (h:K (a.put o.dst v) w1):wpOp P ops Q i K a w:=by
  refine reg_if hi ?_
  rw[if_pos (reg_wanted hg)]
  unfold Oper.wp
  rw[hrun]
  exact h
theorem reg_skip (hi:ops[i]? =some o) (hg:o.guard=none) (hrun:(execOp a.eval o).run P w= .ok .skip w1) (h:K (a.put o.dst undef) w1):wpOp P ops Q i K a w:=by
  refine reg_if hi ?_
  rw[if_pos (reg_wanted hg)]
  unfold Oper.wp
  rw[hrun]
  exact h
theorem reg_call (hi:ops[i]? =some o) (hg:o.guard=none) {f:FuncId} {fn:Func} {as_:Array Operand} {ts:Array TypeId} (hf:P.funcs[f]? =some fn) (hname:(fn.name== "runtime.NumGoroutine")=false) (hb:fn.body.isSome=true) (args:Array Value)
    (hop:o.op= .call {callee:= .value (.func f),args:=as_,argTypes:=ts}) (hargs:as_.map a.eval=args) (h:Calls P f args w fun e w'=>∃ v,e= .returned v∧K (a.put o.dst v) w'):wpOp P ops Q i K a w:=
  reg_if hi (goes_ hf hname hb args (reg_wanted hg) rfl hop hargs h)
theorem eval_tmp {s:Nat} {v:Value} (h:a.tmps[s]? =some v):a.eval (.tmp s)=v:=by
  show a.tmps.getD s undef=v
  rw[Array.getD_eq_getD_getElem?,h]
  rfl
end
theorem put_none (a:Act) (v:Value):a.put none v=a:=rfl
def opAt (ops:Array Oper) (i:Nat):Option (Op×Option Tmp×Option (Nat×Bool)):=(ops[i]?).map fun o=>(o.op,o.dst,o.guard)
theorem reg_op {ops:Array Oper} {i:Nat} {o:Oper} {op:Op} {d:Option Tmp} {g:Option (Nat×Bool)} (h:opAt ops i=some (op,d,g)) (ho:ops[i]? =some o):o.op=op∧o.dst=d∧o.guard=g:=by
  unfold opAt at h
  rw[ho] at h
  simp only[Option.map_some,Option.some.injEq,Prod.mk.injEq] at h
  exact h
theorem dep_of {ops:Array Oper} {i d:Nat} (h:(depsOf ops i).contains d=true):d∈depsOf ops i:=by simpa using h
theorem not_dst {ops:Array Oper} {s:Nat} (h:((List.range ops.size).all fun j=>dstOf ops j != some s)=true):∀ j,j<ops.size→dstOf ops j≠some s:=fun j hj e=>by
  have:=List.all_eq_true.1 h j (List.mem_range.2 hj)
  simp [e] at this
/-- append onto a slice of no capacity: nothing that was is written. -/
theorem reg_app0 {P:Program} {ops:Array Oper} {Q:Exit→Act→World→Prop} {i:Nat} {o:Oper} {a:Act} {w:World} {K:Act→World→Prop} (hi:ops[i]? =some o) (hg:o.guard=none) (s x:Operand) (t e:TypeId) (hop:o.op=Op.call {callee:=Callee.builtin Builtin.append,args:= #[s,x],argTypes:= #[t,t]})
    (ht:P.underlying t=some (.slice e)) (hinfo:(P.info? e).map (fun i=>(i.zero,i.size,i.bytes))=some (some (.int .u8 0),1,1)) {A0 A1:Option Addr} {c1:Nat} {ys:List Int} (b:Nat) (hb:b≤w.heap.size) (hs:a.eval s= .slice A0 0 0) (HO:Kd.R (Kd.int .u8) e w b (fun _=>True) (.slice A0 0 0) [])
    (hx:a.eval x= .slice A1 ys.length c1) (HC:Kd.C (Kd.int .u8) w A1 ys.length ys) (hm:ys.length≤140737488355328)
    (h:∀ v1 w1,Kd.R (Kd.int .u8) e w1 b (fun _=>True) v1 ys→Below w.heap.size w w1→K (a.put o.dst v1) w1):wpOp P ops Q i K a w:=by
  obtain⟨ti,hti,hz⟩:=Option.map_eq_some_iff.1 hinfo
  simp only[Prod.mk.injEq] at hz
  obtain⟨hz1,hz2,hz3⟩:=hz
  refine reg_if hi ?_
  rcases Nat.eq_zero_or_pos ys.length with h0 | h0
  · obtain rfl:ys=[]:=List.eq_nil_of_length_eq_zero h0
    have hrun:(Builtin.append_ #[t,t] o.type #[.slice A0 0 0, .slice A1 0 c1]).run P w= .ok (.slice A0 0 0) w:=by
      cases A0 <;> cases A1 <;> simp [Builtin.append_,run_underlying ht,sizeOf,typeInfo,hti,Builtin.lenOf,Builtin.firstCells,storeCells,loadCells,loadCellsFrom,Result.andThen]
    rw[if_pos (reg_wanted hg)]
    unfold Oper.wp execOp
    simp only[hop,resolve,invoke,builtin,Sem.run_bind,Sem.run_pure,Result.andThen_ok,List.map_toArray,List.map_cons,List.map_nil,hs,hx,List.length_nil,hrun]
    exact h _ _ HO (Below.refl _ _)
  · obtain⟨ad1,rfl,hcB⟩:=HC.2.2 h0
    have cells:∀ j u,(ys.map (Value.int .u8))[j]? =some u→w.cell? (ad1.add j)=some u:=by
      intro j u hj
      rw[List.getElem?_map] at hj
      obtain⟨z,hz,rfl⟩:=Option.map_eq_some_iff.1 hj
      obtain⟨c,hc1,hc2,hc3⟩:=hcB j z hz
      have h3:=hc3 0 (.int .u8 z) (by rw[hc2];rfl)
      rw[show j*(Kd.int .u8).sz+0=j from by show j*1+0=j;omega] at h3
      exact h3
    refine step_append_grows hg s x t hop e ti (.int .u8 0) 1 1 ht hti hz1 hz2 hz3 rfl (by decide) A0 0 0 [] hs (fun _=>⟨rfl,rfl⟩) rfl (fun _ _ j u hj=>by simp at hj) ad1 ys.length c1 (ys.map (Value.int .u8)) hx (by rw[List.length_map];omega) cells (fun u hu=>by obtain⟨z,_,rfl⟩:=List.mem_map.1 hu;rfl) (by omega) (by unfold maxLen;omega) (by omega) ?_
    intro v' w' ho hgr
    refine h v' w' ?_ ⟨hgr.os,hgr.tape,hgr.output,hgr.size,fun j hj=>hgr.block j hj (by simp)⟩
    simp only[List.nil_append,Nat.zero_add] at ho
    exact Kd.R_lower (Kd.R_of_own (enc:=Value.int .u8) (h1:=fun _=>rfl) ho.lax (fun _ _=>trivial)) hb
/-- '[]byte{}': a row of no capacity. -/
theorem reg_lit0 {P:Program} {ops:Array Oper} {Q:Exit→Act→World→Prop} {i:Nat} {o:Oper} {a:Act} {w:World} {K:Act→World→Prop} (hi:ops[i]? =some o) (hg:o.guard=none) (e:TypeId) (hrun:(execOp a.eval o).run P w= .ok (.value (.slice (some ⟨w.heap.size,0,none⟩) 0 0)) (w.alloc (.cells #[] e))) (b:Nat) (hb:b≤w.heap.size)
    (h:∀ (A:Option Addr) w1,Kd.R (Kd.int .u8) e w1 b (fun _=>True) (.slice A 0 0) []→Below w.heap.size w w1→K (a.put o.dst (.slice A 0 0)) w1):wpOp P ops Q i K a w:=by
  refine reg_val hi hg _ hrun (h _ _ ⟨fun _ _=>trivial,[],?_,Reps.none _ _⟩ (below_alloc (Below.refl _ _) _))
  exact(World.ownsRow_lit (base:=b) (e:=e) (size:=1) w #[] 0 hb (by simp [maxLen]) rfl).lax
/-- A variable is written whole. -/
theorem store_whole {P:Program} {W:World} {g ty:Nat} {old new:List Value} {v:Value} (hb:W.heap[g]? =some (.cells old.toArray ty (0,0))) (hlen:new.length=old.length) (hv:v.cells.toList=new) (hsz:(P.info? ty).map (·.size)=some new.length) (h1:∀ u∈new,u.oneCell'=true) (hp:0<new.length):
    ∃ w1,(Instr.storeAt ty (.pointer (some ⟨g,0,none⟩)) v).run P W= .ok () w1∧W.grownBy w1 (some g)∧w1.heap[g]? =some (.cells new.toArray ty (0,0)):=by
  obtain⟨cur',c1,c2,c3⟩:=setCells_row new 0 W old.toArray hb (by simp [hlen])
  have hcur:cur'=new.toArray:=by
    apply Array.toList_inj.1
    rw[c3];simp [hlen]
  subst hcur
  exact⟨_,run_store_run ty _ _ hb hv hsz (by simp [hlen]) h1,grown_setCells5 W g 0 _,c1⟩
theorem reads_of_C_u8 {w:World} {A:Option Addr} {n:Nat} {xs:List Int} (h:Kd.C (Kd.int .u8) w A n xs):ReadsInt w .u8 A n xs:=readsInt_of.2 (Kd.reads_of_C (d:=(0:Int)) h)
theorem put_whole {P:Program} {ops:Array Oper} {rest:List Oper} {o:Oper} {a:Act} {Q:Exit→Act→World→Prop} {W:World} (t:TypeId) (hN:o.dst=none) (hgd:o.guard=none) (p x:Operand) (ho:o.op= .store t p x) {g:Nat} {old:List Value} (new:List Value) (v:Value)
    (haddr:a.eval p= .pointer (some ⟨g,0,none⟩)) (hx:a.eval x=v) (hb:W.heap[g]? =some (.cells old.toArray t (0,0))) (hlen:new.length=old.length) (hv:v.cells.toList=new) (hsz:(P.info? t).map (·.size)=some new.length) (h1:∀ u∈new,u.oneCell'=true) (hp:0<new.length)
    (h:∀ w1,W.grownBy w1 (some g)→w1.heap[g]? =some (.cells new.toArray t (0,0))→wpList P ops Q rest a w1):wpList P ops Q (o :: rest) a W:=by
  obtain⟨w1,s1,s2,s3⟩:=store_whole (P:=P) hb hlen hv hsz h1 hp
  refine wpList_plain hgd fun K hK=>?_
  unfold Oper.wp execOp
  simp only[ho,haddr,hx,Sem.run_bind,Sem.run_pure,Result.andThen_ok,s1]
  show K (a.put o.dst undef) _
  rw[hN]
  exact hK a _ (h _ s2 s3)
theorem cell_u8 {w:World} {ad:Addr} {xs:List Int} (h:Kd.C (Kd.int .u8) w (some ad) xs.length xs) (i:Int) (h0:0≤i) (h1:i<(xs.length:Int)):w.cell? (ad.add i.toNat)=some (.int .u8 (rd xs i)):=by
  obtain⟨ad',e,hc⟩:=(reads_of_C_u8 h).at_ i h0 h1
  injection e with e
  subst e
  exact hc
theorem cut_u8 {P:Program} (t e:TypeId) {z:Option Value} {by_:Nat} (ht:P.underlying t=some (.slice e)) (hinfo:(P.info? e).map (fun i=>(i.zero,i.size,i.bytes))=some (z,1,by_)) (A:Option Addr) (c:Nat) (xs:List Int) (lo hi:Int) (h0:0≤lo) (h1:lo≤hi) (h2:hi≤(xs.length:Int)) (hc:xs.length≤c):
    ∃ A' c',(∀ W:World,(Instr.slice t (.slice A xs.length c) (some (.int .i64 lo)) (some (.int .i64 hi)) none).run P W= .ok (.slice A' ((xs.take hi.toNat).drop lo.toNat).length c') W)∧((xs.take hi.toNat).drop lo.toNat).length≤c'∧
      ∀ w:World,Kd.C (Kd.int .u8) w A xs.length xs→Kd.C (Kd.int .u8) w A' ((xs.take hi.toNat).drop lo.toNat).length ((xs.take hi.toNat).drop lo.toNat):=by
  obtain⟨i,hi1,hz⟩:=Option.map_eq_some_iff.1 hinfo
  simp only[Prod.mk.injEq] at hz
  obtain⟨A',r1,r2,r3⟩:=print_mid_int (P:=P) (k:= .u8) t e ht hi1 hz.2.1 A c xs lo hi h0 h1 h2 hc
  exact⟨A',_,r1,r3,fun w h=>Kd.C_of_reads (r2 w (reads_of_C_u8 h))⟩
/-- Some cells of a variable are written. -/
theorem put_part {P:Program} {ops:Array Oper} {rest:List Oper} {o:Oper} {a:Act} {Q:Exit→Act→World→Prop} {W:World} (t ty:TypeId) (hN:o.dst=none) (hgd:o.guard=none) (p x:Operand) (ho:o.op= .store t p x) {g j:Nat} {old:List Value} (seg new:List Value) (v:Value)
    (haddr:a.eval p= .pointer (some ⟨g,j,none⟩)) (hx:a.eval x=v) (hb:W.heap[g]? =some (.cells old.toArray ty (0,0))) (hv:v.cells.toList=seg) (hfit:j+seg.length≤old.length) (hnew:old.take j++seg++old.drop (j+seg.length)=new) (hsz:(P.info? t).map (·.size)=some seg.length) (h1:∀ u∈seg,u.oneCell'=true)
    (h:∀ w1,W.grownBy w1 (some g)→w1.heap[g]? =some (.cells new.toArray ty (0,0))→wpList P ops Q rest a w1):wpList P ops Q (o :: rest) a W:=by
  obtain⟨cur',c1,c2,c3⟩:=setCells_row seg j W old.toArray hb (by simpa using hfit)
  have hcur:cur'=new.toArray:=by
    apply Array.toList_inj.1
    rw[c3];simpa using hnew
  subst hcur
  have s1:=run_store_run (P:=P) t v seg hb hv hsz (by simpa using hfit) h1
  refine wpList_plain hgd fun K hK=>?_
  unfold Oper.wp execOp
  simp only[ho,haddr,hx,Sem.run_bind,Sem.run_pure,Result.andThen_ok,s1]
  show K (a.put o.dst undef) _
  rw[hN]
  exact hK a _ (h _ (grown_setCells5 W g j _) c1)
theorem cut_u8_from {P:Program} (t e:TypeId) {z:Option Value} {by_:Nat} (ht:P.underlying t=some (.slice e)) (hinfo:(P.info? e).map (fun i=>(i.zero,i.size,i.bytes))=some (z,1,by_)) (A:Option Addr) (c:Nat) (xs:List Int) (lo:Int) (h0:0≤lo) (h2:lo≤(xs.length:Int)) (hc:xs.length≤c):
    ∃ A' c',(∀ W:World,(Instr.slice t (.slice A xs.length c) (some (.int .i64 lo)) none none).run P W= .ok (.slice A' (xs.drop lo.toNat).length c') W)∧(xs.drop lo.toNat).length≤c'∧
      ∀ w:World,Kd.C (Kd.int .u8) w A xs.length xs→Kd.C (Kd.int .u8) w A' (xs.drop lo.toNat).length (xs.drop lo.toNat):=by
  obtain⟨i,hi1,hz⟩:=Option.map_eq_some_iff.1 hinfo
  simp only[Prod.mk.injEq] at hz
  have hl:(xs.drop lo.toNat).length=xs.length - lo.toNat:=List.length_drop
  refine⟨_,c - lo.toNat,fun W=>(cut_from t e .i64 ht hi1 1 hz.2.1 A xs.length c lo h0 h2 W).trans (by rw[hl]),by rw[hl];omega,fun w h=>?_⟩
  exact Kd.C_drop h (by omega) hc
theorem cut_u8_to {P:Program} (t e:TypeId) {z:Option Value} {by_:Nat} (ht:P.underlying t=some (.slice e)) (hinfo:(P.info? e).map (fun i=>(i.zero,i.size,i.bytes))=some (z,1,by_)) (A:Option Addr) (c:Nat) (xs:List Int) (hi:Int) (h0:0≤hi) (h2:hi≤(xs.length:Int)) (hc:xs.length≤c):
    ∃ A' c',(∀ W:World,(Instr.slice t (.slice A xs.length c) none (some (.int .i64 hi)) none).run P W= .ok (.slice A' (xs.take hi.toNat).length c') W)∧(xs.take hi.toNat).length≤c'∧
      ∀ w:World,Kd.C (Kd.int .u8) w A xs.length xs→Kd.C (Kd.int .u8) w A' (xs.take hi.toNat).length (xs.take hi.toNat):=by
  obtain⟨i,hi1,hz⟩:=Option.map_eq_some_iff.1 hinfo
  have hl:(xs.take hi.toNat).length=hi.toNat:=by rw[List.length_take];omega
  refine⟨A,c,fun W=>(cut_to t e .i64 ht hi1 A xs.length c hi h0 h2 hc W).trans (by rw[hl]),by rw[hl];omega,fun w h=>?_⟩
  exact Kd.C_take h (by omega)
theorem jdv {P D:Prop} (h:D) (t:D→P:=by intro h_;exact(eval_tmp ((h_ (dep_of (by kernel_rfl))).1 _ rfl)).trans ((h_ (dep_of (by kernel_rfl))).2 (.inr (Nat.le_refl _)))):P:=t h
theorem jfr {P D E:Prop} (h:D) (e:E) (t:D→E→P:=by intro h_ e_;exact eval_tmp ((h_ (not_dst (by kernel_rfl))).trans e_)):P:=t h e
/-- What is told of each operation outlasts what is below. -/
def jSta (V:Nat→(Nat→Value)→World→Prop):Prop:=∀ (vals:Nat→Value) (w_ w1:World),Below w_.heap.size w_ w1→∀ j,V j vals w_→V j vals w1
abbrev jV {V:Nat→(Nat→Value)→World→Prop} (_:jSta V):Nat→(Nat→Value)→World→Prop:=V
theorem jro {ops:Array Oper} {i:Nat} {o:Oper} (op:Op) (n:Tmp) (ho:ops[i]? =some o) (h:opAt ops i=some (op,some n,none):=by kernel_rfl):o.op=op∧o.dst=some n∧o.guard=none:=reg_op h ho
theorem jrx {P:Program} {ops:Array Oper} {Q:Exit→Act→World→Prop} {i:Nat} {o:Oper} {a:Act} {w:World} {K:Act→World→Prop} {C:Value→World→Prop} {G D:World→Prop} (ho:ops[i]? =some o) (hg:o.guard=none) (hK:∀ v w1,C v w1→G w1→D w1→K (a.put o.dst v) w1) (hG:G w) (v:Value)
    (hrun:(execOp a.eval o).run P w= .ok (.value v) w:=by unfold execOp;(first | simp only[hop,x1_,x2_] | simp only[hop,x1_] | simp only[hop]);go_simp) (hC:C v w:=by exact upd_same _ _ _) (hD:D w:=by exact fun _ _ _ h=>h):wpOp P ops Q i K a w:=reg_val (w1:=w) ho hg v hrun (hK v w hC hG hD)
end Go.Proofs.Ytlalkldjpniakaa.P
