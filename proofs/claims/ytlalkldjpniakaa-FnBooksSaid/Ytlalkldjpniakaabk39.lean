import Derived.Test.Ytlalkldjpniakaabk38
import Derived.Test.Ytlalkldjpniakaabk29
/- A queue's functions, by the program and by the reference: Due, Put, Take; for lists of at most 2^20 items, none longer than 2^40. -/
namespace Go.Proofs.Ytlalkldjpniakaa.B
open Go.RowKit Go.Proofs.Ytlalkldjpniakaa.P Go.Proofs.YtlalkldjpniakaaW.PrintWords Go.Proofs.YtlalkldjpniakaaW.PrintLast Go.Proofs.YtlalkldjpniakaaW.PrintMore
set_option linter.unusedSimpArgs false
def small (x:S34):Prop:=x.f0.size≤1099511627776∧x.f3.length≤1099511627776
theorem specItem (a:ByteArray) (n m:Int) (b:List Int) (hb:b.length≤1099511627776):spec_l13Item.f a n m b=some (a,n,m,b):=by
  unfold spec_l13Item.f
  simp only[Option.bind_some,List.length_nil,List.nil_append]
  rw[if_pos (by omega)]
theorem implItem (a:ByteArray) (n m:Int) (b:List Int) (hb:b.length≤1099511627776):impl_cloneItem.f a n m b=some (a,n,m,b):=by
  unfold impl_cloneItem.f slices_Clone_byte_byte.f
  rw[if_pos (by omega),Option.bind_some]
theorem specQueue_l0:∀ (rest pre:List S34),(∀ x∈rest,small x)→(pre++rest).length≤2097152→Ev (fun k=>spec_l13Queue.l0 k (pre++rest) pre (pre.length:Nat)) (pre++rest)
  | [],pre,hs,hl=>by
    refine evUp ?_
    simp only[spec_l13Queue.l0]
    refine evNeg (by simp) ?_
    rw[List.append_nil]
    exact evConst _
  | x :: rest,pre,hs,hl=>by
    have hl2:(pre++x :: rest).length=pre.length+(rest.length+1):=by simp
    have ih:=specQueue_l0 rest (pre++[x]) (fun y hy=>hs y (List.mem_cons_of_mem _ hy)) (by simp;omega)
    have es:wrap64 ((pre.length:Int)+1)=(((pre++[x]).length:Nat):Int):=wrap_step pre x (by omega)
    rw[← snoc_app] at ih
    refine evUp ?_
    simp only[spec_l13Queue.l0,rdT34_mid,es,specItem x.f0 x.f1 x.f2 x.f3 (hs x List.mem_cons_self).2,Option.bind_some]
    exact evPos (by omega) (evPos (by omega) (evPos (by omega) ih))
theorem specQueue (l:List S34) (hs:∀ x∈l,small x) (hl:l.length≤2097152):Ev (fun k=>spec_l13Queue.f k l) l:=specQueue_l0 l [] hs hl
theorem implItems_l0 (L:List S34) (n:Int) (hn:n=(L.length:Int)) (hl:L.length≤2097152) (hs:∀ x∈L,small x):∀ (rest pre:List S34),L=pre++rest→Ev (fun k=>impl_cloneItems.l0 k pre L n (pre.length:Nat)) L
  | [],pre,e=>by
    refine evUp ?_
    simp only[impl_cloneItems.l0]
    have:L=pre:=by rw[e,List.append_nil]
    rw[this] at hn ⊢
    exact evNeg (by omega) (evConst _)
  | x :: rest,pre,e=>by
    have hl2:L.length=pre.length+(rest.length+1):=by rw[e];simp
    have ih:=implItems_l0 L n hn hl hs rest (pre++[x]) (by rw[e];simp)
    have es:wrap64 ((pre.length:Int)+1)=(((pre++[x]).length:Nat):Int):=wrap_step pre x (by omega)
    have e2:rd_T34 L ((pre.length:Nat):Int)=x:=by rw[e];exact rdT34_mid pre x rest
    refine evUp ?_
    simp only[impl_cloneItems.l0,e2,es,implItem x.f0 x.f1 x.f2 x.f3 (hs x (by rw[e];simp)).2,Option.bind_some]
    exact evPos (by omega) (evPos (by omega) (evPos (by omega) (evPos (by omega) ih)))
theorem implItems (l:List S34) (hs:∀ x∈l,small x) (hl:l.length≤2097152):Ev (fun k=>impl_cloneItems.f k l) l:=implItems_l0 l _ rfl hl hs l [] rfl
/-! ### Due -/
def dueL (n:Int) (l:List S34):List S34:=l.filter fun x=> !decide (x.f2<n)
theorem specDue_l0 (n:Int) (L:List S34) (hl:L.length≤2097152) (hs:∀ x∈L,small x):∀ (rest pre acc:List S34),L=pre++rest→acc.length≤pre.length→Ev (fun k=>spec_Due.l0 k L n acc (pre.length:Nat)) (acc++dueL n rest)
  | [],pre,acc,e,ha=>by
    refine evUp ?_
    simp only[spec_Due.l0,dueL,List.filter_nil,List.append_nil]
    exact evNeg (by rw[e];simp) (evConst _)
  | x :: rest,pre,acc,e,ha=>by
    have hl2:L.length=pre.length+(rest.length+1):=by rw[e];simp
    have es:wrap64 ((pre.length:Int)+1)=(((pre++[x]).length:Nat):Int):=wrap_step pre x (by omega)
    have e2:rd_T34 L ((pre.length:Nat):Int)=x:=by rw[e];exact rdT34_mid pre x rest
    refine evUp ?_
    simp only[spec_Due.l0,e2,es,specItem x.f0 x.f1 x.f2 x.f3 (hs x (by rw[e];simp)).2,Option.bind_some]
    refine evPos (by omega) (evPos (by omega) ?_)
    by_cases c:x.f2≥n
    · refine evPos c (evPos (by omega) ?_)
      have ih:=specDue_l0 n L hl hs rest (pre++[x]) (acc++[x]) (by rw[e];simp) (by simp;omega)
      have:acc++dueL n (x :: rest)=acc++[x]++dueL n rest:=by
        unfold dueL
        rw[List.filter_cons_of_pos (by simp;omega)];simp
      rw[this];exact ih
    · refine evNeg c ?_
      have ih:=specDue_l0 n L hl hs rest (pre++[x]) acc (by rw[e];simp) (by simp;omega)
      have:dueL n (x :: rest)=dueL n rest:=by
        unfold dueL
        rw[List.filter_cons_of_neg (by simp;omega)]
      rw[this];exact ih
theorem specDue (n:Int) (l:List S34) (hs:∀ x∈l,small x) (hl:l.length≤2097152):Ev (fun k=>spec_Due.f k l n) (dueL n l):=specDue_l0 n l hl hs l [] [] rfl (Nat.le_refl _)
theorem implDue (n:Int) (l:List S34) (hs:∀ x∈l,small x) (hl:l.length≤2097152):Ev (fun k=>impl_Due.f k l n) (dueL n l):=by
  unfold impl_Due.f
  exact evBind (implItems l hs hl) (evConst _)
theorem dueL_due {n:Int} {l:List S34} {x:S34} (h:x∈dueL n l):¬x.f2<n:=by
  have:=(List.mem_filter.1 h).2
  simpa using this
/-! ### Put -/
noncomputable def putL (L:List S34) (a:ByteArray) (n m:Int) (b:List Int):List S34×Bool:=if queueOkL (putI a n L++[⟨a,n,m,b⟩])=true then(putI a n L++[⟨a,n,m,b⟩],true) else(L,false)
theorem putI_mem {a:ByteArray} {n:Int} {l:List S34} {x:S34} (h:x∈putI a n l):x∈l:=by
  unfold putI at h
  split at h
  · exact(List.mem_filter.1 h).1
  · exact h
theorem putI_len (a:ByteArray) (n:Int) (l:List S34):(putI a n l).length≤l.length:=by
  unfold putI
  split
  · exact List.length_filter_le _ _
  · exact Nat.le_refl _
theorem putL_small {L:List S34} {a:ByteArray} {n m:Int} {b:List Int} (hs:∀ x∈L,small x) (hx:small ⟨a,n,m,b⟩):∀ x∈(putL L a n m b).1,small x:=by
  intro x h
  unfold putL at h
  split at h
  · rcases List.mem_append.1 h with h | h
    · exact hs x (putI_mem h)
    · rw[List.mem_singleton.1 h];exact hx
  · exact hs x h
theorem putL_len (L:List S34) (a:ByteArray) (n m:Int) (b:List Int):(putL L a n m b).1.length≤L.length+1:=by
  unfold putL
  have:=putI_len a n L
  split
  · simp;omega
  · simp
theorem putI_keep {a:ByteArray} {n:Int} {x:S34} (l:List S34) (h:n≤0∨likeI a n x=false):putI a n (x :: l)=x :: putI a n l:=by
  unfold putI
  by_cases c:n>0
  · rw[if_pos c,if_pos c,List.filter_cons_of_pos]
    rcases h with h | h
    · omega
    · rw[h];rfl
  · rw[if_neg c,if_neg c]
theorem putI_skip {a:ByteArray} {n:Int} {x:S34} (l:List S34) (h0:n>0) (h:likeI a n x=true):putI a n (x :: l)=putI a n l:=by
  unfold putI
  rw[if_pos h0,if_pos h0,List.filter_cons_of_neg]
  rw[h];decide
theorem specPut_l0 (a:ByteArray) (n m:Int) (b:List Int) (hx:small ⟨a,n,m,b⟩) (L:List S34) (hl:L.length≤1048577) (hs:∀ x∈L,small x):∀ (rest pre acc:List S34),L=pre++rest→acc.length≤pre.length→acc++putI a n rest=putI a n L→
    Ev (fun k=>spec_Put.l0 k L acc (pre.length:Nat) a n m b) (putL L a n m b)
  | [],pre,acc,e,ha,hp=>by
    have hp2:acc=putI a n L:=by rw[← hp];unfold putI;split <;> simp
    have hpl:=putI_len a n L
    refine evUp ?_
    simp only[spec_Put.l0,specItem a n m b hx.2,Option.bind_some]
    refine evNeg (by rw[e];simp) (evPos (by rw[hp2];omega) ?_)
    rw[hp2]
    have hsm:∀ y∈putI a n L++[(⟨a,n,m,b⟩:S34)],y.f0.size≤1099511627776:=by
      intro y hy
      rcases List.mem_append.1 hy with h | h
      · exact(hs y (putI_mem h)).1
      · rw[List.mem_singleton.1 h];exact hx.1
    refine evBind (specQueueOk _ (by simp;omega) hsm) ?_
    unfold putL
    by_cases c:queueOkL (putI a n L++[⟨a,n,m,b⟩])=true
    · rw[if_pos c];exact evPos c (evConst _)
    · rw[if_neg c]
      exact evNeg c (evBind (specQueue L hs (by omega)) (evConst _))
  | x :: rest,pre,acc,e,ha,hp=>by
    have hl2:L.length=pre.length+(rest.length+1):=by rw[e];simp
    have es:wrap64 ((pre.length:Int)+1)=(((pre++[x]).length:Nat):Int):=wrap_step pre x (by omega)
    have e2:rd_T34 L ((pre.length:Nat):Int)=x:=by rw[e];exact rdT34_mid pre x rest
    have ihk:=fun h:n≤0∨likeI a n x=false=>specPut_l0 a n m b hx L hl hs rest (pre++[x]) (acc++[x]) (by rw[e];simp) (by simp;omega) (by rw[← hp,putI_keep rest h];simp)
    refine evUp ?_
    simp only[spec_Put.l0,e2,es,specItem x.f0 x.f1 x.f2 x.f3 (hs x (by rw[e];simp)).2,Option.bind_some]
    refine evPos (by omega) ?_
    by_cases c:n≤0
    · exact evPos c (evPos (by omega) (evPos (by omega) (ihk (.inl c))))
    · refine evNeg c (evPos (by omega) ?_)
      by_cases c1:x.f0.toList=a.toList
      · refine evPos c1 ?_
        by_cases c2:x.f1=n
        · refine evPos c2 ?_
          have hlk:likeI a n x=true:=by unfold likeI;rw[beq_iff_eq.2 c1,beq_iff_eq.2 c2];rfl
          exact specPut_l0 a n m b hx L hl hs rest (pre++[x]) acc (by rw[e];simp) (by simp;omega) (by rw[← hp,putI_skip rest (by omega) hlk])
        · refine evNeg c2 (evPos (by omega) (ihk (.inr ?_)))
          unfold likeI;rw[beq_eq_false_iff_ne.2 c2,Bool.and_false]
      · refine evNeg c1 (evPos (by omega) (ihk (.inr ?_)))
        unfold likeI;rw[beq_eq_false_iff_ne.2 c1,Bool.false_and]
theorem specPut (a:ByteArray) (n m:Int) (b:List Int) (hx:small ⟨a,n,m,b⟩) (L:List S34) (hl:L.length≤1048577) (hs:∀ x∈L,small x):Ev (fun k=>spec_Put.f k L a n m b) (putL L a n m b):=
  specPut_l0 a n m b hx L hl hs L [] [] rfl (Nat.le_refl _) rfl
theorem implPut (a:ByteArray) (n m:Int) (b:List Int) (hx:small ⟨a,n,m,b⟩) (L:List S34) (hl:L.length≤1048577) (hs:∀ x∈L,small x):Ev (fun k=>impl_Put.f k L a n m b) (putL L a n m b):=by
  have hpl:=putI_len a n L
  have hsm:∀ y∈putI a n L++[(⟨a,n,m,b⟩:S34)],y.f0.size≤1099511627776:=by
    intro y hy
    rcases List.mem_append.1 hy with h | h
    · exact(hs y (putI_mem h)).1
    · rw[List.mem_singleton.1 h];exact hx.1
  unfold impl_Put.f
  simp only[implItem a n m b hx.2,Option.bind_some]
  refine evBind (implItems L hs (by omega)) (evPos (by omega) (evBind (implQueueOk _ (by simp;omega) hsm) ?_))
  unfold putL
  by_cases c:queueOkL (putI a n L++[⟨a,n,m,b⟩])=true
  · rw[if_pos c,if_pos c];exact evConst _
  · rw[if_neg c,if_neg c];exact evConst _
/-! ### Take -/
def takeL (a:ByteArray):List S34→List S34→ByteArray×Int×Int×List Int×List S34×Bool
  | [],pre=>(⟨#[]⟩,0,0,[],pre,false)
  | x :: rest,pre=>if x.f0.toList=a.toList then(x.f0,x.f1,x.f2,x.f3,pre++rest,true) else takeL a rest (pre++[x])
theorem takeL_miss (a:ByteArray):∀ (l pre:List S34),(∀ x∈l,x.f0.toList≠a.toList)→takeL a l pre=(⟨#[]⟩,0,0,[],pre++l,false)
  | [],pre,_=>by simp [takeL]
  | x :: l,pre,h=>by
    simp only[takeL]
    rw[if_neg (h x List.mem_cons_self),takeL_miss a l (pre++[x]) (fun y hy=>h y (List.mem_cons_of_mem _ hy))]
    simp
theorem takeL_hit (a:ByteArray) (x:S34) (hx:x.f0.toList=a.toList) (r:List S34):∀ (p pre:List S34),(∀ y∈p,y.f0.toList≠a.toList)→takeL a (p++x :: r) pre=(x.f0,x.f1,x.f2,x.f3,pre++p++r,true)
  | [],pre,_=>by
    simp only[List.nil_append,takeL]
    rw[if_pos hx];simp
  | y :: p,pre,h=>by
    simp only[List.cons_append,takeL]
    rw[if_neg (h y List.mem_cons_self),takeL_hit a x hx r p (pre++[y]) (fun z hz=>h z (List.mem_cons_of_mem _ hz))]
    simp
theorem specTake_l0 (a:ByteArray) (L:List S34) (hl:L.length≤1048577) (hs:∀ x∈L,small x):∀ (rest pre:List S34),L=pre++rest→Ev (fun k=>spec_Take.l0 k L a (pre.length:Nat)) (takeL a rest pre)
  | [],pre,e=>by
    refine evUp ?_
    simp only[spec_Take.l0,takeL]
    refine evNeg (by rw[e];simp) ?_
    have:L=pre:=by rw[e,List.append_nil]
    rw[this] at hs hl ⊢
    exact evBind (specQueue pre hs (by omega)) (evConst _)
  | x :: rest,pre,e=>by
    have hl2:L.length=pre.length+(rest.length+1):=by rw[e];simp
    have es:wrap64 ((pre.length:Int)+1)=(((pre++[x]).length:Nat):Int):=wrap_step pre x (by omega)
    have es2:(((pre++[x]).length:Nat):Int)=(pre.length:Int)+1:=by simp
    have e2:rd_T34 L ((pre.length:Nat):Int)=x:=by rw[e];exact rdT34_mid pre x rest
    have e3:L.take ((pre.length:Nat):Int).toNat=pre:=by rw[e];simp
    have e4:L.drop (((pre++[x]).length:Nat):Int).toNat=rest:=by
      rw[e,Int.toNat_natCast,show pre++x :: rest=(pre++[x])++rest by simp]
      exact List.drop_left
    refine evUp ?_
    simp only[spec_Take.l0,e2,es,e3,e4,specItem x.f0 x.f1 x.f2 x.f3 (hs x (by rw[e];simp)).2,Option.bind_some,takeL]
    refine evPos (by omega) (evPos (by omega) ?_)
    by_cases c:x.f0.toList=a.toList
    · rw[if_pos c]
      refine evPos c (evPos (by omega) (evBind (specQueue pre (fun y hy=>hs y (by rw[e];simp [hy])) (by omega)) (evPos (by omega) (evPos (by omega) (evBind (specQueue rest (fun y hy=>hs y (by rw[e];simp [hy])) (by omega)) (evPos (by omega) (evConst _)))))))
    · rw[if_neg c]
      exact evNeg c (specTake_l0 a L hl hs rest (pre++[x]) (by rw[e];simp))
theorem specTake (a:ByteArray) (L:List S34) (hl:L.length≤1048577) (hs:∀ x∈L,small x):Ev (fun k=>spec_Take.f k L a) (takeL a L []):=specTake_l0 a L hl hs L [] rfl
/-- What is taken. -/
theorem takeL_cases (a:ByteArray) (L:List S34):(takeL a L []=(⟨#[]⟩,0,0,[],L,false)∧idxI (fun x=>x.f0.toList==a.toList) L= -1∧∀ x∈L,x.f0.toList≠a.toList)∨
    ∃ (p r:List S34) (x:S34),L=p++x :: r∧x.f0.toList=a.toList∧(∀ y∈p,y.f0.toList≠a.toList)∧idxI (fun x=>x.f0.toList==a.toList) L=(p.length:Int)∧takeL a L []=(x.f0,x.f1,x.f2,x.f3,p++r,true):=by
  rcases idxI_cases (fun x=>x.f0.toList==a.toList) L with ⟨h,ha⟩ | ⟨k,hk,h,hp,ha⟩
  · have hm:∀ x∈L,x.f0.toList≠a.toList:=by
      intro x hx
      obtain⟨j,hj,rfl⟩:=List.mem_iff_getElem.1 hx
      have:=ha j hj
      rw[List.getD_eq_getElem?_getD,List.getElem?_eq_getElem hj] at this
      exact beq_eq_false_iff_ne.1 this
    exact .inl ⟨by rw[takeL_miss a L [] hm];simp,h,hm⟩
  · refine .inr ⟨L.take k,L.drop (k+1),L[k],?_,?_,?_,?_,?_⟩
    · rw[← List.drop_eq_getElem_cons hk,List.take_append_drop]
    · rw[List.getD_eq_getElem?_getD,List.getElem?_eq_getElem hk] at hp
      exact beq_iff_eq.1 hp
    · intro y hy
      obtain⟨j,hj,rfl⟩:=List.mem_iff_getElem.1 hy
      rw[List.length_take] at hj
      have:=ha j (by omega)
      rw[List.getD_eq_getElem?_getD,List.getElem?_eq_getElem (by omega)] at this
      rw[List.getElem_take]
      exact beq_eq_false_iff_ne.1 this
    · rw[h,List.length_take];congr 1;omega
    · have e:L=L.take k++L[k] :: L.drop (k+1):=by rw[← List.drop_eq_getElem_cons hk,List.take_append_drop]
      have h2:=takeL_hit a L[k] (by rw[List.getD_eq_getElem?_getD,List.getElem?_eq_getElem hk] at hp;exact beq_iff_eq.1 hp) (L.drop (k+1)) (L.take k) [] (fun y hy=>by
        obtain⟨j,hj,rfl⟩:=List.mem_iff_getElem.1 hy
        rw[List.length_take] at hj
        have:=ha j (by omega)
        rw[List.getD_eq_getElem?_getD,List.getElem?_eq_getElem (by omega)] at this
        rw[List.getElem_take]
        exact beq_eq_false_iff_ne.1 this)
      rw[← e] at h2
      simpa using h2
theorem implTake (a:ByteArray) (L:List S34) (hl:L.length≤1048577) (hs:∀ x∈L,small x):Ev (fun k=>impl_Take.f k L a) (takeL a L []):=by
  unfold impl_Take.f
  refine evBind (implItems L hs (by omega)) ?_
  rcases takeL_cases a L with ⟨h,hi,_⟩ | ⟨p,r,x,e,hx,hp,hi,h⟩
  · rw[h,hi,if_pos (by omega)]
    exact evConst _
  · have e2:rd_T34 L ((p.length:Nat):Int)=x:=by rw[e];exact rdT34_mid p x r
    have hl2:L.length=p.length+(r.length+1):=by rw[e];simp
    have e5:L.eraseIdx p.length=p++r:=by
      rw[List.eraseIdx_eq_take_drop_succ,e]
      simp
    rw[h,hi,if_neg (by omega),Int.toNat_natCast,if_pos (by omega),e2,implItem x.f0 x.f1 x.f2 x.f3 (hs x (by rw[e];simp)).2,Option.bind_some,e5]
    exact evConst _
end Go.Proofs.Ytlalkldjpniakaa.B
/- Play, by the program and by the reference: one queue, one time, one end; for bytes of at most 2^20. -/
namespace Go.Proofs.Ytlalkldjpniakaa.B
open Go.RowKit Go.Proofs.Ytlalkldjpniakaa.P Go.Proofs.YtlalkldjpniakaaW.PrintWords Go.Proofs.YtlalkldjpniakaaW.PrintLast Go.Proofs.YtlalkldjpniakaaW.PrintMore
/-- A queue that is small enough for the laws. -/
def qOk (L:List S34):Prop:=L.length≤1048576∧∀ x∈L,x.f0.size≤1048576∧x.f3.length≤1048576
theorem qOk.small {L:List S34} (h:qOk L):∀ x∈L,small x:=fun x hx=>by have:=h.2 x hx;exact⟨by omega,by omega⟩
theorem qOk.put {L:List S34} (h:qOk L) (a:ByteArray) (n m:Int) (b:List Int) (ha:a.size≤1048576) (hb:b.length≤1048576):qOk (putL L a n m b).1:=by
  unfold putL
  split
  · rename_i c
    unfold queueOkL at c
    have:=of_decide_eq_true (Bool.and_eq_true_iff.1 c).2
    refine⟨?_,fun x hx=>?_⟩
    · show(putI a n L++[(⟨a,n,m,b⟩:S34)]).length≤_
      omega
    · rcases List.mem_append.1 hx with hx | hx
      · exact h.2 x (putI_mem hx)
      · rw[List.mem_singleton.1 hx];exact⟨ha,hb⟩
  · exact h
theorem qOk.due {L:List S34} (h:qOk L) (n:Int):qOk (dueL n L):=
  ⟨Nat.le_trans (List.length_filter_le _ _) h.1,fun x hx=>h.2 x (List.mem_filter.1 hx).1⟩
theorem qOk.take {L:List S34} (h:qOk L) (a:ByteArray):qOk (takeL a L []).2.2.2.2.1:=by
  rcases takeL_cases a L with ⟨e,_,_⟩ | ⟨p,q,x,eL,_,_,_,e⟩
  · rw[e];exact h
  · rw[e]
    have hlen:L.length=p.length+(q.length+1):=by rw[eL];simp
    have:=h.1
    refine⟨by show(p++q).length≤_;simp;omega,fun y hy=>h.2 y ?_⟩
    rw[eL]
    rcases List.mem_append.1 hy with h | h <;> simp [h]
theorem play_l0 (I:List S34→Prop) (h1:∀ Q,I Q→qOk Q) (hp:∀ Q a n m b,a.size≤1048576→b.length≤1048576→I Q→I (putL Q a n m b).1) (hd:∀ Q n,I Q→I (dueL n Q)) (ht:∀ Q a,I Q→I (takeL a Q []).2.2.2.2.1) (l:List Int) (hl:l.length≤1048576) (hb:∀ x∈l,0≤x∧x<256):∀ (n:Nat) (Q:List S34) (t a:Int),I Q→((l.length:Int) - a).toNat<n→
    ∃ r,Ev (fun k=>spec_Play.l0 k l Q t a) r∧Ev (fun k=>impl_Play.l0 k l Q t a) r∧I r.1
  | 0,_,_,_,_,h=>absurd h (Nat.not_lt_zero _)
  | n+1,Q,t,a,hI0,hn=>by
    have hQ:=h1 Q hI0
    obtain⟨⟨r1,r2,r3,r4,r5,r6,r7⟩,hS,hI,hg⟩:=lineOf l a hl hb
    rcases hg with e | ⟨e7,ha0,ha6,h6,h2,h5,_,_⟩
    · simp only[Prod.mk.injEq] at e
      obtain⟨_,_,_,_,_,_,rfl⟩:=e
      refine⟨(Q,t,a),evUp ?_,evUp ?_,hI0⟩
      · simp only[spec_Play.l0]
        exact evBind hS (evNeg Bool.false_ne_true (evConst _))
      · simp only[impl_Play.l0]
        exact evBind hI (evNeg Bool.false_ne_true (evConst _))
    · simp only at e7 ha6 h6 h2 h5
      subst e7
      have hlt:((l.length:Int) - r6).toNat<n:=by omega
      have hx:small ⟨r2,r3,r4,r5⟩:=⟨by show r2.size≤_;omega,by show r5.length≤_;omega⟩
      by_cases c1:r1=1
      · obtain⟨r,i1,i2,i3⟩:=play_l0 I h1 hp hd ht l hl hb n (putL Q r2 r3 r4 r5).1 t r6 (hp Q r2 r3 r4 r5 (by omega) (by omega) hI0) hlt
        refine⟨r,evUp ?_,evUp ?_,i3⟩
        · simp only[spec_Play.l0]
          refine evBind hS (evPos rfl (evBind (a:=((putL Q r2 r3 r4 r5).1,t)) ?_ i1))
          unfold spec_l14Play.f spec_l14Item.f
          refine evPos c1 (evBind (a:=(r2,r3,r4,r5)) ?_ (evBind (specPut r2 r3 r4 r5 hx Q (by have:=hQ.1;omega) hQ.small) (evConst _)))
          show Ev (fun _=>if([]:List Int).length+r5.length<140737488355328 then some (r2,r3,r4,([]:List Int)++r5) else none) (r2,r3,r4,r5)
          exact evPos (by rw[List.length_nil];omega) (evConst _)
        · simp only[impl_Play.l0]
          refine evBind hI (evPos rfl (evPos c1 (evBind (a:=(r2,r3,r4,r5)) ?_ (evBind (implPut r2 r3 r4 r5 hx Q (by have:=hQ.1;omega) hQ.small) i2))))
          have eC:slices_Clone_byte_byte.f r5=some r5:=by unfold slices_Clone_byte_byte.f;rw[if_pos (by omega)]
          show Ev (fun _=>(slices_Clone_byte_byte.f r5).bind fun t=>some (r2,r3,r4,t)) (r2,r3,r4,r5)
          rw[eC]
          exact evConst _
      by_cases c2:r1=2
      · obtain⟨r,i1,i2,i3⟩:=play_l0 I h1 hp hd ht l hl hb n (takeL r2 Q []).2.2.2.2.1 t r6 (ht Q r2 hI0) hlt
        refine⟨r,evUp ?_,evUp ?_,i3⟩
        · simp only[spec_Play.l0]
          refine evBind hS (evPos rfl (evBind (a:=((takeL r2 Q []).2.2.2.2.1,t)) ?_ i1))
          unfold spec_l14Play.f
          exact evNeg c1 (evPos c2 (evBind (specTake r2 Q (by have:=hQ.1;omega) hQ.small) (evConst _)))
        · simp only[impl_Play.l0]
          exact evBind hI (evPos rfl (evNeg c1 (evPos c2 (evBind (implTake r2 Q (by have:=hQ.1;omega) hQ.small) i2))))
      by_cases c3:r1=3
      · by_cases c4:r4≥t
        · obtain⟨r,i1,i2,i3⟩:=play_l0 I h1 hp hd ht l hl hb n (dueL r4 Q) r4 r6 (hd Q r4 hI0) hlt
          refine⟨r,evUp ?_,evUp ?_,i3⟩
          · simp only[spec_Play.l0]
            refine evBind hS (evPos rfl (evBind (a:=(dueL r4 Q,r4)) ?_ i1))
            unfold spec_l14Play.f
            exact evNeg c1 (evNeg c2 (evPos c3 (evPos c4 (evBind (specDue r4 Q hQ.small (by have:=hQ.1;omega)) (evConst _)))))
          · simp only[impl_Play.l0]
            exact evBind hI (evPos rfl (evNeg c1 (evNeg c2 (evPos c3 (evPos c4 (evBind (implDue r4 Q hQ.small (by have:=hQ.1;omega)) i2))))))
        · obtain⟨r,i1,i2,i3⟩:=play_l0 I h1 hp hd ht l hl hb n Q t r6 hI0 hlt
          refine⟨r,evUp ?_,evUp ?_,i3⟩
          · simp only[spec_Play.l0]
            refine evBind hS (evPos rfl (evBind (a:=(Q,t)) ?_ i1))
            unfold spec_l14Play.f
            exact evNeg c1 (evNeg c2 (evPos c3 (evNeg c4 (evConst _))))
          · simp only[impl_Play.l0]
            exact evBind hI (evPos rfl (evNeg c1 (evNeg c2 (evPos c3 (evNeg c4 i2)))))
      · obtain⟨r,i1,i2,i3⟩:=play_l0 I h1 hp hd ht l hl hb n Q t r6 hI0 hlt
        refine⟨r,evUp ?_,evUp ?_,i3⟩
        · simp only[spec_Play.l0]
          refine evBind hS (evPos rfl (evBind (a:=(Q,t)) ?_ i1))
          unfold spec_l14Play.f
          exact evNeg c1 (evNeg c2 (evNeg c3 (evConst _)))
        · simp only[impl_Play.l0]
          exact evBind hI (evPos rfl (evNeg c1 (evNeg c2 (evNeg c3 i2))))
theorem play (l:List Int) (hl:l.length≤1048576) (hb:∀ x∈l,0≤x∧x<256):∃ r,Ev (fun k=>spec_Play.f k l) r∧Ev (fun k=>impl_Play.f k l) r∧qOk r.1:=
  play_l0 qOk (fun _ h=>h) (fun Q a n m b ha hb h=>h.put a n m b ha hb) (fun Q n h=>h.due n) (fun Q a h=>h.take a) l hl hb (l.length+1) [] 0 0 ⟨Nat.zero_le _,fun x hx=>absurd hx List.not_mem_nil⟩ (by omega)
end Go.Proofs.Ytlalkldjpniakaa.B
/- A torn book: what is played of the beginning that was used is what was played of all of it. -/
namespace Go.Proofs.Ytlalkldjpniakaa.B
open Go.RowKit Go.Proofs.Ytlalkldjpniakaa.P Go.Proofs.YtlalkldjpniakaaW.PrintWords Go.Proofs.YtlalkldjpniakaaW.PrintLast Go.Proofs.YtlalkldjpniakaaW.PrintMore
set_option linter.unusedVariables false
set_option linter.unusedSimpArgs false
abbrev LineR:=Int×ByteArray×Int×Int×List Int×Int×Bool
theorem rd_take (l:List Int) (u i:Int) (_h0:0≤i) (h1:i<u):rd (l.take u.toNat) i=rd l i:=by
  unfold rd
  rw[List.getD_eq_getElem?_getD,List.getD_eq_getElem?_getD,List.getElem?_take_of_lt (by omega)]
theorem take_cut (l:List Int) (u j:Int) (h0:0≤j) (h1:j≤u):(l.take u.toNat).take j.toNat=l.take j.toNat:=by
  rw[List.take_take,Nat.min_eq_left (by omega)]
theorem take_cut_len (l:List Int) (u:Int) (h0:0≤u) (h1:u≤(l.length:Int)):((l.take u.toNat).length:Int)=u:=by
  rw[List.length_take];omega
/-- What a line's reading tells of where it ends, and that nothing behind it counts. -/
theorem lineCut (k:Nat) (l:List Int) (a:Int) (r:LineR) (h:spec_LineOf.f k l a=some r) (ok:r.2.2.2.2.2.2=true):
    0≤a∧a+18≤r.2.2.2.2.2.1∧r.2.2.2.2.2.1≤(l.length:Int)∧∀ u:Int,r.2.2.2.2.2.1≤u→u≤(l.length:Int)→spec_LineOf.f k (l.take u.toNat) a=some r:=by
  unfold spec_LineOf.f at h
  by_cases c1:(l.length:Int)≤140737488355232
  case neg=>rw[if_neg c1] at h;cases h
  rw[if_pos c1] at h
  by_cases c2:0≤a∧a+18≤(l.length:Int)
  case neg=>rw[if_neg c2] at h;obtain rfl:=Option.some.inj h;cases ok
  rw[if_pos c2] at h
  by_cases c3:(0≤rd l a∧rd l a≤255)∧(0≤rd l (a+9)∧rd l (a+9)≤255)∧(0≤rd l (a+14)∧rd l (a+14)≤255)∧(0≤rd l (a+15)∧rd l (a+15)≤255)
  case neg=>rw[if_neg c3] at h;cases h
  rw[if_pos c3] at h
  obtain⟨n,hn⟩:∃ n,n=256*rd l (a+14)+rd l (a+15):=⟨_,rfl⟩
  rw[← hn] at h
  have hn0:0≤n:=by omega
  by_cases c4:a+18+n≤(l.length:Int)
  case neg=>rw[if_neg c4] at h;obtain rfl:=Option.some.inj h;cases ok
  rw[if_pos c4] at h
  obtain⟨due,h1,h⟩:=Option.bind_eq_some_iff.1 h
  by_cases c5:0<due.length
  case neg=>rw[if_neg c5] at h;cases h
  rw[if_pos c5] at h
  obtain⟨route,h2,h⟩:=Option.bind_eq_some_iff.1 h
  obtain⟨b,h3,h⟩:=Option.bind_eq_some_iff.1 h
  obtain⟨s,h4,h⟩:=Option.bind_eq_some_iff.1 h
  by_cases c6:s=true
  case neg=>rw[if_neg c6] at h;obtain rfl:=Option.some.inj h;cases ok
  rw[if_pos c6] at h
  obtain rfl:=Option.some.inj h
  refine⟨c2.1,?_,c4,?_⟩
  · show a+18≤a+18+n;omega
  · intro u hu hul
    have hu2:a+18+n≤u:=hu
    have e0:=rd_take l u a c2.1 (by omega)
    have e9:=rd_take l u (a+9) (by omega) (by omega)
    have e14:=rd_take l u (a+14) (by omega) (by omega)
    have e15:=rd_take l u (a+15) (by omega) (by omega)
    have t9:=take_cut l u (a+9) (by omega) (by omega)
    have t14:=take_cut l u (a+14) (by omega) (by omega)
    have t16:=take_cut l u (a+16+n) (by omega) (by omega)
    have t18:=take_cut l u (a+18+n) (by omega) (by omega)
    have hL:=take_cut_len l u (by omega) hul
    unfold spec_LineOf.f
    rw[e0,e9,e14,e15, ← hn,t9,t14,t16,t18,hL,if_pos (by omega),if_pos ⟨c2.1,by omega⟩,if_pos c3,if_pos hu2,h1,Option.bind_some,if_pos c5,h2,Option.bind_some,h3,Option.bind_some,h4,Option.bind_some,if_pos c6]
/-- Behind the end nothing is read. -/
theorem lineEnd (k:Nat) (l:List Int) (a:Int) (h:(l.length:Int)≤140737488355232) (ha:(l.length:Int)<a+18):spec_LineOf.f k l a=some (0,⟨#[]⟩,0,0,[],0,false):=by
  unfold spec_LineOf.f
  rw[if_pos h,if_neg (by omega)]
theorem lineSmall (k:Nat) (l:List Int) (a:Int) (r:LineR) (h:spec_LineOf.f k l a=some r):(l.length:Int)≤140737488355232:=by
  unfold spec_LineOf.f at h
  by_cases c1:(l.length:Int)≤140737488355232
  · exact c1
  · rw[if_neg c1] at h;cases h
theorem playCut:∀ (k:Nat) (l:List Int) (Q:List S34) (t a:Int) (r:List S34×Int×Int),0≤a→a≤(l.length:Int)→spec_Play.l0 k l Q t a=some r→a≤r.2.2∧r.2.2≤(l.length:Int)∧spec_Play.l0 k (l.take r.2.2.toNat) Q t a=some r
  | 0,l,Q,t,a,r,_,_,h=>by simp [spec_Play.l0] at h
  | k+1,l,Q,t,a,r,ha,hl,h=>by
    simp only[spec_Play.l0] at h ⊢
    obtain⟨x,hx,h⟩:=Option.bind_eq_some_iff.1 h
    by_cases ok:x.2.2.2.2.2.2=true
    · rw[if_pos ok] at h
      obtain⟨y,hy,h⟩:=Option.bind_eq_some_iff.1 h
      obtain⟨_,p1,p2,p3⟩:=lineCut k l a x hx ok
      obtain⟨i1,i2,i3⟩:=playCut k l y.1 y.2 x.2.2.2.2.2.1 r (by omega) p2 h
      refine⟨by omega,i2,?_⟩
      rw[p3 r.2.2 i1 i2,Option.bind_some,if_pos ok,hy,Option.bind_some]
      exact i3
    · rw[if_neg ok] at h
      obtain rfl:=Option.some.inj h
      have hs:=lineSmall k l a x hx
      have hL:=take_cut_len l a ha hl
      refine⟨Int.le_refl _,hl,?_⟩
      show((spec_LineOf.f k (l.take a.toNat) a).bind fun z=>_)=_
      rw[lineEnd k (l.take a.toNat) a (by omega) (by omega),Option.bind_some,if_neg (by decide)]
theorem ofL_sub (a:ByteArray) {L M:List S34} (h:L.Sublist M):ofL a L≤ofL a M:=by
  induction h with
  | slnil=>exact Int.le_refl _
  | cons x _ ih=>simp only[ofL];split <;> omega
  | cons_cons x _ ih=>simp only[ofL];omega
def QR (y x:S34):Prop:=x.f1>0→likeI x.f0 x.f1 y=false
theorem queueL_iff (L:List S34):∀ (rest pre:List S34),queueL L rest pre=true↔(∀ x∈rest,okB x=true∧ofL x.f0 L≤4)∧List.Pairwise QR rest∧∀ y∈pre,∀ x∈rest,QR y x
  | [],pre=>by simp [queueL]
  | x :: rest,pre=>by
    have ih:=queueL_iff L rest (pre++[x])
    have hq:(!(decide (x.f1>0) && pre.any (likeI x.f0 x.f1)))=true↔∀ y∈pre,QR y x:=by
      by_cases c:x.f1>0
      · simp only[c,decide_true,Bool.true_and,Bool.not_eq_true',List.any_eq_false,QR,forall_const]
        exact⟨fun h y hy=>by simpa using h y hy,fun h y hy=>by simpa using h y hy⟩
      · simp [c,QR]
    simp only[queueL,Bool.and_eq_true,ih,hq,List.mem_cons,forall_eq_or_imp,List.pairwise_cons,List.mem_append,List.not_mem_nil,or_false]
    constructor
    · rintro⟨a,b,c,⟨d,e,f⟩⟩
      refine⟨⟨⟨a,by simpa using b⟩,d⟩,⟨fun y hy=>f x (.inr rfl) y hy,e⟩,fun y hy=>⟨c y hy,fun z hz=>f y (.inl hy) z hz⟩⟩
    · rintro⟨⟨⟨a,b⟩,d⟩,⟨e,f⟩,g⟩
      refine⟨a,by simpa using b,fun y hy=>(g y hy).1,d,f,?_⟩
      rintro y (hy | rfl) z hz
      · exact(g y hy).2 z hz
      · exact e z hz
theorem queueOk_sub {L M:List S34} (h:L.Sublist M) (hM:queueOkL M=true):queueOkL L=true:=by
  unfold queueOkL at hM ⊢
  obtain⟨h1,h2⟩:=Bool.and_eq_true_iff.1 hM
  obtain⟨a,b,_⟩:=(queueL_iff M M []).1 h1
  have h3:=of_decide_eq_true h2
  have h4:=h.length_le
  rw[Bool.and_eq_true_iff]
  refine⟨(queueL_iff L L []).2 ⟨fun x hx=>⟨(a x (h.subset hx)).1,Int.le_trans (ofL_sub _ h) (a x (h.subset hx)).2⟩,b.sublist h,fun y hy=>absurd hy List.not_mem_nil⟩,decide_eq_true (by omega)⟩
theorem queueOk_put {L:List S34} (h:queueOkL L=true) (a:ByteArray) (n m:Int) (b:List Int):queueOkL (putL L a n m b).1=true:=by
  unfold putL
  split
  · rename_i c;exact c
  · exact h
theorem queueOk_take {L:List S34} (h:queueOkL L=true) (a:ByteArray):queueOkL (takeL a L []).2.2.2.2.1=true:=by
  rcases takeL_cases a L with ⟨e,_,_⟩ | ⟨p,q,x,eL,_,_,_,e⟩
  · rw[e];exact h
  · rw[e]
    refine queueOk_sub ?_ h
    rw[eL]
    exact List.Sublist.append (List.Sublist.refl p) (List.sublist_cons_self x q)
theorem queueOk_nil:queueOkL []=true:=by
  unfold queueOkL
  rfl
/-- What is played: by both sides one, an ok queue; of what was used alone it is the same. -/
theorem playBook (l:List Int) (hl:l.length≤1048576) (hb:∀ x∈l,0≤x∧x<256):∃ r:List S34×Int×Int,Ev (fun k=>spec_Play.f k l) r∧Ev (fun k=>impl_Play.f k l) r∧qOk r.1∧queueOkL r.1=true∧0≤r.2.2∧r.2.2≤(l.length:Int)∧Ev (fun k=>impl_Play.f k (l.take r.2.2.toNat)) r:=by
  have key:=fun(l:List Int) (hl:l.length≤1048576) (hb:∀ x∈l,0≤x∧x<256)=>play_l0 (fun Q=>qOk Q∧queueOkL Q=true) (fun _ h=>h.1) (fun Q a n m b ha hb h=>⟨h.1.put a n m b ha hb,queueOk_put h.2 a n m b⟩) (fun Q n h=>⟨h.1.due n,queueOk_sub List.filter_sublist h.2⟩) (fun Q a h=>⟨h.1.take a,queueOk_take h.2 a⟩) l hl hb (l.length+1) [] 0 0 ⟨⟨Nat.zero_le _,fun x hx=>absurd hx List.not_mem_nil⟩,queueOk_nil⟩ (by omega)
  obtain⟨r,h1,h2,h3,h4⟩:=key l hl hb
  obtain⟨n,hn⟩:=h1
  obtain⟨_,p2,p3⟩:=playCut n l [] 0 0 r (by omega) (by omega) (hn n (Nat.le_refl _))
  have p1:=(playCut n l [] 0 0 r (by omega) (by omega) (hn n (Nat.le_refl _))).1
  obtain⟨r2,g1,g2,_⟩:=key (l.take r.2.2.toNat) (by rw[List.length_take];omega) (fun x hx=>hb x (List.mem_of_mem_take hx))
  have e:r2=r:=by
    obtain⟨m,hm⟩:=g1
    have a:=hm (n+m) (by omega)
    have b:=(playCut (n+m) l [] 0 0 r (by omega) (by omega) (hn (n+m) (by omega))).2.2
    exact Option.some.inj (a.symm.trans b)
  subst e
  exact⟨r2,⟨n,hn⟩,h2,h3,h4,p1,p2,g2⟩
end Go.Proofs.Ytlalkldjpniakaa.B
