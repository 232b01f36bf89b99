import Derived.Test.Ytlalkldjpniakaaqu38
import Derived.Test.Ytlalkldjpniakaaqu21
/- A queue's functions, by the program and by the reference: Due, Put, Take; for lists of at most 2^20 items, none longer than 2^40. -/
namespace Go.Proofs.Ytlalkldjpniakaa.B
open Go.RowKit Go.Proofs.Ytlalkldjpniakaa.P Go.Proofs.YtlalkldjpniakaaW.PrintWords Go.Proofs.YtlalkldjpniakaaW.PrintLast Go.Proofs.YtlalkldjpniakaaW.PrintMore
set_option linter.unusedSimpArgs false
def small (x:S34):Prop:=x.f0.size≤1099511627776∧x.f3.length≤1099511627776
theorem specItem (a:ByteArray) (n m:Int) (b:List Int) (hb:b.length≤1099511627776):spec_l13Item.f a n m b=some (a,n,m,b):=by
  unfold spec_l13Item.f
  simp only[Option.bind_some,List.length_nil,List.nil_append]
  rw[if_pos (by omega)]
theorem implItem (a:ByteArray) (n m:Int) (b:List Int) (hb:b.length≤1099511627776):impl_cloneItem.f a n m b=some (a,n,m,b):=by
  unfold impl_cloneItem.f slices_Clone_byte_byte.f
  rw[if_pos (by omega),Option.bind_some]
theorem specQueue_l0:∀ (rest pre:List S34),(∀ x∈rest,small x)→(pre++rest).length≤2097152→Ev (fun k=>spec_l13Queue.l0 k (pre++rest) pre (pre.length:Nat)) (pre++rest)
  | [],pre,hs,hl=>by
    refine evUp ?_
    simp only[spec_l13Queue.l0]
    refine evNeg (by simp) ?_
    rw[List.append_nil]
    exact evConst _
  | x :: rest,pre,hs,hl=>by
    have hl2:(pre++x :: rest).length=pre.length+(rest.length+1):=by simp
    have ih:=specQueue_l0 rest (pre++[x]) (fun y hy=>hs y (List.mem_cons_of_mem _ hy)) (by simp;omega)
    have es:wrap64 ((pre.length:Int)+1)=(((pre++[x]).length:Nat):Int):=wrap_step pre x (by omega)
    rw[← snoc_app] at ih
    refine evUp ?_
    simp only[spec_l13Queue.l0,rdT34_mid,es,specItem x.f0 x.f1 x.f2 x.f3 (hs x List.mem_cons_self).2,Option.bind_some]
    exact evPos (by omega) (evPos (by omega) (evPos (by omega) ih))
theorem specQueue (l:List S34) (hs:∀ x∈l,small x) (hl:l.length≤2097152):Ev (fun k=>spec_l13Queue.f k l) l:=specQueue_l0 l [] hs hl
theorem implItems_l0 (L:List S34) (n:Int) (hn:n=(L.length:Int)) (hl:L.length≤2097152) (hs:∀ x∈L,small x):∀ (rest pre:List S34),L=pre++rest→Ev (fun k=>impl_cloneItems.l0 k pre L n (pre.length:Nat)) L
  | [],pre,e=>by
    refine evUp ?_
    simp only[impl_cloneItems.l0]
    have:L=pre:=by rw[e,List.append_nil]
    rw[this] at hn ⊢
    exact evNeg (by omega) (evConst _)
  | x :: rest,pre,e=>by
    have hl2:L.length=pre.length+(rest.length+1):=by rw[e];simp
    have ih:=implItems_l0 L n hn hl hs rest (pre++[x]) (by rw[e];simp)
    have es:wrap64 ((pre.length:Int)+1)=(((pre++[x]).length:Nat):Int):=wrap_step pre x (by omega)
    have e2:rd_T34 L ((pre.length:Nat):Int)=x:=by rw[e];exact rdT34_mid pre x rest
    refine evUp ?_
    simp only[impl_cloneItems.l0,e2,es,implItem x.f0 x.f1 x.f2 x.f3 (hs x (by rw[e];simp)).2,Option.bind_some]
    exact evPos (by omega) (evPos (by omega) (evPos (by omega) (evPos (by omega) ih)))
theorem implItems (l:List S34) (hs:∀ x∈l,small x) (hl:l.length≤2097152):Ev (fun k=>impl_cloneItems.f k l) l:=implItems_l0 l _ rfl hl hs l [] rfl
/-! ### Due -/
def dueL (n:Int) (l:List S34):List S34:=l.filter fun x=> !decide (x.f2<n)
theorem specDue_l0 (n:Int) (L:List S34) (hl:L.length≤2097152) (hs:∀ x∈L,small x):∀ (rest pre acc:List S34),L=pre++rest→acc.length≤pre.length→Ev (fun k=>spec_Due.l0 k L n acc (pre.length:Nat)) (acc++dueL n rest)
  | [],pre,acc,e,ha=>by
    refine evUp ?_
    simp only[spec_Due.l0,dueL,List.filter_nil,List.append_nil]
    exact evNeg (by rw[e];simp) (evConst _)
  | x :: rest,pre,acc,e,ha=>by
    have hl2:L.length=pre.length+(rest.length+1):=by rw[e];simp
    have es:wrap64 ((pre.length:Int)+1)=(((pre++[x]).length:Nat):Int):=wrap_step pre x (by omega)
    have e2:rd_T34 L ((pre.length:Nat):Int)=x:=by rw[e];exact rdT34_mid pre x rest
    refine evUp ?_
    simp only[spec_Due.l0,e2,es,specItem x.f0 x.f1 x.f2 x.f3 (hs x (by rw[e];simp)).2,Option.bind_some]
    refine evPos (by omega) (evPos (by omega) ?_)
    by_cases c:x.f2≥n
    · refine evPos c (evPos (by omega) ?_)
      have ih:=specDue_l0 n L hl hs rest (pre++[x]) (acc++[x]) (by rw[e];simp) (by simp;omega)
      have:acc++dueL n (x :: rest)=acc++[x]++dueL n rest:=by
        unfold dueL
        rw[List.filter_cons_of_pos (by simp;omega)];simp
      rw[this];exact ih
    · refine evNeg c ?_
      have ih:=specDue_l0 n L hl hs rest (pre++[x]) acc (by rw[e];simp) (by simp;omega)
      have:dueL n (x :: rest)=dueL n rest:=by
        unfold dueL
        rw[List.filter_cons_of_neg (by simp;omega)]
      rw[this];exact ih
theorem specDue (n:Int) (l:List S34) (hs:∀ x∈l,small x) (hl:l.length≤2097152):Ev (fun k=>spec_Due.f k l n) (dueL n l):=specDue_l0 n l hl hs l [] [] rfl (Nat.le_refl _)
theorem implDue (n:Int) (l:List S34) (hs:∀ x∈l,small x) (hl:l.length≤2097152):Ev (fun k=>impl_Due.f k l n) (dueL n l):=by
  unfold impl_Due.f
  exact evBind (implItems l hs hl) (evConst _)
theorem dueL_due {n:Int} {l:List S34} {x:S34} (h:x∈dueL n l):¬x.f2<n:=by
  have:=(List.mem_filter.1 h).2
  simpa using this
/-! ### Put -/
noncomputable def putL (L:List S34) (a:ByteArray) (n m:Int) (b:List Int):List S34×Bool:=if queueOkL (putI a n L++[⟨a,n,m,b⟩])=true then(putI a n L++[⟨a,n,m,b⟩],true) else(L,false)
theorem putI_mem {a:ByteArray} {n:Int} {l:List S34} {x:S34} (h:x∈putI a n l):x∈l:=by
  unfold putI at h
  split at h
  · exact(List.mem_filter.1 h).1
  · exact h
theorem putI_len (a:ByteArray) (n:Int) (l:List S34):(putI a n l).length≤l.length:=by
  unfold putI
  split
  · exact List.length_filter_le _ _
  · exact Nat.le_refl _
theorem putL_small {L:List S34} {a:ByteArray} {n m:Int} {b:List Int} (hs:∀ x∈L,small x) (hx:small ⟨a,n,m,b⟩):∀ x∈(putL L a n m b).1,small x:=by
  intro x h
  unfold putL at h
  split at h
  · rcases List.mem_append.1 h with h | h
    · exact hs x (putI_mem h)
    · rw[List.mem_singleton.1 h];exact hx
  · exact hs x h
theorem putL_len (L:List S34) (a:ByteArray) (n m:Int) (b:List Int):(putL L a n m b).1.length≤L.length+1:=by
  unfold putL
  have:=putI_len a n L
  split
  · simp;omega
  · simp
theorem putI_keep {a:ByteArray} {n:Int} {x:S34} (l:List S34) (h:n≤0∨likeI a n x=false):putI a n (x :: l)=x :: putI a n l:=by
  unfold putI
  by_cases c:n>0
  · rw[if_pos c,if_pos c,List.filter_cons_of_pos]
    rcases h with h | h
    · omega
    · rw[h];rfl
  · rw[if_neg c,if_neg c]
theorem putI_skip {a:ByteArray} {n:Int} {x:S34} (l:List S34) (h0:n>0) (h:likeI a n x=true):putI a n (x :: l)=putI a n l:=by
  unfold putI
  rw[if_pos h0,if_pos h0,List.filter_cons_of_neg]
  rw[h];decide
theorem specPut_l0 (a:ByteArray) (n m:Int) (b:List Int) (hx:small ⟨a,n,m,b⟩) (L:List S34) (hl:L.length≤1048577) (hs:∀ x∈L,small x):∀ (rest pre acc:List S34),L=pre++rest→acc.length≤pre.length→acc++putI a n rest=putI a n L→
    Ev (fun k=>spec_Put.l0 k L acc (pre.length:Nat) a n m b) (putL L a n m b)
  | [],pre,acc,e,ha,hp=>by
    have hp2:acc=putI a n L:=by rw[← hp];unfold putI;split <;> simp
    have hpl:=putI_len a n L
    refine evUp ?_
    simp only[spec_Put.l0,specItem a n m b hx.2,Option.bind_some]
    refine evNeg (by rw[e];simp) (evPos (by rw[hp2];omega) ?_)
    rw[hp2]
    have hsm:∀ y∈putI a n L++[(⟨a,n,m,b⟩:S34)],y.f0.size≤1099511627776:=by
      intro y hy
      rcases List.mem_append.1 hy with h | h
      · exact(hs y (putI_mem h)).1
      · rw[List.mem_singleton.1 h];exact hx.1
    refine evBind (specQueueOk _ (by simp;omega) hsm) ?_
    unfold putL
    by_cases c:queueOkL (putI a n L++[⟨a,n,m,b⟩])=true
    · rw[if_pos c];exact evPos c (evConst _)
    · rw[if_neg c]
      exact evNeg c (evBind (specQueue L hs (by omega)) (evConst _))
  | x :: rest,pre,acc,e,ha,hp=>by
    have hl2:L.length=pre.length+(rest.length+1):=by rw[e];simp
    have es:wrap64 ((pre.length:Int)+1)=(((pre++[x]).length:Nat):Int):=wrap_step pre x (by omega)
    have e2:rd_T34 L ((pre.length:Nat):Int)=x:=by rw[e];exact rdT34_mid pre x rest
    have ihk:=fun h:n≤0∨likeI a n x=false=>specPut_l0 a n m b hx L hl hs rest (pre++[x]) (acc++[x]) (by rw[e];simp) (by simp;omega) (by rw[← hp,putI_keep rest h];simp)
    refine evUp ?_
    simp only[spec_Put.l0,e2,es,specItem x.f0 x.f1 x.f2 x.f3 (hs x (by rw[e];simp)).2,Option.bind_some]
    refine evPos (by omega) ?_
    by_cases c:n≤0
    · exact evPos c (evPos (by omega) (evPos (by omega) (ihk (.inl c))))
    · refine evNeg c (evPos (by omega) ?_)
      by_cases c1:x.f0.toList=a.toList
      · refine evPos c1 ?_
        by_cases c2:x.f1=n
        · refine evPos c2 ?_
          have hlk:likeI a n x=true:=by unfold likeI;rw[beq_iff_eq.2 c1,beq_iff_eq.2 c2];rfl
          exact specPut_l0 a n m b hx L hl hs rest (pre++[x]) acc (by rw[e];simp) (by simp;omega) (by rw[← hp,putI_skip rest (by omega) hlk])
        · refine evNeg c2 (evPos (by omega) (ihk (.inr ?_)))
          unfold likeI;rw[beq_eq_false_iff_ne.2 c2,Bool.and_false]
      · refine evNeg c1 (evPos (by omega) (ihk (.inr ?_)))
        unfold likeI;rw[beq_eq_false_iff_ne.2 c1,Bool.false_and]
theorem specPut (a:ByteArray) (n m:Int) (b:List Int) (hx:small ⟨a,n,m,b⟩) (L:List S34) (hl:L.length≤1048577) (hs:∀ x∈L,small x):Ev (fun k=>spec_Put.f k L a n m b) (putL L a n m b):=
  specPut_l0 a n m b hx L hl hs L [] [] rfl (Nat.le_refl _) rfl
theorem implPut (a:ByteArray) (n m:Int) (b:List Int) (hx:small ⟨a,n,m,b⟩) (L:List S34) (hl:L.length≤1048577) (hs:∀ x∈L,small x):Ev (fun k=>impl_Put.f k L a n m b) (putL L a n m b):=by
  have hpl:=putI_len a n L
  have hsm:∀ y∈putI a n L++[(⟨a,n,m,b⟩:S34)],y.f0.size≤1099511627776:=by
    intro y hy
    rcases List.mem_append.1 hy with h | h
    · exact(hs y (putI_mem h)).1
    · rw[List.mem_singleton.1 h];exact hx.1
  unfold impl_Put.f
  simp only[implItem a n m b hx.2,Option.bind_some]
  refine evBind (implItems L hs (by omega)) (evPos (by omega) (evBind (implQueueOk _ (by simp;omega) hsm) ?_))
  unfold putL
  by_cases c:queueOkL (putI a n L++[⟨a,n,m,b⟩])=true
  · rw[if_pos c,if_pos c];exact evConst _
  · rw[if_neg c,if_neg c];exact evConst _
/-! ### Take -/
def takeL (a:ByteArray):List S34→List S34→ByteArray×Int×Int×List Int×List S34×Bool
  | [],pre=>(⟨#[]⟩,0,0,[],pre,false)
  | x :: rest,pre=>if x.f0.toList=a.toList then(x.f0,x.f1,x.f2,x.f3,pre++rest,true) else takeL a rest (pre++[x])
theorem takeL_miss (a:ByteArray):∀ (l pre:List S34),(∀ x∈l,x.f0.toList≠a.toList)→takeL a l pre=(⟨#[]⟩,0,0,[],pre++l,false)
  | [],pre,_=>by simp [takeL]
  | x :: l,pre,h=>by
    simp only[takeL]
    rw[if_neg (h x List.mem_cons_self),takeL_miss a l (pre++[x]) (fun y hy=>h y (List.mem_cons_of_mem _ hy))]
    simp
theorem takeL_hit (a:ByteArray) (x:S34) (hx:x.f0.toList=a.toList) (r:List S34):∀ (p pre:List S34),(∀ y∈p,y.f0.toList≠a.toList)→takeL a (p++x :: r) pre=(x.f0,x.f1,x.f2,x.f3,pre++p++r,true)
  | [],pre,_=>by
    simp only[List.nil_append,takeL]
    rw[if_pos hx];simp
  | y :: p,pre,h=>by
    simp only[List.cons_append,takeL]
    rw[if_neg (h y List.mem_cons_self),takeL_hit a x hx r p (pre++[y]) (fun z hz=>h z (List.mem_cons_of_mem _ hz))]
    simp
theorem specTake_l0 (a:ByteArray) (L:List S34) (hl:L.length≤1048577) (hs:∀ x∈L,small x):∀ (rest pre:List S34),L=pre++rest→Ev (fun k=>spec_Take.l0 k L a (pre.length:Nat)) (takeL a rest pre)
  | [],pre,e=>by
    refine evUp ?_
    simp only[spec_Take.l0,takeL]
    refine evNeg (by rw[e];simp) ?_
    have:L=pre:=by rw[e,List.append_nil]
    rw[this] at hs hl ⊢
    exact evBind (specQueue pre hs (by omega)) (evConst _)
  | x :: rest,pre,e=>by
    have hl2:L.length=pre.length+(rest.length+1):=by rw[e];simp
    have es:wrap64 ((pre.length:Int)+1)=(((pre++[x]).length:Nat):Int):=wrap_step pre x (by omega)
    have es2:(((pre++[x]).length:Nat):Int)=(pre.length:Int)+1:=by simp
    have e2:rd_T34 L ((pre.length:Nat):Int)=x:=by rw[e];exact rdT34_mid pre x rest
    have e3:L.take ((pre.length:Nat):Int).toNat=pre:=by rw[e];simp
    have e4:L.drop (((pre++[x]).length:Nat):Int).toNat=rest:=by
      rw[e,Int.toNat_natCast,show pre++x :: rest=(pre++[x])++rest by simp]
      exact List.drop_left
    refine evUp ?_
    simp only[spec_Take.l0,e2,es,e3,e4,specItem x.f0 x.f1 x.f2 x.f3 (hs x (by rw[e];simp)).2,Option.bind_some,takeL]
    refine evPos (by omega) (evPos (by omega) ?_)
    by_cases c:x.f0.toList=a.toList
    · rw[if_pos c]
      refine evPos c (evPos (by omega) (evBind (specQueue pre (fun y hy=>hs y (by rw[e];simp [hy])) (by omega)) (evPos (by omega) (evPos (by omega) (evBind (specQueue rest (fun y hy=>hs y (by rw[e];simp [hy])) (by omega)) (evPos (by omega) (evConst _)))))))
    · rw[if_neg c]
      exact evNeg c (specTake_l0 a L hl hs rest (pre++[x]) (by rw[e];simp))
theorem specTake (a:ByteArray) (L:List S34) (hl:L.length≤1048577) (hs:∀ x∈L,small x):Ev (fun k=>spec_Take.f k L a) (takeL a L []):=specTake_l0 a L hl hs L [] rfl
/-- What is taken. -/
theorem takeL_cases (a:ByteArray) (L:List S34):(takeL a L []=(⟨#[]⟩,0,0,[],L,false)∧idxI (fun x=>x.f0.toList==a.toList) L= -1∧∀ x∈L,x.f0.toList≠a.toList)∨
    ∃ (p r:List S34) (x:S34),L=p++x :: r∧x.f0.toList=a.toList∧(∀ y∈p,y.f0.toList≠a.toList)∧idxI (fun x=>x.f0.toList==a.toList) L=(p.length:Int)∧takeL a L []=(x.f0,x.f1,x.f2,x.f3,p++r,true):=by
  rcases idxI_cases (fun x=>x.f0.toList==a.toList) L with ⟨h,ha⟩ | ⟨k,hk,h,hp,ha⟩
  · have hm:∀ x∈L,x.f0.toList≠a.toList:=by
      intro x hx
      obtain⟨j,hj,rfl⟩:=List.mem_iff_getElem.1 hx
      have:=ha j hj
      rw[List.getD_eq_getElem?_getD,List.getElem?_eq_getElem hj] at this
      exact beq_eq_false_iff_ne.1 this
    exact .inl ⟨by rw[takeL_miss a L [] hm];simp,h,hm⟩
  · refine .inr ⟨L.take k,L.drop (k+1),L[k],?_,?_,?_,?_,?_⟩
    · rw[← List.drop_eq_getElem_cons hk,List.take_append_drop]
    · rw[List.getD_eq_getElem?_getD,List.getElem?_eq_getElem hk] at hp
      exact beq_iff_eq.1 hp
    · intro y hy
      obtain⟨j,hj,rfl⟩:=List.mem_iff_getElem.1 hy
      rw[List.length_take] at hj
      have:=ha j (by omega)
      rw[List.getD_eq_getElem?_getD,List.getElem?_eq_getElem (by omega)] at this
      rw[List.getElem_take]
      exact beq_eq_false_iff_ne.1 this
    · rw[h,List.length_take];congr 1;omega
    · have e:L=L.take k++L[k] :: L.drop (k+1):=by rw[← List.drop_eq_getElem_cons hk,List.take_append_drop]
      have h2:=takeL_hit a L[k] (by rw[List.getD_eq_getElem?_getD,List.getElem?_eq_getElem hk] at hp;exact beq_iff_eq.1 hp) (L.drop (k+1)) (L.take k) [] (fun y hy=>by
        obtain⟨j,hj,rfl⟩:=List.mem_iff_getElem.1 hy
        rw[List.length_take] at hj
        have:=ha j (by omega)
        rw[List.getD_eq_getElem?_getD,List.getElem?_eq_getElem (by omega)] at this
        rw[List.getElem_take]
        exact beq_eq_false_iff_ne.1 this)
      rw[← e] at h2
      simpa using h2
theorem implTake (a:ByteArray) (L:List S34) (hl:L.length≤1048577) (hs:∀ x∈L,small x):Ev (fun k=>impl_Take.f k L a) (takeL a L []):=by
  unfold impl_Take.f
  refine evBind (implItems L hs (by omega)) ?_
  rcases takeL_cases a L with ⟨h,hi,_⟩ | ⟨p,r,x,e,hx,hp,hi,h⟩
  · rw[h,hi,if_pos (by omega)]
    exact evConst _
  · have e2:rd_T34 L ((p.length:Nat):Int)=x:=by rw[e];exact rdT34_mid p x r
    have hl2:L.length=p.length+(r.length+1):=by rw[e];simp
    have e5:L.eraseIdx p.length=p++r:=by
      rw[List.eraseIdx_eq_take_drop_succ,e]
      simp
    rw[h,hi,if_neg (by omega),Int.toNat_natCast,if_pos (by omega),e2,implItem x.f0 x.f1 x.f2 x.f3 (hs x (by rw[e];simp)).2,Option.bind_some,e5]
    exact evConst _
end Go.Proofs.Ytlalkldjpniakaa.B
/- What the reference draws out of a list of bytes: there is always an answer, and how large it is; for lists of at most 2^40 bytes. -/
namespace Go.Proofs.Ytlalkldjpniakaa.B
open Go.RowKit Go.Proofs.Ytlalkldjpniakaa.P Go.Proofs.YtlalkldjpniakaaW.PrintWords Go.Proofs.YtlalkldjpniakaaW.PrintLast Go.Proofs.YtlalkldjpniakaaW.PrintMore
theorem byteD (d:List Int) (p s:Int) (hd:d.length≤1099511627776) (hp:0≤p):∃ v p' s',spec_l1Byte.f d p s=some (v,p',s')∧0≤v∧v<256∧0≤p':=by
  unfold spec_l1Byte.f
  simp only[i64_and255]
  by_cases h:p<(d.length:Int)
  · rw[if_pos h,if_pos hp,wrap_eq (p+1) (by omega) (by omega)]
    exact⟨_,_,_,rfl,by omega,by omega,by omega⟩
  · rw[if_neg h]
    exact⟨_,_,_,rfl,by omega,by omega,hp⟩
theorem belowD (d:List Int) (p s a:Int) (hd:d.length≤1099511627776) (hp:0≤p):∃ v p' s',spec_l1Below.f d p s a=some (v,p',s')∧0≤v∧(0<a→v<a)∧0≤p':=by
  unfold spec_l1Below.f
  by_cases h:a≤0
  · rw[if_pos h];exact⟨_,_,_,rfl,by omega,by omega,hp⟩
  · rw[if_neg h]
    by_cases h2:a≤256
    · obtain⟨v,p',s',e,h0,h1,hp'⟩:=byteD d p s hd hp
      rw[if_pos h2,e,Option.bind_some,if_neg (by omega)]
      exact⟨_,_,_,rfl,Int.tmod_nonneg _ h0,fun ha=>Int.tmod_lt_of_pos _ ha,hp'⟩
    · rw[if_neg h2]
      obtain⟨v1,p1,s1,e1,a1,b1,hp1⟩:=byteD d p s hd hp
      obtain⟨v2,p2,s2,e2,a2,b2,hp2⟩:=byteD d p1 s1 hd hp1
      obtain⟨v3,p3,s3,e3,a3,b3,hp3⟩:=byteD d p2 s2 hd hp2
      obtain⟨v4,p4,s4,e4,a4,b4,hp4⟩:=byteD d p3 s3 hd hp3
      rw[e1,Option.bind_some,e2,Option.bind_some,e3,Option.bind_some,e4,Option.bind_some,if_neg (by omega)]
      simp only[]
      rw[wrap_eq (v1*16777216) (by omega) (by omega),wrap_eq (v2*65536) (by omega) (by omega),wrap_eq (v3*256) (by omega) (by omega),wrap_eq (v1*16777216+v2*65536) (by omega) (by omega),wrap_eq (v1*16777216+v2*65536+v3*256) (by omega) (by omega),wrap_eq (v1*16777216+v2*65536+v3*256+v4) (by omega) (by omega)]
      exact⟨_,_,_,rfl,Int.tmod_nonneg _ (by omega),fun ha=>Int.tmod_lt_of_pos _ ha,hp4⟩
theorem newD_l0:∀ (n:Nat) (l:List Int) (s:Int) (i:Nat) (k:Nat),l.length - i=n→l.length≤1099511627776→n<k→∃ s',spec_l1New.l0 k l s (i:Int)=some (l,0,s')
  | 0,l,s,i,k,hn,hl,hk=>by
    obtain⟨k,rfl⟩:∃ m,k=m+1:=⟨k - 1,by omega⟩
    simp only[spec_l1New.l0];rw[if_neg (by omega)];exact⟨_,rfl⟩
  | n+1,l,s,i,k,hn,hl,hk=>by
    obtain⟨k,rfl⟩:∃ m,k=m+1:=⟨k - 1,by omega⟩
    simp only[spec_l1New.l0];rw[if_pos (by omega)]
    by_cases h:(i:Int)<4000
    · rw[if_pos h,if_pos (by omega),wrap_eq ((i:Int)+1) (by omega) (by omega)]
      exact newD_l0 n l _ (i+1) k (by omega) hl (by omega)
    · rw[if_neg h];exact⟨_,rfl⟩
theorem newD (l:List Int) (k:Nat) (hl:l.length≤1099511627776) (hk:l.length<k):∃ s',spec_l1New.f k l=some (l,0,s'):=
  newD_l0 _ l _ 0 k rfl hl (by omega)
theorem pickD (d:List Int) (p s:Int) (l:List Int) (hl:0<l.length) (hd:d.length≤1099511627776) (hp:0≤p):∃ v p' s',spec_l1PickInt.f d p s l=some (v,p',s')∧v∈l∧0≤p':=by
  obtain⟨i,p',s',e,h0,h1,hp'⟩:=belowD d p s (l.length:Int) hd hp
  have h1:=h1 (by omega)
  unfold spec_l1PickInt.f
  rw[e,Option.bind_some,if_pos h0,if_pos h1]
  refine⟨_,_,_,rfl,?_,hp'⟩
  unfold rd
  rw[List.getD_eq_getElem?_getD,List.getElem?_eq_getElem (show i.toNat<l.length by omega)]
  exact List.getElem_mem _
theorem bytesD_l0 (d:List Int) (hd:d.length≤1099511627776):∀ (n:Nat) (acc:List Int) (m i p s:Int) (k:Nat),0≤i→(m - i).toNat=n→m≤1000000→acc.length≤10000000→(∀ x∈acc,0≤x∧x<256)→n<1000001→acc.length+n≤10000000→0≤p→n<k→
    ∃ r p' s',spec_l1DrawBytes.l0 k acc m i d p s=some (r,p',s')∧(∀ x∈r,0≤x∧x<256)∧r.length=acc.length+n∧0≤p'
  | 0,acc,m,i,p,s,k,hi,hn,hm,ha,hw,hc,hx,hp,hk=>by
    obtain⟨k,rfl⟩:∃ m,k=m+1:=⟨k - 1,by omega⟩
    simp only[spec_l1DrawBytes.l0];rw[if_neg (by omega)];exact⟨_,_,_,rfl,hw,rfl,hp⟩
  | n+1,acc,m,i,p,s,k,hi,hn,hm,ha,hw,hc,hx,hp,hk=>by
    obtain⟨k,rfl⟩:∃ m,k=m+1:=⟨k - 1,by omega⟩
    obtain⟨v,p',s',e,h0,h1,hp'⟩:=belowD d p s 256 hd hp
    simp only[spec_l1DrawBytes.l0];rw[if_pos (by omega),e,Option.bind_some,if_pos (by omega),wrap_eq (i+1) (by omega) (by omega)]
    obtain⟨r,p2,s2,h,hr,hl,hp2⟩:=bytesD_l0 d hd n (acc++[v % 256]) m (i+1) p' s' k (by omega) (by omega) hm (by simp;omega) (by intro x hx;rcases List.mem_append.1 hx with h | h;exact hw x h;simp at h;omega) (by omega) (by simp;omega) hp' (by omega)
    exact⟨r,p2,s2,h,hr,by rw[hl];simp;omega,hp2⟩
theorem bytesD (d:List Int) (p s a:Int) (hd:d.length≤1099511627776) (hp:0≤p) (ha:0≤a) (hb:a≤100000) (k:Nat) (hk:100001<k):∃ r p' s',spec_l1DrawBytes.f k d p s a=some (r,p',s')∧(∀ x∈r,0≤x∧x<256)∧(r.length:Int)≤a∧0≤p':=by
  obtain⟨v,p',s',e,h0,h1,hp'⟩:=belowD d p s (a+1) hd hp
  have h1:=h1 (by omega)
  unfold spec_l1DrawBytes.f
  rw[wrap_eq (a+1) (by omega) (by omega),e,Option.bind_some]
  obtain⟨r,p2,s2,h,hr,hl,hp2⟩:=bytesD_l0 d hd v.toNat [] v 0 p' s' k (by omega) (by omega) (by omega) (by simp) (by simp) (by omega) (by simp;omega) hp' (by omega)
  exact⟨r,p2,s2,h,hr,by rw[hl];simp;omega,hp2⟩
theorem onceD (d:List Int) (p s a:Int) (hd:d.length≤1099511627776) (hp:0≤p):∃ v p' s',spec_l1Once.f d p s a=some (v,p',s')∧0≤p':=by
  obtain⟨v,p',s',e,_,_,hp'⟩:=belowD d p s a hd hp
  unfold spec_l1Once.f
  rw[e]
  exact⟨_,_,_,rfl,hp'⟩
end Go.Proofs.Ytlalkldjpniakaa.B
