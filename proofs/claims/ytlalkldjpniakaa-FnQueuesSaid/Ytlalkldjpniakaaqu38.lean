import Derived.Test.Ytlalkldjpniakaaqu37
/- Of, by the program and by the reference: how many items have a route; for lists of at most 2^40 items. -/
namespace Go.Proofs.Ytlalkldjpniakaa.B
open Go.RowKit Go.Proofs.Ytlalkldjpniakaa.P Go.Proofs.YtlalkldjpniakaaW.PrintWords Go.Proofs.YtlalkldjpniakaaW.PrintLast Go.Proofs.YtlalkldjpniakaaW.PrintMore
def ofL (a:ByteArray):List S34→Int
  | []=>0
  | x :: l=>(if x.f0.toList=a.toList then 1 else 0)+ofL a l
theorem ofL_bounds (a:ByteArray):∀ l:List S34,0≤ofL a l∧ofL a l≤l.length
  | []=>by simp [ofL]
  | x :: l=>by
    have:=ofL_bounds a l
    simp only[ofL,List.length_cons]
    split <;> omega
theorem specOf_l0 (a:ByteArray):∀ (rest pre:List S34) (n:Int) (k:Nat),0≤n→n+rest.length≤1099511627776→pre.length+rest.length≤1099511627776→rest.length<k→
    spec_Of.l0 k (pre++rest) a n (pre.length:Int)=some (n+ofL a rest)
  | [],pre,n,k,h0,hn,hb,hk=>by
    obtain⟨k,rfl⟩:∃ m,k=m+1:=⟨k - 1,by omega⟩
    simp only[spec_Of.l0];rw[if_neg (nlt_end pre)];simp [ofL]
  | x :: rest,pre,n,k,h0,hn,hb,hk=>by
    obtain⟨k,rfl⟩:∃ m,k=m+1:=⟨k - 1,by simp at hk;omega⟩
    simp only[List.length_cons] at hb hk hn
    simp only[spec_Of.l0]
    rw[if_pos (lt_mid pre x rest),if_pos (pre_nonneg pre),rdT34_mid,wrap_step pre x (by omega),snoc_app pre x rest]
    unfold spec_l1Bit.f
    by_cases e:x.f0.toList=a.toList
    · have ih:=specOf_l0 a rest (pre++[x]) (n+1) k (by omega) (by omega) (by simp;omega) (by omega)
      rw[if_pos (by simpa using e),Option.bind_some,wrap_eq _ (by omega) (by omega),ih]
      simp only[ofL];rw[if_pos e];congr 1;omega
    · have ih:=specOf_l0 a rest (pre++[x]) n k (by omega) (by omega) (by simp;omega) (by omega)
      rw[if_neg (by simpa using e),Option.bind_some,wrap_eq _ (by omega) (by omega),Int.add_zero,ih]
      simp only[ofL];rw[if_neg e];congr 1;omega
theorem specOf (l:List S34) (a:ByteArray) (hl:l.length≤1099511627776) (k:Nat) (hk:l.length<k):spec_Of.f k l a=some (ofL a l):=by
  have h:=specOf_l0 a l [] 0 k (by omega) (by omega) (by simp;omega) hk
  simpa [spec_Of.f] using h
theorem implOf_l0 (a:ByteArray):∀ (rest pre:List S34) (n m:Int) (k:Nat),m=(((pre++rest).length:Nat):Int)→0≤n→n+rest.length≤1099511627776→pre.length+rest.length≤1099511627776→rest.length<k→
    impl_Of.l0 k a n (pre++rest) m (pre.length:Int)=some (n+ofL a rest)
  | [],pre,n,m,k,hm,h0,hn,hb,hk=>by
    obtain⟨k,rfl⟩:∃ m,k=m+1:=⟨k - 1,by omega⟩
    simp only[impl_Of.l0];rw[hm,if_neg (nlt_end pre)];simp [ofL]
  | x :: rest,pre,n,m,k,hm,h0,hn,hb,hk=>by
    obtain⟨k,rfl⟩:∃ m,k=m+1:=⟨k - 1,by simp at hk;omega⟩
    simp only[List.length_cons] at hb hk hn
    simp only[impl_Of.l0]
    rw[if_pos (by rw[hm];exact lt_mid pre x rest),if_pos (pre_nonneg pre),if_pos (lt_mid pre x rest),rdT34_mid,wrap_step pre x (by omega),snoc_app pre x rest]
    by_cases e:x.f0.toList=a.toList
    · have ih:=implOf_l0 a rest (pre++[x]) (n+1) m k (by rw[hm];simp) (by omega) (by omega) (by simp;omega) (by omega)
      rw[if_pos e,wrap_eq _ (by omega) (by omega),ih]
      simp only[ofL];rw[if_pos e];congr 1;omega
    · have ih:=implOf_l0 a rest (pre++[x]) n m k (by rw[hm];simp) (by omega) (by omega) (by simp;omega) (by omega)
      rw[if_neg e,ih]
      simp only[ofL];rw[if_neg e];congr 1;omega
theorem implOf (l:List S34) (a:ByteArray) (hl:l.length≤1099511627776) (k:Nat) (hk:l.length<k):impl_Of.f k l a=some (ofL a l):=by
  have h:=implOf_l0 a l [] 0 _ k rfl (by omega) (by omega) (by simp;omega) hk
  simpa [impl_Of.f] using h
end Go.Proofs.Ytlalkldjpniakaa.B
/- Unhex, by the program and by the reference; for texts of at most 2^40 bytes. -/
namespace Go.Proofs.Ytlalkldjpniakaa.B
open Go.RowKit Go.Proofs.Ytlalkldjpniakaa.P Go.Proofs.YtlalkldjpniakaaW.PrintWords Go.Proofs.YtlalkldjpniakaaW.PrintLast Go.Proofs.YtlalkldjpniakaaW.PrintMore
def sgn (c:Int):Int:=if 48≤c∧c≤57 then c - 48 else if 97≤c∧c≤102 then c - 87 else -1
theorem sgn_range (c:Int): -1≤sgn c∧sgn c<16:=by
  unfold sgn
  split
  · omega
  · split <;> omega
theorem bt_rng (s:ByteArray) (i:Int):0≤bt s i∧bt s i<256:=by
  unfold bt;split
  · have:=(s[i.toNat]'(by assumption)).toNat_lt;omega
  · omega
theorem specSign (c:Int) (h0:0≤c) (h1:c<256) (k:Nat):spec_l1Sign.f (k+1) c=some (sgn c):=by
  have e0:wrap64 c=c:=wrap_eq _ (by omega) (by omega)
  unfold spec_l1Sign.f sgn
  simp only[spec_l1Sign.j0,e0,decide_eq_true_eq]
  repeat' split
  all_goals first | rfl | contradiction | (exfalso;omega) | (rw[wrap_eq _ (by omega) (by omega)])
theorem implSign256:∀ n:Fin 256,Lib.indexByte [48,49,50,51,52,53,54,55,56,57,97,98,99,100,101,102] n.val.toUInt8=sgn (n.val:Int):=by
  decide+kernel
theorem implSign (c:Int) (h0:0≤c) (h1:c<256):strings_IndexByte.f (⟨#[48,49,50,51,52,53,54,55,56,57,97,98,99,100,101,102]⟩:ByteArray) c=some (sgn c):=by
  have h:=implSign256 ⟨c.toNat,by omega⟩
  simp only[strings_IndexByte.f,stringslite_IndexByte.f,Option.bind_some]
  rw[show((c.toNat:Nat):Int)=c from by omega] at h
  exact congrArg some h
theorem two16:∀ a b:Fin 16,(wrap64 ((wrap64 (16*(a.val:Int)))+(b.val:Int))) % 256=(Go.bits .or .i64 (wrap64 ((a.val:Int)*16)) (b.val:Int)) % 256:=by
  decide+kernel
theorem two (a b:Int) (ha:0≤a∧a<16) (hb:0≤b∧b<16):(Go.bits .or .i64 (wrap64 (a*16)) b) % 256=(wrap64 ((wrap64 (16*a))+b)) % 256:=by
  have h:=two16 ⟨a.toNat,by omega⟩ ⟨b.toNat,by omega⟩
  simp only[] at h
  rw[show((a.toNat:Nat):Int)=a from by omega,show((b.toNat:Nat):Int)=b from by omega] at h
  exact h.symm
theorem unhex_l0 (s:ByteArray) (hs:s.size≤1099511627776):∀ (n i:Nat) (acc:List Int),s.size - i≤n→i≤s.size→i % 2=0→acc.length+(s.size - i)≤4398046511104→
    ∃ r:List Int×Bool,r.1.length≤acc.length+(s.size - i)∧(s.size % 2=1→r=([],false))∧(∀ k,n+2<k→spec_Unhex.l0 k s acc (i:Int)=some r)∧(∀ k,n+2<k→s.size % 2=0→impl_Unhex.l0 k s acc (i:Int)=some r)∧(r.2=true→2*r.1.length=2*acc.length+(s.size - i))
  | 0,i,acc,hn,hi,h2,hc=>by
    have he:i=s.size:=by omega
    subst he
    refine⟨(acc,true),by simp,fun h=>by omega,fun k hk=>?_,fun k hk _=>?_,fun _=>by simp⟩
    · obtain⟨k,rfl⟩:∃ m,k=m+1:=⟨k - 1,by omega⟩
      simp only[spec_Unhex.l0];rw[wrap_eq _ (by omega) (by omega),if_neg (by omega),if_pos (by omega)]
    · obtain⟨k,rfl⟩:∃ m,k=m+1:=⟨k - 1,by omega⟩
      simp only[impl_Unhex.l0];rw[if_neg (by omega)]
  | n+1,i,acc,hn,hi,h2,hc=>by
    by_cases hd:i+1<s.size
    · have e1:wrap64 ((i:Int)+1)=i+1:=wrap_eq _ (by omega) (by omega)
      have e2:wrap64 ((i:Int)+2)=((i+2:Nat):Int):=by rw[wrap_eq _ (by omega) (by omega)];rfl
      obtain⟨a0,a1⟩:=bt_rng s i
      obtain⟨b0,b1⟩:=bt_rng s ((i:Int)+1)
      obtain⟨sa0,sa1⟩:=sgn_range (bt s i)
      obtain⟨sb0,sb1⟩:=sgn_range (bt s ((i:Int)+1))
      by_cases bad:sgn (bt s i)<0∨sgn (bt s ((i:Int)+1))<0
      · refine⟨([],false),by simp,fun _=>rfl,fun k hk=>?_,fun k hk _=>?_,fun h=>by cases h⟩
        · obtain⟨k,rfl⟩:∃ m,k=m+2:=⟨k - 2,by omega⟩
          simp only[spec_Unhex.l0,e1,specSign _ a0 a1,specSign _ b0 b1,Option.bind_some]
          rw[if_pos (by omega),if_pos (by omega),if_pos (by omega),if_pos (by omega)]
          by_cases hx:sgn (bt s i)<0
          · rw[if_pos hx]
          · rw[if_neg hx,if_pos (by omega)]
        · obtain⟨k,rfl⟩:∃ m,k=m+1:=⟨k - 1,by omega⟩
          simp only[impl_Unhex.l0,e1,implSign _ a0 a1,implSign _ b0 b1,Option.bind_some]
          rw[if_pos (by omega),if_pos (by omega),if_pos (by omega),if_pos (by omega)]
          by_cases hx:sgn (bt s i)<0
          · rw[if_pos hx]
          · rw[if_neg hx,if_pos (by omega)]
      · obtain⟨r,hr0,hr1,hr2,hr3,hr4⟩:=unhex_l0 s hs n (i+2) (acc++[(wrap64 ((wrap64 (16*sgn (bt s i)))+sgn (bt s ((i:Int)+1)))) % 256]) (by omega) (by omega) (by omega) (by simp;omega)
        refine⟨r,by simp at hr0;omega,hr1,fun k hk=>?_,fun k hk h=>?_,fun h=>by have h4:=hr4 h;rw[List.length_append,List.length_singleton] at h4;omega⟩
        · obtain⟨k,rfl⟩:∃ m,k=m+2:=⟨k - 2,by omega⟩
          simp only[spec_Unhex.l0.eq_2,e1,e2,specSign _ a0 a1,specSign _ b0 b1,Option.bind_some]
          rw[if_pos (by omega),if_pos (by omega),if_pos (by omega),if_pos (by omega),if_neg (by omega),if_neg (by omega),if_pos (by omega)]
          exact hr2 (k+1) (by omega)
        · obtain⟨k,rfl⟩:∃ m,k=m+1:=⟨k - 1,by omega⟩
          simp only[impl_Unhex.l0,e1,e2,implSign _ a0 a1,implSign _ b0 b1,Option.bind_some]
          rw[if_pos (by omega),if_pos (by omega),if_pos (by omega),if_pos (by omega),if_neg (by omega),if_neg (by omega),if_pos (by omega),two _ _ (by omega) (by omega)]
          exact hr3 k (by omega) h
    · by_cases ho:i=s.size
      · subst ho
        refine⟨(acc,true),by simp,fun h=>by omega,fun k hk=>?_,fun k hk _=>?_,fun _=>by simp⟩
        · obtain⟨k,rfl⟩:∃ m,k=m+1:=⟨k - 1,by omega⟩
          simp only[spec_Unhex.l0];rw[wrap_eq _ (by omega) (by omega),if_neg (by omega),if_pos (by omega)]
        · obtain⟨k,rfl⟩:∃ m,k=m+1:=⟨k - 1,by omega⟩
          simp only[impl_Unhex.l0];rw[if_neg (by omega)]
      · refine⟨([],false),by simp,fun _=>rfl,fun k hk=>?_,fun k hk h=>by omega,fun h=>by cases h⟩
        obtain⟨k,rfl⟩:∃ m,k=m+1:=⟨k - 1,by omega⟩
        simp only[spec_Unhex.l0];rw[wrap_eq _ (by omega) (by omega),if_neg (by omega),if_neg (by omega)]
theorem unhex (s:ByteArray) (hs:s.size≤1099511627776):∃ r:List Int×Bool,r.1.length≤s.size∧(r.2=true→2*r.1.length=s.size)∧∀ k,s.size+3<k→spec_Unhex.f k s=some r∧impl_Unhex.f k s=some r:=by
  obtain⟨r,h0,h1,h2,h3,h4⟩:=unhex_l0 s hs s.size 0 [] (by omega) (by omega) rfl (by simp;omega)
  refine⟨r,by simpa using h0,fun h=>by simpa using h4 h,fun k hk=>⟨h2 k (by omega),?_⟩⟩
  unfold impl_Unhex.f
  by_cases he:s.size % 2=0
  · rw[if_pos (by omega)];exact h3 k (by omega) he
  · rw[if_neg (by omega),h1 (by omega)]
end Go.Proofs.Ytlalkldjpniakaa.B
/- 'from lo to hi', by the program and by the reference; for every three numbers. -/
namespace Go.Proofs.Ytlalkldjpniakaa.B
open Go.RowKit Go.Proofs.Ytlalkldjpniakaa.P Go.Proofs.YtlalkldjpniakaaW.PrintWords Go.Proofs.YtlalkldjpniakaaW.PrintLast Go.Proofs.YtlalkldjpniakaaW.PrintMore
theorem specIn (a b c:Int):spec_l1In.f a b c=some (decide (b≤a∧a≤c)):=by
  unfold spec_l1In.f
  by_cases h:a≥b
  · rw[if_pos h];simp [show b≤a from h]
  · rw[if_neg h];simp [show ¬b≤a from h]
theorem implIn (a b c:Int):impl_in.f a b c=some (decide (b≤a∧a≤c)):=specIn a b c
end Go.Proofs.Ytlalkldjpniakaa.B
/- ItemOk, by the program and by the reference: one answer; for every item. -/
namespace Go.Proofs.Ytlalkldjpniakaa.B
open Go.RowKit Go.Proofs.Ytlalkldjpniakaa.P Go.Proofs.YtlalkldjpniakaaW.PrintWords Go.Proofs.YtlalkldjpniakaaW.PrintLast Go.Proofs.YtlalkldjpniakaaW.PrintMore
theorem route (s:ByteArray) (hs:s.size≤1099511627776):∃ b:Bool,∀ k,s.size+3<k→spec_l13Route.f k s=some b∧impl_isRoute.f k s=some b:=by
  obtain⟨r,h1,h2,h3⟩:=unhex s hs
  refine⟨if r.2=true then((s.size:Int)==16) else false,fun k hk=>⟨?_,?_⟩⟩
  · unfold spec_l13Route.f
    rw[(h3 k hk).1,Option.bind_some]
    by_cases c:r.2=true
    · have h:=h2 c
      rw[if_pos c,if_pos c]
      congr 1
      rw[Bool.eq_iff_iff,beq_iff_eq,beq_iff_eq]
      omega
    · rw[if_neg c,if_neg c]
  · unfold impl_isRoute.f
    rw[(h3 k hk).2,Option.bind_some]
    by_cases c:r.2=true
    · rw[if_pos c,if_pos c]
    · rw[if_neg c,if_neg c]
theorem itemOk (s:ByteArray) (n m:Int) (l:List Int) (hs:s.size≤1099511627776):∃ b:Bool,∀ k,s.size+3<k→spec_ItemOk.f k s n m l=some b∧impl_ItemOk.f k s n m l=some b:=by
  obtain⟨b,hb⟩:=route s hs
  refine⟨if b=true then(if decide (0≤n∧n≤9)=true then(if decide (0≤m∧m≤100000)=true then decide ((l.length:Int)≤1560) else false) else false) else false,fun k hk=>⟨?_,?_⟩⟩
  · unfold spec_ItemOk.f
    rw[(hb k hk).1,Option.bind_some,specIn,specIn]
    simp only[Option.bind_some]
    split <;> (try split) <;> (try split) <;> rfl
  · unfold impl_ItemOk.f
    rw[(hb k hk).2,Option.bind_some,implIn,implIn]
    simp only[Option.bind_some]
    split <;> (try split) <;> (try split) <;> rfl
end Go.Proofs.Ytlalkldjpniakaa.B
/- QueueOk, by the program and by the reference: one answer; for lists of at most 2^40 items whose routes are no longer than 2^40. -/
namespace Go.Proofs.Ytlalkldjpniakaa.B
open Go.RowKit Go.Proofs.Ytlalkldjpniakaa.P Go.Proofs.YtlalkldjpniakaaW.PrintWords Go.Proofs.YtlalkldjpniakaaW.PrintLast Go.Proofs.YtlalkldjpniakaaW.PrintMore
/-- Whether an item is in order. -/
noncomputable def okB (x:S34):Bool:=if h:x.f0.size≤1099511627776 then(itemOk x.f0 x.f1 x.f2 x.f3 h).choose else false
theorem okB_spec (x:S34) (h:x.f0.size≤1099511627776) (k:Nat) (hk:x.f0.size+3<k):spec_ItemOk.f k x.f0 x.f1 x.f2 x.f3=some (okB x):=by
  unfold okB
  rw[dif_pos h]
  exact((itemOk x.f0 x.f1 x.f2 x.f3 h).choose_spec k hk).1
theorem okB_impl (x:S34) (h:x.f0.size≤1099511627776) (k:Nat) (hk:x.f0.size+3<k):impl_ItemOk.f k x.f0 x.f1 x.f2 x.f3=some (okB x):=by
  unfold okB
  rw[dif_pos h]
  exact((itemOk x.f0 x.f1 x.f2 x.f3 h).choose_spec k hk).2
/-- Whether the items that follow may follow. -/
noncomputable def queueL (L:List S34):List S34→List S34→Bool
  | [],_=>true
  | x :: rest,pre=>okB x && (!decide (ofL x.f0 L>4) && (!(decide (x.f1>0) && pre.any (likeI x.f0 x.f1)) && queueL L rest (pre++[x])))
theorem specQueueOk_l1 (x:S34) (rest:List S34) (r:Bool):∀ (p2 p1:List S34),(p1++p2).length≤1099511627776→Ev (fun k=>spec_QueueOk.l0 k (p1++p2++x :: rest) (wrap64 (((p1++p2).length:Nat)+1))) r→
    Ev (fun k=>spec_QueueOk.l1 k (p1++p2++x :: rest) ((p1++p2).length:Nat) (p1.length:Nat)) (!(decide (x.f1>0) && p2.any (likeI x.f0 x.f1)) && r)
  | [],p1,hb,h=>by
    refine evUp ?_
    simp only[spec_QueueOk.l1]
    refine evNeg (by simp) ?_
    simpa using h
  | y :: p2,p1,hb,h=>by
    refine evUp ?_
    simp only[spec_QueueOk.l1]
    have hlen:(p1++y :: p2).length=p1.length+(p2.length+1):=by simp
    have hlen2:(p1++y :: p2++x :: rest).length=p1.length+(p2.length+1)+(rest.length+1):=by simp;omega
    refine evPos (by omega) (evPos (by omega) (evPos (by omega) (evPos (by omega) (evPos (by omega) ?_))))
    have e1:rd_T34 (p1++y :: p2++x :: rest) ((p1.length:Nat):Int)=y:=by
      rw[List.append_assoc];exact rdT34_mid p1 y (p2++x :: rest)
    have e2:rd_T34 (p1++y :: p2++x :: rest) (((p1++y :: p2).length:Nat):Int)=x:=rdT34_mid (p1++y :: p2) x rest
    simp only[e1,e2]
    have ih:=specQueueOk_l1 x rest r p2 (p1++[y]) (by simpa using hb) (by simpa using h)
    have es:wrap64 ((p1.length:Int)+1)=(((p1++[y]).length:Nat):Int):=wrap_step p1 y (by omega)
    rw[show p1++[y]++p2=p1++y :: p2 by simp] at ih
    simp only[es]
    by_cases c1:y.f0.toList=x.f0.toList
    · refine evPos c1 ?_
      by_cases c2:y.f1=x.f1
      · refine evPos c2 ?_
        by_cases c3:x.f1>0
        · refine evPos c3 ?_
          have:(!(decide (x.f1>0) && (y :: p2).any (likeI x.f0 x.f1)) && r)=false:=by simp [likeI,c1,c2,c3]
          rw[this];exact evConst _
        · refine evNeg c3 ?_
          have:(!(decide (x.f1>0) && (y :: p2).any (likeI x.f0 x.f1)) && r)=(!(decide (x.f1>0) && p2.any (likeI x.f0 x.f1)) && r):=by simp [c3]
          rw[this];exact ih
      · refine evNeg c2 ?_
        have:(!(decide (x.f1>0) && (y :: p2).any (likeI x.f0 x.f1)) && r)=(!(decide (x.f1>0) && p2.any (likeI x.f0 x.f1)) && r):=by
          have hlk:likeI x.f0 x.f1 y=false:=by unfold likeI;rw[beq_eq_false_iff_ne.2 c2,Bool.and_false]
          simp only[List.any_cons,hlk,Bool.false_or]
        rw[this];exact ih
    · refine evNeg c1 ?_
      have:(!(decide (x.f1>0) && (y :: p2).any (likeI x.f0 x.f1)) && r)=(!(decide (x.f1>0) && p2.any (likeI x.f0 x.f1)) && r):=by
        have hlk:likeI x.f0 x.f1 y=false:=by unfold likeI;rw[beq_eq_false_iff_ne.2 c1,Bool.false_and]
        simp only[List.any_cons,hlk,Bool.false_or]
      rw[this];exact ih
theorem specQueueOk_l0 (L:List S34) (hL:L.length≤1099511627776) (hx:∀ y∈L,y.f0.size≤1099511627776):∀ (rest pre:List S34),L=pre++rest→Ev (fun k=>spec_QueueOk.l0 k L (pre.length:Nat)) (queueL L rest pre && decide ((L.length:Int)≤10))
  | [],pre,e=>by
    refine evUp ?_
    simp only[spec_QueueOk.l0]
    refine evNeg (by rw[e];simp) ?_
    simp only[queueL,Bool.true_and]
    exact evConst _
  | x :: rest,pre,e=>by
    have ih:=specQueueOk_l0 L hL hx rest (pre++[x]) (by rw[e];simp)
    have hxx:=hx x (by rw[e];simp)
    have hl:L.length=pre.length+(rest.length+1):=by rw[e];simp
    have e2:rd_T34 L ((pre.length:Nat):Int)=x:=by rw[e];exact rdT34_mid pre x rest
    have es:wrap64 ((pre.length:Int)+1)=(((pre++[x]).length:Nat):Int):=wrap_step pre x (by omega)
    refine evUp ?_
    simp only[spec_QueueOk.l0]
    refine evPos (by omega) (evPos (by omega) ?_)
    simp only[e2]
    refine evBind (a:=okB x) (evOf _ fun k hk=>okB_spec x hxx k hk) ?_
    have hj:∀ b:Bool,Ev (fun k=>spec_QueueOk.j1 k L (pre.length:Nat) b) (!b && (!(decide (x.f1>0) && pre.any (likeI x.f0 x.f1)) && (queueL L rest (pre++[x]) && decide ((L.length:Int)≤10)))):=by
      intro b
      refine evUp ?_
      simp only[spec_QueueOk.j1]
      cases b with
      | true=>exact evPos rfl (evConst _)
      | false=>
        refine evNeg (by simp) ?_
        have h1:=specQueueOk_l1 x rest (queueL L rest (pre++[x]) && decide ((L.length:Int)≤10)) pre [] (by simpa using(by omega:pre.length≤1099511627776)) (by simpa [← e,es] using ih)
        simpa [← e] using h1
    cases hb:okB x with
    | false=>
      refine evNeg (by simp) ?_
      have h2:=hj true
      simpa [queueL,hb] using h2
    | true=>
      refine evPos rfl (evBind (a:=ofL x.f0 L) (evOf _ fun k hk=>specOf L x.f0 hL k hk) ?_)
      have h2:=hj (decide (ofL x.f0 L>4))
      simpa [queueL,hb,Bool.and_assoc] using h2
theorem implQueueOk_l0 (L:List S34) (hL:L.length≤1099511627776) (hx:∀ y∈L,y.f0.size≤1099511627776):∀ (rest pre:List S34),L=pre++rest→Ev (fun k=>impl_QueueOk.l0 k L pre.length) (queueL L rest pre)
  | [],pre,e=>by
    refine evUp ?_
    simp only[impl_QueueOk.l0]
    refine evNeg (by rw[e];simp) ?_
    simp only[queueL]
    exact evConst _
  | x :: rest,pre,e=>by
    have ih:=implQueueOk_l0 L hL hx rest (pre++[x]) (by rw[e];simp)
    have hxx:=hx x (by rw[e];simp)
    have hl:L.length=pre.length+(rest.length+1):=by rw[e];simp
    have e2:rd_T34 L ((pre.length:Nat):Int)=x:=by rw[e];exact rdT34_mid pre x rest
    have e3:L.take pre.length=pre:=by rw[e];simp
    have e4:(pre++[x]).length=pre.length+1:=by simp
    rw[e4] at ih
    refine evUp ?_
    simp only[impl_QueueOk.l0]
    refine evPos (by omega) ?_
    simp only[e2,e3]
    refine evBind (a:=okB x) (evOf _ fun k hk=>okB_impl x hxx k hk) ?_
    cases hb:okB x with
    | false=>
      refine evNeg (by simp) ?_
      simp only[queueL,hb,Bool.false_and]
      exact evConst _
    | true=>
      refine evPos rfl (evBind (a:=ofL x.f0 L) (evOf _ fun k hk=>implOf L x.f0 hL k hk) ?_)
      by_cases c:ofL x.f0 L>4
      · refine evPos c ?_
        simp only[queueL,c,decide_true,Bool.not_true,Bool.false_and,Bool.and_false]
        exact evConst _
      · refine evNeg c ?_
        by_cases c1:x.f1>0
        · refine evPos c1 ?_
          by_cases c2:pre.any (likeI x.f0 x.f1)=true
          · refine evPos c2 ?_
            have:queueL L (x :: rest) pre=false:=by simp only[queueL,c1,c2];simp
            rw[this];exact evConst _
          · refine evNeg c2 ?_
            have:queueL L (x :: rest) pre=queueL L rest (pre++[x]):=by simp only[queueL,hb,c,c1];simp [c2]
            rw[this];exact ih
        · refine evNeg c1 ?_
          have:queueL L (x :: rest) pre=queueL L rest (pre++[x]):=by simp only[queueL,hb,c,c1];simp
          rw[this];exact ih
noncomputable def queueOkL (L:List S34):Bool:=queueL L L [] && decide ((L.length:Int)≤10)
theorem specQueueOk (L:List S34) (hL:L.length≤1099511627776) (hx:∀ y∈L,y.f0.size≤1099511627776):Ev (fun k=>spec_QueueOk.f k L) (queueOkL L):=specQueueOk_l0 L hL hx L [] rfl
theorem implQueueOk (L:List S34) (hL:L.length≤1099511627776) (hx:∀ y∈L,y.f0.size≤1099511627776):Ev (fun k=>impl_QueueOk.f k L) (queueOkL L):=by
  unfold impl_QueueOk.f queueOkL
  by_cases c:(L.length:Int)>10
  · refine evPos c ?_
    have:¬(L.length:Int)≤10:=by omega
    simp only[this,decide_false,Bool.and_false]
    exact evConst _
  · refine evNeg c ?_
    have:(L.length:Int)≤10:=by omega
    simp only[this,decide_true,Bool.and_true]
    exact implQueueOk_l0 L hL hx L [] rfl
end Go.Proofs.Ytlalkldjpniakaa.B
