import Derived.Test.Ytlalkldjpniakaaqu39
/- What the reference draws for a queue: there is always an answer, and how large it is; for lists of at most 2^40 bytes. -/
namespace Go.Proofs.Ytlalkldjpniakaa.B
open Go.RowKit Go.Proofs.Ytlalkldjpniakaa.P Go.Proofs.YtlalkldjpniakaaW.PrintWords Go.Proofs.YtlalkldjpniakaaW.PrintLast Go.Proofs.YtlalkldjpniakaaW.PrintMore
set_option linter.unusedSimpArgs false
theorem pickS (d:List Int) (p s:Int) (l:List ByteArray) (hl:0<l.length) (hd:d.length≤1099511627776) (hp:0≤p):∃ v p' s',spec_l1Pick.f d p s l=some (v,p',s')∧v∈l∧0≤p':=by
  obtain⟨i,p',s',e,h0,h1,hp'⟩:=belowD d p s (l.length:Int) hd hp
  have h1:=h1 (by omega)
  unfold spec_l1Pick.f
  rw[e,Option.bind_some,if_pos h0,if_pos h1]
  refine⟨_,_,_,rfl,?_,hp'⟩
  unfold rdOf
  rw[List.getD_eq_getElem?_getD,List.getElem?_eq_getElem (show i.toNat<l.length by omega)]
  exact List.getElem_mem _
theorem newE (l:List Int) (hl:l.length≤1099511627776):∃ s',Ev (fun k=>spec_l1New.f k l) (l,0,s'):=by
  obtain⟨s',h⟩:=newD l (l.length+1) hl (by omega)
  exact⟨s',Ev.of (fun k=>spec_l1New.mono l k) h⟩
theorem routeD (d:List Int) (p s:Int) (hd:d.length≤1099511627776) (hp:0≤p):∃ v p' s',spec_l13DrawRoute.f d p s=some (v,p',s')∧v.size≤16∧0≤p':=by
  unfold spec_l13DrawRoute.f
  obtain⟨v,p',s',e,h,hp'⟩:=pickS d p s [⟨#[48,48,48,48,48,48,48,48,48,48,48,48,48,48,48,48]⟩,⟨#[48,48,48,48,48,48,48,48,48,48,48,48,48,48,102,102]⟩,⟨#[97,98,99,100,101,102,48,49,50,51,52,53,54,55,56,57]⟩] (by simp) hd hp
  rw[e]
  refine⟨v,p',s',rfl,?_,hp'⟩
  simp only[List.mem_cons,List.not_mem_nil,or_false] at h
  rcases h with rfl | rfl | rfl <;> decide
theorem itemD (d:List Int) (p s:Int) (hd:d.length≤1099511627776) (hp:0≤p):∃ a n m b p' s',Ev (fun k=>spec_l13DrawItem.f k d p s) (a,n,m,b,p',s')∧small ⟨a,n,m,b⟩∧0≤p':=by
  unfold spec_l13DrawItem.f
  obtain⟨a,p1,s1,e1,h1,hp1⟩:=routeD d p s hd hp
  obtain⟨n,p2,s2,e2,_,_,hp2⟩:=belowD d p1 s1 3 hd hp1
  obtain⟨m,p3,s3,e3,_,hp3⟩:=pickD d p2 s2 [0,5,20,100] (by simp) hd hp2
  obtain⟨b,p4,s4,e4,_,hl,hp4⟩:=bytesD d p3 s3 6 hd hp3 (by omega) (by omega) 100002 (by omega)
  have E4:Ev (fun k=>spec_l1DrawBytes.f k d p3 s3 6) (b,p4,s4):=Ev.of (fun k=>spec_l1DrawBytes.mono d p3 s3 6 k) e4
  obtain⟨v,p5,s5,e5,_,_,hp5⟩:=belowD d p4 s4 16 hd hp4
  simp only[e1,e2,e3,Option.bind_some]
  have ha:a.size≤1099511627776:=by omega
  have hb:b.length≤1099511627776:=by omega
  by_cases c0:v=0
  · obtain⟨u,p6,s6,e6,h6,hp6⟩:=pickS d p5 s5 [⟨#[]⟩,⟨#[48,48]⟩,⟨#[48,48,48,48,48,48,48,48,48,48,48,48,48,48,48,103]⟩] (by simp) hd hp5
    refine⟨u,n,m,b,p6,s6,evBind E4 ?_,⟨?_,hb⟩,hp6⟩
    · simp only[e5,Option.bind_some,e6]
      exact evPos c0 (evConst _)
    · have h7:u.size≤16:=by
        simp only[List.mem_cons,List.not_mem_nil,or_false] at h6
        rcases h6 with rfl | rfl | rfl <;> decide
      show u.size≤1099511627776
      omega
  · by_cases c1:v=1
    · obtain⟨u,p6,s6,e6,h6,hp6⟩:=pickD d p5 s5 [-1,9,10] (by simp) hd hp5
      refine⟨a,u,m,b,p6,s6,evBind E4 ?_,⟨ha,hb⟩,hp6⟩
      simp only[e5,Option.bind_some,e6]
      exact evNeg c0 (evPos c1 (evConst _))
    · by_cases c2:v=2
      · obtain⟨u,p6,s6,e6,h6,hp6⟩:=pickD d p5 s5 [-1,100000,100001] (by simp) hd hp5
        refine⟨a,n,u,b,p6,s6,evBind E4 ?_,⟨ha,hb⟩,hp6⟩
        simp only[e5,Option.bind_some,e6]
        exact evNeg c0 (evNeg c1 (evPos c2 (evConst _)))
      · refine⟨a,n,m,b,p5,s5,evBind E4 ?_,⟨ha,hb⟩,hp5⟩
        simp only[e5,Option.bind_some]
        exact evNeg c0 (evNeg c1 (evNeg c2 (evConst _)))
theorem rightD (d:List Int) (hd:d.length≤1099511627776):∀ (n:Nat) (L:List S34) (i p s:Int),0≤i→i+n=9→(L.length:Int)≤i→(∀ x∈L,small x)→0≤p→
    ∃ L' p' s',Ev (fun k=>spec_l13DrawRight.l0 k L i d p s) (L',p',s')∧L'.length≤9∧(∀ x∈L',small x)∧0≤p'
  | 0,L,i,p,s,h0,hi,hl,hs,hp=>by
    obtain⟨v,p1,s1,e1,_,h1,hp1⟩:=belowD d p s 9 hd hp
    have h1:=h1 (by omega)
    refine⟨L,p1,s1,evUp ?_,by omega,hs,hp1⟩
    simp only[spec_l13DrawRight.l0,e1,Option.bind_some]
    exact evNeg (by omega) (evConst _)
  | n+1,L,i,p,s,h0,hi,hl,hs,hp=>by
    obtain⟨v,p1,s1,e1,_,h1,hp1⟩:=belowD d p s 9 hd hp
    have h1:=h1 (by omega)
    by_cases c:i<v
    · obtain⟨a,t,m,b,p2,s2,e2,hx,hp2⟩:=itemD d p1 s1 hd hp1
      have hpl:=putL_len L a t m b
      obtain⟨L',p3,s3,e3,h3,hs3,hp3⟩:=rightD d hd n (putL L a t m b).1 (i+1) p2 s2 (by omega) (by omega) (by omega) (putL_small hs hx) hp2
      refine⟨L',p3,s3,evUp ?_,h3,hs3,hp3⟩
      simp only[spec_l13DrawRight.l0,e1,Option.bind_some,wrap_eq (i+1) (by omega) (by omega)]
      exact evPos c (evBind e2 (evBind (specPut a t m b hx L (by omega) hs) e3))
    · refine⟨L,p1,s1,evUp ?_,by omega,hs,hp1⟩
      simp only[spec_l13DrawRight.l0,e1,Option.bind_some]
      exact evNeg c (evConst _)
theorem queueD (d:List Int) (hd:d.length≤1099511627776) (p s:Int) (hp:0≤p):∃ L p' s',Ev (fun k=>spec_l13Draw.f k d p s) (L,p',s')∧L.length≤10∧(∀ x∈L,small x)∧0≤p':=by
  obtain⟨L,p1,s1,e1,hl,hs,hp1⟩:=rightD d hd 9 [] 0 p s (by omega) (by omega) (by simp) (by simp) hp
  obtain⟨v,p2,s2,e2,hp2⟩:=onceD d p1 s1 6 hd hp1
  unfold spec_l13Draw.f
  cases v with
  | true=>
    obtain⟨a,t,m,b,p3,s3,e3,hx,hp3⟩:=itemD d p2 s2 hd hp2
    refine⟨L++[⟨a,t,m,b⟩],p3,s3,evBind e1 ?_,by simp;omega,fun y hy=>?_,hp3⟩
    · simp only[e2,Option.bind_some]
      exact evPos (by trivial) (evBind e3 (evPos (by omega) (evConst _)))
    · rcases List.mem_append.1 hy with h | h
      · exact hs y h
      · rw[List.mem_singleton.1 h];exact hx
  | false=>
    refine⟨L,p2,s2,evBind e1 ?_,by omega,hs,hp2⟩
    simp only[e2,Option.bind_some]
    exact evNeg (by simp) (evConst _)
theorem drawPut (l:List Int) (hl:l.length≤1099511627776):∃ L a n m b,Ev (fun k=>spec_DrawPut.f k l) (L,a,n,m,b)∧L.length≤10∧(∀ x∈L,small x)∧small ⟨a,n,m,b⟩:=by
  obtain⟨s0,e0⟩:=newE l hl
  obtain⟨L,p1,s1,e1,h1,hs,hp1⟩:=queueD l hl 0 s0 (by omega)
  obtain⟨a,n,m,b,p2,s2,e2,hx,hp2⟩:=itemD l p1 s1 hl hp1
  refine⟨L,a,n,m,b,?_,h1,hs,hx⟩
  unfold spec_DrawPut.f
  exact evBind e0 (evBind e1 (evBind e2 (evConst _)))
theorem drawTake (l:List Int) (hl:l.length≤1099511627776):∃ L a,Ev (fun k=>spec_DrawTake.f k l) (L,a)∧L.length≤10∧(∀ x∈L,small x)∧a.size≤16:=by
  obtain⟨s0,e0⟩:=newE l hl
  obtain⟨L,p1,s1,e1,h1,hs,hp1⟩:=queueD l hl 0 s0 (by omega)
  obtain⟨a,p2,s2,e2,hx,hp2⟩:=routeD l p1 s1 hl hp1
  refine⟨L,a,?_,h1,hs,hx⟩
  unfold spec_DrawTake.f
  refine evBind e0 (evBind e1 ?_)
  simp only[e2,Option.bind_some]
  exact evConst _
theorem drawDue (l:List Int) (hl:l.length≤1099511627776):∃ L n,Ev (fun k=>spec_DrawDue.f k l) (L,n)∧L.length≤10∧(∀ x∈L,small x):=by
  obtain⟨s0,e0⟩:=newE l hl
  obtain⟨L,p1,s1,e1,h1,hs,hp1⟩:=queueD l hl 0 s0 (by omega)
  obtain⟨n,p2,s2,e2,_,hp2⟩:=pickD l p1 s1 [0,5,6,100, -1] (by simp) hl hp1
  refine⟨L,n,?_,h1,hs⟩
  unfold spec_DrawDue.f
  refine evBind e0 (evBind e1 ?_)
  simp only[e2,Option.bind_some]
  exact evConst _
theorem drawOf (l:List Int) (hl:l.length≤1099511627776):∃ L a,Ev (fun k=>spec_DrawOf.f k l) (L,a)∧L.length≤10∧(∀ x∈L,small x)∧a.size≤16:=by
  obtain⟨L,a,e,h1,hs,hx⟩:=drawTake l hl
  exact⟨L,a,by unfold spec_DrawOf.f;exact evBind e (evConst _),h1,hs,hx⟩
theorem drawQueueOk (l:List Int) (hl:l.length≤1099511627776):∃ L,Ev (fun k=>spec_DrawQueueOk.f k l) L∧L.length≤10∧(∀ x∈L,small x):=by
  obtain⟨s0,e0⟩:=newE l hl
  obtain⟨L,p1,s1,e1,h1,hs,hp1⟩:=queueD l hl 0 s0 (by omega)
  exact⟨L,by unfold spec_DrawQueueOk.f;exact evBind e0 (evBind e1 (evConst _)),h1,hs⟩
theorem drawItemOk (l:List Int) (hl:l.length≤1099511627776):∃ a n m b,Ev (fun k=>spec_DrawItemOk.f k l) (a,n,m,b)∧small ⟨a,n,m,b⟩:=by
  obtain⟨s0,e0⟩:=newE l hl
  obtain⟨a,n,m,b,p2,s2,e2,hx,hp2⟩:=itemD l 0 s0 hl (by omega)
  exact⟨a,n,m,b,by unfold spec_DrawItemOk.f;exact evBind e0 (evBind e2 (evConst _)),hx⟩
end Go.Proofs.Ytlalkldjpniakaa.B
