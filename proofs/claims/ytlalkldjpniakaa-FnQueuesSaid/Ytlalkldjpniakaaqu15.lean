import Derived.Test.Ytlalkldjpniakaaqu6
import Derived.Shelf.Abstract
/- Searching a list of items with a function value that takes an item and keeps what was: slices.IndexFunc, slices.ContainsFunc; for every list. -/
namespace Go.Proofs.Ytlalkldjpniakaa.P
open Go.RowKit Go.Proofs.YtlalkldjpniakaaW.PrintWords Go.Proofs.YtlalkldjpniakaaW.PrintLast Go.Proofs.YtlalkldjpniakaaW.PrintMore
set_option linter.unusedVariables false
set_option linter.unusedSimpArgs false
/-- What is asked of a function value: at every item it answers p, wherever block gc (what it has caught) holds o; and it leaves what was. -/
def PredI (g:Nat) (lb:Array Value) (gc:Nat) (o:Obj) (p:S34→Bool):Prop:=
  ∀ (W:World) (x:S34) (A:Option Addr) (c:Nat),W.heap[gc]? =some o→Calls Try.prog g (#[.agg #[.string x.f0, .int .i64 x.f1, .int .i64 x.f2, .slice A x.f3.length c]]++lb) W fun e w'=>e= .returned (.bool (p x))∧Below W.heap.size W w'
/-- The first place at which p holds, or -1. -/
def idxI (p:S34→Bool) (xs:List S34):Int:=match xs.findIdx? p with
  | some i=>(i:Int)
  | none=> -1
theorem idxI_hit {p:S34→Bool} {xs:List S34} {k:Nat} (hk:k<xs.length) (h:p (xs.getD k z34)=true) (ha:∀ j,j<k→p (xs.getD j z34)=false):idxI p xs=(k:Int):=by
  have h1:xs.findIdx? p=some k:=by
    rw[List.findIdx?_eq_some_iff_getElem]
    refine⟨hk,by simpa [List.getD_eq_getElem?_getD,hk] using h,fun j hj=>?_⟩
    have:=ha j hj
    simpa [List.getD_eq_getElem?_getD,show j<xs.length by omega] using this
  unfold idxI
  rw[h1]
theorem idxI_miss {p:S34→Bool} {xs:List S34} (ha:∀ j,j<xs.length→p (xs.getD j z34)=false):idxI p xs= -1:=by
  have h1:xs.findIdx? p=none:=by
    rw[List.findIdx?_eq_none_iff]
    intro x hx
    obtain⟨j,hj,rfl⟩:=List.mem_iff_getElem.1 hx
    have:=ha j hj
    simpa [List.getD_eq_getElem?_getD,hj] using this
  unfold idxI
  rw[h1]
theorem idxI_cases (p:S34→Bool) (xs:List S34):(idxI p xs= -1∧∀ j,j<xs.length→p (xs.getD j z34)=false)∨∃ k:Nat,k<xs.length∧idxI p xs=(k:Int)∧p (xs.getD k z34)=true∧∀ j,j<k→p (xs.getD j z34)=false:=by
  cases h:xs.findIdx? p with
  | none=>
    rw[List.findIdx?_eq_none_iff] at h
    have ha:∀ j,j<xs.length→p (xs.getD j z34)=false:=fun j hj=>by
      have:=h (xs.getD j z34) (by simp [List.getD_eq_getElem?_getD,hj])
      simpa using this
    exact .inl ⟨idxI_miss ha,ha⟩
  | some k=>
    rw[List.findIdx?_eq_some_iff_getElem] at h
    obtain⟨hk,h1,h2⟩:=h
    have ha:∀ j,j<k→p (xs.getD j z34)=false:=fun j hj=>by
      have:=h2 j hj
      simpa [List.getD_eq_getElem?_getD,show j<xs.length by omega] using this
    have hp:p (xs.getD k z34)=true:=by simpa [List.getD_eq_getElem?_getD,hk] using h1
    exact .inr ⟨k,hk,idxI_hit hk hp ha,hp,ha⟩
theorem any_idxI (p:S34→Bool) (xs:List S34):xs.any p=decide (0≤idxI p xs):=by
  rcases idxI_cases p xs with ⟨h,ha⟩ | ⟨k,hk,h,hp,_⟩
  · rw[h]
    rw[List.any_eq_false.2 fun x hx=>?_]
    · rfl
    · obtain⟨j,hj,rfl⟩:=List.mem_iff_getElem.1 hx
      have:=ha j hj
      simpa [List.getD_eq_getElem?_getD,hj] using this
  · rw[h,List.any_eq_true.2 ⟨xs.getD k z34,by simp [List.getD_eq_getElem?_getD,hk],hp⟩]
    exact(decide_eq_true (by omega)).symm
set_option maxHeartbeats 4000000 in
set_option maxRecDepth 100000 in
theorem items_index (p:S34→Bool) (g:Nat) (lb:Array Value) (gc:Nat) (o:Obj) (hp:PredI g lb gc o p) (eg:∀ args w,(callFunc g args).run Try.prog w= .ok (.enter g args) w) (A:Option Addr) (c:Nat) (xs:List S34) (w:World) (hr:Kd.C k34 w A xs.length xs) (hc:xs.length≤c) (ho:w.heap[gc]? =some o):
    Calls Try.prog 102 #[.slice A xs.length c, .func (.func g) #[] lb] w fun e w'=>e= .returned (.int .i64 (idxI p xs))∧Below w.heap.size w w':=by
  have hu34:=Try.underlying34
  have HR:=Aside0.mk hr
  have HP:=Aside0.mk hp
  have HO:=Aside0.mk ho
  have hlen:=hr.2.1
  obtain⟨n,hn⟩:∃ n,xs.length=n:=⟨_,rfl⟩
  rw[hn] at hlen ⊢
  have HN:=Aside0.mk hn
  clear hr hc hp ho hn
  go_enter Try.func102,Try.ntmps102
  go_wp2
  go_loopg [5,8] n (fun gg _ s8 wr=>∃ kk:Nat,kk≤n∧n - kk≤gg∧s8= .int .i64 kk∧Aside0 (Below w.heap.size w wr)∧Aside0 (∀ j,j<kk→p (xs.getD j z34)=false))
  case atStart=>exact⟨0,Nat.zero_le _,by omega,rfl,⟨Below.refl _ w⟩,⟨fun j hj=>absurd hj (Nat.not_lt_zero _)⟩⟩
  case round=>
    obtain⟨kk,hkk,hg,rfl,HB,FA⟩:=hrel
    by_cases hlt:kk<n
    · have hltz:(kk:Int)<(n:Int):=by omega
      obtain⟨ad,A3,c3,rfl,h0,h1,h2,h3,_,_⟩:=at_T34 HR.out (kk:Int) (by omega) (by rw[HN.out];exact hltz)
      replace h0:=(HB.out.cell (World.block_lt_of_cell? w _ h0)).trans h0
      replace h1:=(HB.out.cell (World.block_lt_of_cell? w _ h1)).trans h1
      replace h2:=(HB.out.cell (World.block_lt_of_cell? w _ h2)).trans h2
      replace h3:=(HB.out.cell (World.block_lt_of_cell? w _ h3)).trans h3
      simp only[Int.toNat_natCast] at h0 h1 h2 h3
      have hgc:gc<w.heap.size:=(Array.getElem?_eq_some_iff.1 HO.out).1
      have hcall:=HP.out wr (rd_T34 xs (kk:Int)) A3 c3 ((HB.out.block gc hgc).trans HO.out)
      have hx:rd_T34 xs (kk:Int)=xs.getD kk z34:=by unfold rd_T34;rw[Int.toNat_natCast]
      have HX:=Aside0.mk hx
      generalize rd_T34 xs (kk:Int)=y at h0 h1 h2 h3 hcall HX
      clear hx hgc
      cases hq:p y with
      | true=>
        rw[hq] at hcall
        go_wp2_with (go_at_fn g;refine hcall.mono ?_;rintro e w' ⟨rfl,hb'⟩)
        go_ret
        exact⟨by rw[idxI_hit (p:=p) (xs:=xs) (k:=kk) (by rw[HN.out];exact hlt) (by rw[← HX.out];exact hq) FA.out];rfl,below_step HB.out hb'⟩
      | false=>
        rw[hq] at hcall
        go_wp2_with (go_at_fn g;refine hcall.mono ?_;rintro e w' ⟨rfl,hb'⟩)
        go_roundg (n - (kk+1))
        case measure=>omega
        case rel=>
          refine⟨kk+1,by omega,by omega,by go_num,⟨below_step HB.out hb'⟩,⟨fun j hj=>?_⟩⟩
          by_cases e:j=kk
          · subst e
            rw[← HX.out];exact hq
          · exact FA.out j (by omega)
    · have hltz:¬(kk:Int)<(n:Int):=by omega
      obtain rfl:kk=n:=by omega
      go_wp2
      go_ret
      exact⟨by rw[idxI_miss (p:=p) (xs:=xs) (fun j hj=>FA.out j (by rw[← HN.out];exact hj))];rfl,HB.out⟩
set_option maxHeartbeats 4000000 in
set_option maxRecDepth 100000 in
theorem items_any (p:S34→Bool) (g:Nat) (lb:Array Value) (gc:Nat) (o:Obj) (hp:PredI g lb gc o p) (eg:∀ args w,(callFunc g args).run Try.prog w= .ok (.enter g args) w) (A:Option Addr) (c:Nat) (xs:List S34) (w:World) (hr:Kd.C k34 w A xs.length xs) (hc:xs.length≤c) (ho:w.heap[gc]? =some o):
    Calls Try.prog 99 #[.slice A xs.length c, .func (.func g) #[] lb] w fun e w'=>e= .returned (.bool (xs.any p))∧Below w.heap.size w w':=by
  have hI:=items_index p g lb gc o hp eg A c xs w hr hc ho
  rw[any_idxI]
  generalize idxI p xs=r at hI ⊢
  clear hr hc ho hp
  go_enter Try.func99,Try.ntmps99
  go_wp2_with ((go_at_call 102;refine hI.mono ?_;rintro e w' ⟨rfl,hb'⟩))
  go_ret
  exact⟨rfl,hb'⟩
end Go.Proofs.Ytlalkldjpniakaa.P
/- The function values that the queue's functions make, and slices.DeleteFunc, slices.Delete over a list of items of the call's own. -/
namespace Go.Proofs.Ytlalkldjpniakaa.P
open Go.RowKit Go.Proofs.YtlalkldjpniakaaW.PrintWords Go.Proofs.YtlalkldjpniakaaW.PrintLast Go.Proofs.YtlalkldjpniakaaW.PrintMore
set_option linter.unusedVariables false
set_option linter.unusedSimpArgs false
theorem cells_of_block {W:World} {g:Nat} {a b c d:Value} (h:W.heap[g]? =some (.cells #[a,b,c,d] 34 (0,0))):W.cell? ⟨g,0,none⟩=some a∧W.cell? ⟨g,1,none⟩=some b∧W.cell? ⟨g,2,none⟩=some c∧W.cell? ⟨g,3,none⟩=some d:=
  ⟨(blk_cell h 0).trans rfl,(blk_cell h 1).trans rfl,(blk_cell h 2).trans rfl,(blk_cell h 3).trans rfl⟩
/-- 'x.Due < now'. -/
theorem due_pred (now:Int) (gc:Nat):PredI 97 #[.pointer (some ⟨gc,0,none⟩)] gc (.cells #[.int .i64 now] 3 (0,0)) (fun x=>decide (x.f2<now)):=by
  intro W x A c ho
  have hc:W.cell? ⟨gc,0,none⟩=some (.int .i64 now):=(blk_cell ho 0).trans rfl
  have hlt:gc<W.heap.size:=(Array.getElem?_eq_some_iff.1 ho).1
  have hne:gc≠W.heap.size:=by omega
  have hu34:=Try.underlying34
  clear ho
  obtain⟨q0,q1,q2,q3⟩:=x
  show Calls Try.prog 97 #[.agg #[.string q0, .int .i64 q1, .int .i64 q2, .slice A q3.length c], .pointer (some ⟨gc,0,none⟩)] W _
  go_enter Try.func97,Try.ntmps97
  go_wp2
  all_goals (go_ret;exact⟨by simp_all,(Below.refl _ W).alloc (Nat.le_refl _) _⟩)
/-- 'x.Route == route'. -/
theorem take_pred (route:ByteArray) (gc:Nat):PredI 103 #[.pointer (some ⟨gc,0,none⟩)] gc (.cells #[.string route] 9 (0,0)) (fun x=>x.f0.toList==route.toList):=by
  intro W x A c ho
  have hc:W.cell? ⟨gc,0,none⟩=some (.string route):=(blk_cell ho 0).trans rfl
  have hlt:gc<W.heap.size:=(Array.getElem?_eq_some_iff.1 ho).1
  have hne:gc≠W.heap.size:=by omega
  have hu34:=Try.underlying34
  clear ho
  obtain⟨q0,q1,q2,q3⟩:=x
  show Calls Try.prog 103 #[.agg #[.string q0, .int .i64 q1, .int .i64 q2, .slice A q3.length c], .pointer (some ⟨gc,0,none⟩)] W _
  go_enter Try.func103,Try.ntmps103
  go_wp2
  all_goals (go_ret;exact⟨by simp_all,(Below.refl _ W).alloc (Nat.le_refl _) _⟩)
/-- 'y.Route == x.Route && y.Topic == x.Topic'. -/
def likeI (r:ByteArray) (t:Int) (x:S34):Bool:=x.f0.toList==r.toList && x.f1==t
theorem queue_pred (r:ByteArray) (t d:Int) (sl:Value) (gc:Nat):PredI 100 #[.pointer (some ⟨gc,0,none⟩)] gc (.cells #[.string r, .int .i64 t, .int .i64 d,sl] 34 (0,0)) (likeI r t):=by
  intro W x A c ho
  obtain⟨h0,h1,_,_⟩:=cells_of_block ho
  have hlt:gc<W.heap.size:=(Array.getElem?_eq_some_iff.1 ho).1
  have hne:gc≠W.heap.size:=by omega
  have hu34:=Try.underlying34
  clear ho
  obtain⟨q0,q1,q2,q3⟩:=x
  show Calls Try.prog 100 #[.agg #[.string q0, .int .i64 q1, .int .i64 q2, .slice A q3.length c], .pointer (some ⟨gc,0,none⟩)] W fun e w'=>e= .returned (.bool (q0.toList==r.toList && q1==t))∧Below W.heap.size W w'
  cases e0:(q0.toList==r.toList) with
  | true=>
    cases e1:(q1==t) with
    | true=>
      go_enter Try.func100,Try.ntmps100
      go_wp2
      all_goals (go_ret;exact⟨by simp_all,(Below.refl _ W).alloc (Nat.le_refl _) _⟩)
    | false=>
      go_enter Try.func100,Try.ntmps100
      go_wp2
      all_goals (go_ret;exact⟨by simp_all,(Below.refl _ W).alloc (Nat.le_refl _) _⟩)
  | false=>
    go_enter Try.func100,Try.ntmps100
    go_wp2
    all_goals (go_ret;exact⟨by simp_all,(Below.refl _ W).alloc (Nat.le_refl _) _⟩)
theorem put_pred (r:ByteArray) (t d:Int) (sl:Value) (gc:Nat):PredI 120 #[.pointer (some ⟨gc,0,none⟩)] gc (.cells #[.string r, .int .i64 t, .int .i64 d,sl] 34 (0,0)) (likeI r t):=by
  intro W x A c ho
  obtain⟨h0,h1,_,_⟩:=cells_of_block ho
  have hlt:gc<W.heap.size:=(Array.getElem?_eq_some_iff.1 ho).1
  have hne:gc≠W.heap.size:=by omega
  have hu34:=Try.underlying34
  clear ho
  obtain⟨q0,q1,q2,q3⟩:=x
  show Calls Try.prog 120 #[.agg #[.string q0, .int .i64 q1, .int .i64 q2, .slice A q3.length c], .pointer (some ⟨gc,0,none⟩)] W fun e w'=>e= .returned (.bool (q0.toList==r.toList && q1==t))∧Below W.heap.size W w'
  cases e0:(q0.toList==r.toList) with
  | true=>
    cases e1:(q1==t) with
    | true=>
      go_enter Try.func120,Try.ntmps120
      go_wp2
      all_goals (go_ret;exact⟨by simp_all,(Below.refl _ W).alloc (Nat.le_refl _) _⟩)
    | false=>
      go_enter Try.func120,Try.ntmps120
      go_wp2
      all_goals (go_ret;exact⟨by simp_all,(Below.refl _ W).alloc (Nat.le_refl _) _⟩)
  | false=>
    go_enter Try.func120,Try.ntmps120
    go_wp2
    all_goals (go_ret;exact⟨by simp_all,(Below.refl _ W).alloc (Nat.le_refl _) _⟩)
/-- A row of items of one's own, as rows of cells: what each leads to is told by f. -/
theorem raw_of_S {v:Value} {xs:List S34} {w:World} {base:Nat} {ok:Nat→Prop} (h:Kd.S k34 34 w base ok v xs):
    ∃ (f:Nat→Nat) (rows:List (List Value)),rows.length=xs.length∧(Kd.raw 4).R 34 w base (fun k=>some k=v.ownBlock) v rows∧(∀ k,v.ownBlock=some k→ok k)∧∀ (j:Nat) (x:S34) (c:List Value),xs[j]? =some x→rows[j]? =some c→k34.M w base (fun k=>(ok k∧some k≠v.ownBlock)∧f k=j) x c:=by
  obtain⟨f,h0,inner,ho,hr⟩:=h
  have hlz:xs.zipIdx.length=xs.length:=List.length_zipIdx
  rw[hlz] at ho
  have hraw:=Kd.reps_raw hr (fun x c hp=>⟨k34.K_len (k34.K_of_M hp),k34.K_one (k34.K_of_M hp)⟩)
  rw[hlz] at hraw
  refine⟨f,Kd.chunks 4 xs.length inner,Kd.chunks_length _ _ _,⟨fun k hk=>hk.symm,inner,by rw[Kd.chunks_length];exact ho,hraw⟩,h0,fun j x c hx hc=>?_⟩
  rw[Kd.chunks_get hc]
  exact hr.2 j (x,j) (Kd.zip_at hx)
theorem S_of_raw {v:Value} {xs:List S34} {rows:List (List Value)} {w:World} {base:Nat} {ok okr:Nat→Prop} (f:Nat→Nat) (hv:∀ k,v.ownBlock=some k→ok k) (hraw:(Kd.raw 4).R 34 w base okr v rows) (hl:rows.length=xs.length)
    (hM:∀ (j:Nat) (x:S34) (c:List Value),xs[j]? =some x→rows[j]? =some c→k34.M w base (fun k=>(ok k∧some k≠v.ownBlock)∧f k=j) x c):Kd.S k34 34 w base ok v xs:=by
  obtain⟨_,inner,ho,hr⟩:=hraw
  refine⟨f,hv,inner,by rw[List.length_zipIdx, ← hl];exact ho,⟨by rw[List.length_zipIdx, ← hl];exact hr.1,fun j p hj=>?_⟩⟩
  rw[List.getElem?_zipIdx,Nat.zero_add] at hj
  obtain⟨q,hq,rfl⟩:=Option.map_eq_some_iff.1 hj
  have hjl:j<rows.length:=by have:=(List.getElem?_eq_some_iff.1 hq).1;omega
  have hc:=(hr.2 j _ (List.getElem?_eq_getElem hjl)).1
  show k34.M w base (fun k=>(ok k∧some k≠v.ownBlock)∧f k=j) q ((inner.drop (j*4)).take 4)
  rw[show(inner.drop (j*4)).take 4=rows[j] from hc]
  exact hM j q _ hq (List.getElem?_eq_getElem hjl)
/-- A variable of four cells is written whole. -/
theorem box_put {ops:Array Oper} {rest:List Oper} {o:Oper} {a:Act} {Q:Exit→Act→World→Prop} {W:World} (hN:o.dst=none) (hgd:o.guard=none) (p x:Operand) (ho:o.op= .store 34 p x) {g:Nat} {a0 a1 a2 a3 b0 b1 b2 b3:Value}
    (haddr:a.eval p= .pointer (some ⟨g,0,none⟩)) (hx:a.eval x= .agg #[b0,b1,b2,b3]) (hb:W.heap[g]? =some (.cells #[a0,a1,a2,a3] 34 (0,0)))
    (ha:∀ u∈[a0,a1,a2,a3],u.oneCell'=true) (h1:∀ u∈[b0,b1,b2,b3],u.oneCell'=true) (hc:(Value.agg #[b0,b1,b2,b3]).cells.toList=[b0,b1,b2,b3])
    (h:∀ w1,W.grownBy w1 (some g)→w1.cell? ⟨g,0,none⟩=some b0→w1.cell? ⟨g,1,none⟩=some b1→w1.cell? ⟨g,2,none⟩=some b2→w1.cell? ⟨g,3,none⟩=some b3→wpList Try.prog ops Q rest a w1):wpList Try.prog ops Q (o :: rest) a W:=by
  have hlt:g<W.heap.size:=(Array.getElem?_eq_some_iff.1 hb).1
  have hR:(Kd.raw 4).R 34 W g (fun _=>True) (.slice (some ⟨g,0,none⟩) 1 1) [[a0,a1,a2,a3]]:=by
    refine⟨fun _ _=>trivial,[a0,a1,a2,a3],⟨rfl, .inr ⟨g,1, #[a0,a1,a2,a3],rfl,Nat.le_refl _,hb,Nat.le_refl _,by unfold maxLen;omega,by show 1*4≤4;omega,rfl⟩⟩,?_⟩
    refine⟨rfl,fun j q hj=>?_⟩
    match j,hj with
    | 0,hj=>
      obtain rfl:=Option.some.inj hj
      exact⟨rfl,rfl,ha⟩
    | j+1,hj=>simp at hj
  refine Kd.R_store (Kd.raw 4) (w0:=W) g hN hgd 34 p x ho 34 (o':=0) (0:Int) 0 [[a0,a1,a2,a3]] [b0,b1,b2,b3] (.agg #[b0,b1,b2,b3]) [b0,b1,b2,b3] [a0,a1,a2,a3] (fun _=>True) (fun _=>False) haddr rfl hx hc (by kernel_rfl) h1 hR (by omega) (by omega) rfl ?_ (by simp [Kd.raw]) ⟨rfl,rfl,h1⟩ (fun _ hk=>hk.elim) (Below.refl _ _) ?_
  · intro j u hj
    rw[blk_cell hb]
    simpa using hj
  · intro w1 hr _ hg
    obtain⟨c,hcl,hM,hcc,_⟩:=Kd.R_elem hr [] 0 (by omega) (by omega)
    have hce:c=[b0,b1,b2,b3]:=hM.1
    subst hce
    exact h w1 hg (hcc 0 b0 rfl) (hcc 1 b1 rfl) (hcc 2 b2 rfl) (hcc 3 b3 rfl)
end Go.Proofs.Ytlalkldjpniakaa.P
