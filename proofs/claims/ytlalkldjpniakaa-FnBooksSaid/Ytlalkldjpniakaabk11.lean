import Derived.Test.Ytlalkldjpniakaabk10
import Derived.Shelf.Abstract
namespace Go.Proofs.Ytlalkldjpniakaa.P
open Go.RowKit Go.Proofs.YtlalkldjpniakaaW.PrintWords Go.Proofs.YtlalkldjpniakaaW.PrintLast Go.Proofs.YtlalkldjpniakaaW.PrintMore
attribute [local go_sem] zck zcl zdl zdm zbz zca zcm zcn -- for this text's walks alone
set_option linter.unusedVariables false
set_option linter.unusedSimpArgs false
set_option maxHeartbeats 8000000
set_option maxRecDepth 100000

def impl_LineOk.f (k:Nat) (a0_0:Int) (a0_1:ByteArray) (a0_2:Int) (a0_3:Int) (l0_4:List Int):Option (Bool):=if a0_0=1 then((impl_itemOf.f a0_0 a0_1 a0_2 a0_3 l0_4).bind fun bt299=>((impl_ItemOk.f k bt299.1 bt299.2.1 bt299.2.2.1 bt299.2.2.2).bind fun t305=>(some t305))) else(if a0_0=2 then((impl_isRoute.f k a0_1).bind fun t306=>(if t306=true then(if a0_2=0 then(if a0_3=0 then(some ((l0_4.length:Int)==0)) else(some false)) else(some false)) else(some false))) else(if a0_0=3 then((impl_in.f a0_3 0 100000).bind fun t307=>(if t307=true then(if a0_1.toList=([]:List UInt8) then(if a0_2=0 then(some ((l0_4.length:Int)==0)) else(some false)) else(some false)) else(some false))) else(some false)))
theorem impl_LineOk.mono:∀ a0 a1 a2 a3 a4 k,LeO (impl_LineOk.f k a0 a1 a2 a3 a4) (impl_LineOk.f (k+1) a0 a1 a2 a3 a4):=by
 intro a0 a1 a2 a3 a4 k
 unfold impl_LineOk.f
 have m0:=@impl_ItemOk.mono
 have m1:=@impl_isRoute.mono
 exact mt
theorem impl_LineOk.wk {P:Prop} (h:P:=by
 go_enter Try.func36,Try.ntmps36
 go_wp2_with (first | (refine jgd 1 ?_;(try(refine gate_guard (by rfl) ?_;dsimp only));refine bx 1 (#[.int .i64 a0_0, .string a0_1, .int .i64 a0_2, .int .i64 a0_3, .slice A0_4 l0_4.length c0_4]) 48 ?_;intro gb298 hg w_ hbox hb;have xb_:=below_ofs bq hb;have n_:=jA4 (zac xb_ hb) (hbox) (ge0 hg xb_:w.heap.size≤gb298) (ge0 hg xb_:w.heap.size≤gb298);clear HB;obtain⟨HB,BK298,GW298,GE298⟩:=n_;clear xb_ hb hbox hg;obtain⟨c0,c1,c2,c3,c4,z0,z1,z2,z3,z4⟩:=cz5 BK298.out) | (refine jgc 93 ?_;refine jgs 8 Try.func93 #[.agg #[.int .i64 a0_0, .string a0_1, .int .i64 a0_2, .int .i64 a0_3, .slice A0_4 l0_4.length c0_4]] ?_;(with_reducible refine(impl_itemOf.calls a0_0 a0_1 a0_2 a0_3 _ _ l0_4 t299 t300 t301 t302 _ ?side1 ?side2 A3.out).mono ?_);(case side1=>exact jcs HR0_4.out);(case side2=>exact HC0_4.out);rintro e w_ ⟨v303,rfl,ho0,hb⟩;refine⟨_,rfl,?_⟩;have n_:=jA3 (zax ho0 (zal (bs1 GE298.out))) (jbb BK298.out hb) (zac (bs1 GE298.out) hb);clear BK298 HB;obtain⟨HO304,BK298,HB⟩:=n_;clear hb ho0;obtain⟨Ao8,co8,eo8⟩:=zbd HO304.out;subst eo8) | (refine jgc 26 ?_;refine jgs 9 Try.func26 #[.agg #[.string t299, .int .i64 t300, .int .i64 t301, .slice Ao8 t302.length co8]] ?_;(with_reducible refine(impl_ItemOk.calls k t299 t300 t301 _ _ t302 t305 _ ?side1 ?side2 A4.out).mono ?_);(case side1=>repeat(first | exact(zbp HO304.out).2.2 | (with_reducible first | apply zdd | apply zdq | apply zeb)));(case side2=>exact(zbp HO304.out).2.1);rintro e w_ ⟨rfl,hb⟩;refine⟨_,rfl,?_⟩;have n_:=jA3 (zdb (pR HO304.out) hb) (jbb BK298.out hb) (zac (bs1 GE298.out) hb);clear HO304 BK298 HB;obtain⟨HO304,BK298,HB⟩:=n_;(try clear hb);(try clear hb2);(try clear hk);(try clear hi)) | (refine jgc 90 ?_;refine jgs 14 Try.func90 #[.string a0_1] ?_;(with_reducible refine(impl_isRoute.calls k a0_1 _ _ A11.out).mono ?_);rintro e w_ ⟨rfl,hb⟩;refine⟨_,rfl,?_⟩;have n_:=jA2 (jbb BK298.out hb) (zac (bs1 GE298.out) hb);clear BK298 HB;obtain⟨BK298,HB⟩:=n_;(try clear hb);(try clear hb2);(try clear hk);(try clear hi);obtain⟨c0,c1,c2,c3,c4,z0,z1,z2,z3,z4⟩:=cz5 BK298.out) | (refine jgc 91 ?_;refine jgs 35 Try.func91 #[.int .i64 a0_3, .int .i64 0, .int .i64 100000] ?_;(with_reducible refine(impl_in.calls a0_3 0 100000 _ _ A31.out).mono ?_);rintro e w' ⟨rfl,⟨nd,rfl⟩⟩;refine⟨_,rfl,?_⟩) | (refine jgc 91 ?_;refine jgs 35 Try.func91 #[.int .i64 a0_3, .int .i64 0, .int .i64 100000] ?_;(with_reducible refine(impl_in.calls a0_3 0 100000 true _ A31.out).mono ?_);rintro e w' ⟨rfl,⟨nd,rfl⟩⟩;refine⟨_,rfl,?_⟩))
 go_ret
 exact⟨jex,(bs1 GE298.out)⟩):P:=h
theorem impl_LineOk.calls (k:Nat) (a0_0:Int) (a0_1:ByteArray) (a0_2:Int) (a0_3:Int) (A0_4:Option Addr) (c0_4:Nat) (l0_4:List Int) (r:Bool) (w:World) (hr0_4:Kd.C (Kd.int .u8) w A0_4 l0_4.length l0_4) (hc0_4:l0_4.length≤c0_4) (h:impl_LineOk.f k a0_0 a0_1 a0_2 a0_3 l0_4=some r):
  Calls Try.prog 36 #[.agg #[.int .i64 a0_0, .string a0_1, .int .i64 a0_2, .int .i64 a0_3, .slice A0_4 l0_4.length c0_4]] w fun e w'=>e= .returned (.bool r)∧Below w.heap.size w w':=by
 have hu48:=Try.underlying48
 have HR0_4:=Aside0.mk hr0_4
 have HC0_4:=Aside0.mk hc0_4
 clear hr0_4 hc0_4
 have HB:=Aside0.mk (zbo w.heap.size w)
 have H:(if a0_0=1 then((impl_itemOf.f a0_0 a0_1 a0_2 a0_3 l0_4).bind fun bt299=>((impl_ItemOk.f k bt299.1 bt299.2.1 bt299.2.2.1 bt299.2.2.2).bind fun t305=>(some t305))) else(if a0_0=2 then((impl_isRoute.f k a0_1).bind fun t306=>(if t306=true then(if a0_2=0 then(if a0_3=0 then(some ((l0_4.length:Int)==0)) else(some false)) else(some false)) else(some false))) else(if a0_0=3 then((impl_in.f a0_3 0 100000).bind fun t307=>(if t307=true then(if a0_1.toList=([]:List UInt8) then(if a0_2=0 then(some ((l0_4.length:Int)==0)) else(some false)) else(some false)) else(some false))) else(some false))))=some r:=h
 clear h
 by_cases c2:a0_0=1
 ·rw[if_pos c2] at H
  have R0:=beqT c2
  have S0:=zbb.mpr c2
  clear c2
  obtain⟨⟨t299,t300,t301,t302⟩,A3,H⟩:=bnd H
  try dsimp only at H
  obtain⟨t305,A4,H⟩:=bnd H
  obtain rfl:=Option.some.inj H
  exact impl_LineOk.wk
 rw[if_neg c2] at H
 have R0:=zau.mpr c2
 have S0:=zcz.mpr c2
 by_cases c10:a0_0=2
 ·rw[if_pos c10] at H
  have E0:=beqT c10
  have F0:=zbb.mpr c10
  clear c10
  obtain⟨t306,A11,H⟩:=bnd H
  by_cases c12:t306=true
  ·subst c12
   rw[if_pos rfl] at H
   by_cases c13:a0_2=0
   ·rw[if_pos c13] at H
    have G0:=beqT c13
    have H0:=zbb.mpr c13
    clear c13
    by_cases o0:a0_3=0
    ·rw[if_pos o0] at H
     have I0:=beqT o0
     have J0:=zbb.mpr o0
     clear o0
     obtain rfl:=Option.some.inj H
     exact impl_LineOk.wk
    rw[if_neg o0] at H
    have I0:=zau.mpr o0
    have J0:=zcz.mpr o0
    obtain rfl:=Option.some.inj H
    exact impl_LineOk.wk
   rw[if_neg c13] at H
   have G0:=zau.mpr c13
   have H0:=zcz.mpr c13
   obtain rfl:=Option.some.inj H
   exact impl_LineOk.wk
  replace c12:=zcp.mpr c12
  subst c12
  rw[if_neg (show ¬(false=true) by decide)] at H
  obtain rfl:=Option.some.inj H
  exact impl_LineOk.wk
 rw[if_neg c10] at H
 have E0:=zau.mpr c10
 have F0:=zcz.mpr c10
 by_cases B0:a0_0=3
 ·rw[if_pos B0] at H
  have K0:=beqT B0
  have L0:=zbb.mpr B0
  clear B0
  obtain⟨t307,A31,H⟩:=bnd H
  by_cases Q0:t307=true
  ·subst Q0
   rw[if_pos rfl] at H
   by_cases C0:a0_1.toList=([]:List UInt8)
   ·rw[if_pos C0] at H
    have M0:=beqT C0
    have N0:=zbb.mpr C0
    clear C0
    by_cases D0:a0_2=0
    ·rw[if_pos D0] at H
     have O0:=beqT D0
     have P0:=zbb.mpr D0
     clear D0
     obtain rfl:=Option.some.inj H
     exact impl_LineOk.wk
    rw[if_neg D0] at H
    have O0:=zau.mpr D0
    have P0:=zcz.mpr D0
    obtain rfl:=Option.some.inj H
    exact impl_LineOk.wk
   rw[if_neg C0] at H
   have M0:=zau.mpr C0
   have N0:=zcz.mpr C0
   obtain rfl:=Option.some.inj H
   exact impl_LineOk.wk
  replace Q0:=zcp.mpr Q0
  subst Q0
  rw[if_neg (show ¬(false=true) by decide)] at H
  obtain rfl:=Option.some.inj H
  exact impl_LineOk.wk
 rw[if_neg B0] at H
 have K0:=zau.mpr B0
 have L0:=zcz.mpr B0
 obtain rfl:=Option.some.inj H
 exact impl_LineOk.wk
end Go.Proofs.Ytlalkldjpniakaa.P
/- Searching a list of items with a function value that takes an item and keeps what was: slices.IndexFunc, slices.ContainsFunc; for every list. -/
namespace Go.Proofs.Ytlalkldjpniakaa.P
open Go.RowKit Go.Proofs.YtlalkldjpniakaaW.PrintWords Go.Proofs.YtlalkldjpniakaaW.PrintLast Go.Proofs.YtlalkldjpniakaaW.PrintMore
set_option linter.unusedVariables false
set_option linter.unusedSimpArgs false
set_option maxHeartbeats 8000000
set_option maxRecDepth 100000
/-- What is asked of a function value: at every item it answers p, wherever block gc (what it has caught) holds o; and it leaves what was. -/
def PredI (g:Nat) (lb:Array Value) (gc:Nat) (o:Obj) (p:S34→Bool):Prop:=
  ∀ (W:World) (x:S34) (A:Option Addr) (c:Nat),W.heap[gc]? =some o→Calls Try.prog g (#[.agg #[.string x.f0, .int .i64 x.f1, .int .i64 x.f2, .slice A x.f3.length c]]++lb) W fun e w'=>e= .returned (.bool (p x))∧Below W.heap.size W w'
/-- The first place at which p holds, or -1. -/
def idxI (p:S34→Bool) (xs:List S34):Int:=match xs.findIdx? p with
  | some i=>(i:Int)
  | none=> -1
theorem idxI_hit {p:S34→Bool} {xs:List S34} {k:Nat} (hk:k<xs.length) (h:p (xs.getD k z34)=true) (ha:∀ j,j<k→p (xs.getD j z34)=false):idxI p xs=(k:Int):=by
  have h1:xs.findIdx? p=some k:=by
    rw[List.findIdx?_eq_some_iff_getElem]
    refine⟨hk,by simpa [List.getD_eq_getElem?_getD,hk] using h,fun j hj=>?_⟩
    have:=ha j hj
    simpa [List.getD_eq_getElem?_getD,show j<xs.length by omega] using this
  unfold idxI
  rw[h1]
theorem idxI_miss {p:S34→Bool} {xs:List S34} (ha:∀ j,j<xs.length→p (xs.getD j z34)=false):idxI p xs= -1:=by
  have h1:xs.findIdx? p=none:=by
    rw[List.findIdx?_eq_none_iff]
    intro x hx
    obtain⟨j,hj,rfl⟩:=List.mem_iff_getElem.1 hx
    have:=ha j hj
    simpa [List.getD_eq_getElem?_getD,hj] using this
  unfold idxI
  rw[h1]
theorem idxI_cases (p:S34→Bool) (xs:List S34):(idxI p xs= -1∧∀ j,j<xs.length→p (xs.getD j z34)=false)∨∃ k:Nat,k<xs.length∧idxI p xs=(k:Int)∧p (xs.getD k z34)=true∧∀ j,j<k→p (xs.getD j z34)=false:=by
  cases h:xs.findIdx? p with
  | none=>
    rw[List.findIdx?_eq_none_iff] at h
    have ha:∀ j,j<xs.length→p (xs.getD j z34)=false:=fun j hj=>by
      have:=h (xs.getD j z34) (by simp [List.getD_eq_getElem?_getD,hj])
      simpa using this
    exact .inl ⟨idxI_miss ha,ha⟩
  | some k=>
    rw[List.findIdx?_eq_some_iff_getElem] at h
    obtain⟨hk,h1,h2⟩:=h
    have ha:∀ j,j<k→p (xs.getD j z34)=false:=fun j hj=>by
      have:=h2 j hj
      simpa [List.getD_eq_getElem?_getD,show j<xs.length by omega] using this
    have hp:p (xs.getD k z34)=true:=by simpa [List.getD_eq_getElem?_getD,hk] using h1
    exact .inr ⟨k,hk,idxI_hit hk hp ha,hp,ha⟩
theorem any_idxI (p:S34→Bool) (xs:List S34):xs.any p=decide (0≤idxI p xs):=by
  rcases idxI_cases p xs with ⟨h,ha⟩ | ⟨k,hk,h,hp,_⟩
  · rw[h]
    rw[List.any_eq_false.2 fun x hx=>?_]
    · rfl
    · obtain⟨j,hj,rfl⟩:=List.mem_iff_getElem.1 hx
      have:=ha j hj
      simpa [List.getD_eq_getElem?_getD,hj] using this
  · rw[h,List.any_eq_true.2 ⟨xs.getD k z34,by simp [List.getD_eq_getElem?_getD,hk],hp⟩]
    exact(decide_eq_true (by omega)).symm
set_option maxHeartbeats 4000000 in
theorem items_index (p:S34→Bool) (g:Nat) (lb:Array Value) (gc:Nat) (o:Obj) (hp:PredI g lb gc o p) (eg:∀ args w,(callFunc g args).run Try.prog w= .ok (.enter g args) w) (A:Option Addr) (c:Nat) (xs:List S34) (w:World) (hr:Kd.C k34 w A xs.length xs) (hc:xs.length≤c) (ho:w.heap[gc]? =some o):
    Calls Try.prog 102 #[.slice A xs.length c, .func (.func g) #[] lb] w fun e w'=>e= .returned (.int .i64 (idxI p xs))∧Below w.heap.size w w':=by
  have hu34:=Try.underlying34
  have HR:=Aside0.mk hr
  have HP:=Aside0.mk hp
  have HO:=Aside0.mk ho
  have hlen:=hr.2.1
  obtain⟨n,hn⟩:∃ n,xs.length=n:=⟨_,rfl⟩
  rw[hn] at hlen ⊢
  have HN:=Aside0.mk hn
  clear hr hc hp ho hn
  go_enter Try.func102,Try.ntmps102
  go_wp2
  go_loopg [5,8] n (fun gg _ s8 wr=>∃ kk:Nat,kk≤n∧n - kk≤gg∧s8= .int .i64 kk∧Aside0 (Below w.heap.size w wr)∧Aside0 (∀ j,j<kk→p (xs.getD j z34)=false))
  case atStart=>exact⟨0,Nat.zero_le _,by omega,rfl,⟨Below.refl _ w⟩,⟨fun j hj=>absurd hj (Nat.not_lt_zero _)⟩⟩
  case round=>
    obtain⟨kk,hkk,hg,rfl,HB,FA⟩:=hrel
    by_cases hlt:kk<n
    · have hltz:(kk:Int)<(n:Int):=by omega
      obtain⟨ad,A3,c3,rfl,h0,h1,h2,h3,_,_⟩:=at_T34 HR.out (kk:Int) (by omega) (by rw[HN.out];exact hltz)
      replace h0:=(HB.out.cell (World.block_lt_of_cell? w _ h0)).trans h0
      replace h1:=(HB.out.cell (World.block_lt_of_cell? w _ h1)).trans h1
      replace h2:=(HB.out.cell (World.block_lt_of_cell? w _ h2)).trans h2
      replace h3:=(HB.out.cell (World.block_lt_of_cell? w _ h3)).trans h3
      simp only[Int.toNat_natCast] at h0 h1 h2 h3
      have hgc:gc<w.heap.size:=(Array.getElem?_eq_some_iff.1 HO.out).1
      have hcall:=HP.out wr (rd_T34 xs (kk:Int)) A3 c3 ((HB.out.block gc hgc).trans HO.out)
      have hx:rd_T34 xs (kk:Int)=xs.getD kk z34:=by unfold rd_T34;rw[Int.toNat_natCast]
      have HX:=Aside0.mk hx
      generalize rd_T34 xs (kk:Int)=y at h0 h1 h2 h3 hcall HX
      clear hx hgc
      cases hq:p y with
      | true=>
        rw[hq] at hcall
        go_wp2_with (go_at_fn g;refine hcall.mono ?_;rintro e w' ⟨rfl,hb'⟩)
        go_ret
        exact⟨by rw[idxI_hit (p:=p) (xs:=xs) (k:=kk) (by rw[HN.out];exact hlt) (by rw[← HX.out];exact hq) FA.out];rfl,below_step HB.out hb'⟩
      | false=>
        rw[hq] at hcall
        go_wp2_with (go_at_fn g;refine hcall.mono ?_;rintro e w' ⟨rfl,hb'⟩)
        go_roundg (n - (kk+1))
        case measure=>omega
        case rel=>
          refine⟨kk+1,by omega,by omega,by go_num,⟨below_step HB.out hb'⟩,⟨fun j hj=>?_⟩⟩
          by_cases e:j=kk
          · subst e
            rw[← HX.out];exact hq
          · exact FA.out j (by omega)
    · have hltz:¬(kk:Int)<(n:Int):=by omega
      obtain rfl:kk=n:=by omega
      go_wp2
      go_ret
      exact⟨by rw[idxI_miss (p:=p) (xs:=xs) (fun j hj=>FA.out j (by rw[← HN.out];exact hj))];rfl,HB.out⟩
set_option maxHeartbeats 4000000 in
theorem items_any (p:S34→Bool) (g:Nat) (lb:Array Value) (gc:Nat) (o:Obj) (hp:PredI g lb gc o p) (eg:∀ args w,(callFunc g args).run Try.prog w= .ok (.enter g args) w) (A:Option Addr) (c:Nat) (xs:List S34) (w:World) (hr:Kd.C k34 w A xs.length xs) (hc:xs.length≤c) (ho:w.heap[gc]? =some o):
    Calls Try.prog 99 #[.slice A xs.length c, .func (.func g) #[] lb] w fun e w'=>e= .returned (.bool (xs.any p))∧Below w.heap.size w w':=by
  have hI:=items_index p g lb gc o hp eg A c xs w hr hc ho
  rw[any_idxI]
  generalize idxI p xs=r at hI ⊢
  clear hr hc ho hp
  go_enter Try.func99,Try.ntmps99
  go_wp2_with ((go_at_call 102;refine hI.mono ?_;rintro e w' ⟨rfl,hb'⟩))
  go_ret
  exact⟨rfl,hb'⟩
end Go.Proofs.Ytlalkldjpniakaa.P
/- The function values that the queue's functions make, and slices.DeleteFunc, slices.Delete over a list of items of the call's own. -/
namespace Go.Proofs.Ytlalkldjpniakaa.P
open Go.RowKit Go.Proofs.YtlalkldjpniakaaW.PrintWords Go.Proofs.YtlalkldjpniakaaW.PrintLast Go.Proofs.YtlalkldjpniakaaW.PrintMore
set_option linter.unusedVariables false
set_option linter.unusedSimpArgs false
set_option maxHeartbeats 8000000
set_option maxRecDepth 100000
theorem cells_of_block {W:World} {g:Nat} {a b c d:Value} (h:W.heap[g]? =some (.cells #[a,b,c,d] 34 (0,0))):W.cell? ⟨g,0,none⟩=some a∧W.cell? ⟨g,1,none⟩=some b∧W.cell? ⟨g,2,none⟩=some c∧W.cell? ⟨g,3,none⟩=some d:=
  ⟨(blk_cell h 0).trans rfl,(blk_cell h 1).trans rfl,(blk_cell h 2).trans rfl,(blk_cell h 3).trans rfl⟩
/-- 'x.Due < now'. -/
theorem due_pred (now:Int) (gc:Nat):PredI 97 #[.pointer (some ⟨gc,0,none⟩)] gc (.cells #[.int .i64 now] 3 (0,0)) (fun x=>decide (x.f2<now)):=by
  intro W x A c ho
  have hc:W.cell? ⟨gc,0,none⟩=some (.int .i64 now):=(blk_cell ho 0).trans rfl
  have hlt:gc<W.heap.size:=(Array.getElem?_eq_some_iff.1 ho).1
  have hne:gc≠W.heap.size:=by omega
  have hu34:=Try.underlying34
  clear ho
  obtain⟨q0,q1,q2,q3⟩:=x
  show Calls Try.prog 97 #[.agg #[.string q0, .int .i64 q1, .int .i64 q2, .slice A q3.length c], .pointer (some ⟨gc,0,none⟩)] W _
  go_enter Try.func97,Try.ntmps97
  go_wp2
  all_goals (go_ret;exact⟨by simp_all,(Below.refl _ W).alloc (Nat.le_refl _) _⟩)
/-- 'x.Route == route'. -/
theorem take_pred (route:ByteArray) (gc:Nat):PredI 103 #[.pointer (some ⟨gc,0,none⟩)] gc (.cells #[.string route] 9 (0,0)) (fun x=>x.f0.toList==route.toList):=by
  intro W x A c ho
  have hc:W.cell? ⟨gc,0,none⟩=some (.string route):=(blk_cell ho 0).trans rfl
  have hlt:gc<W.heap.size:=(Array.getElem?_eq_some_iff.1 ho).1
  have hne:gc≠W.heap.size:=by omega
  have hu34:=Try.underlying34
  clear ho
  obtain⟨q0,q1,q2,q3⟩:=x
  show Calls Try.prog 103 #[.agg #[.string q0, .int .i64 q1, .int .i64 q2, .slice A q3.length c], .pointer (some ⟨gc,0,none⟩)] W _
  go_enter Try.func103,Try.ntmps103
  go_wp2
  all_goals (go_ret;exact⟨by simp_all,(Below.refl _ W).alloc (Nat.le_refl _) _⟩)
/-- 'y.Route == x.Route && y.Topic == x.Topic'. -/
def likeI (r:ByteArray) (t:Int) (x:S34):Bool:=x.f0.toList==r.toList && x.f1==t
theorem queue_pred (r:ByteArray) (t d:Int) (sl:Value) (gc:Nat):PredI 100 #[.pointer (some ⟨gc,0,none⟩)] gc (.cells #[.string r, .int .i64 t, .int .i64 d,sl] 34 (0,0)) (likeI r t):=by
  intro W x A c ho
  obtain⟨h0,h1,_,_⟩:=cells_of_block ho
  have hlt:gc<W.heap.size:=(Array.getElem?_eq_some_iff.1 ho).1
  have hne:gc≠W.heap.size:=by omega
  have hu34:=Try.underlying34
  clear ho
  obtain⟨q0,q1,q2,q3⟩:=x
  show Calls Try.prog 100 #[.agg #[.string q0, .int .i64 q1, .int .i64 q2, .slice A q3.length c], .pointer (some ⟨gc,0,none⟩)] W fun e w'=>e= .returned (.bool (q0.toList==r.toList && q1==t))∧Below W.heap.size W w'
  cases e0:(q0.toList==r.toList) with
  | true=>
    cases e1:(q1==t) with
    | true=>
      go_enter Try.func100,Try.ntmps100
      go_wp2
      all_goals (go_ret;exact⟨by simp_all,(Below.refl _ W).alloc (Nat.le_refl _) _⟩)
    | false=>
      go_enter Try.func100,Try.ntmps100
      go_wp2
      all_goals (go_ret;exact⟨by simp_all,(Below.refl _ W).alloc (Nat.le_refl _) _⟩)
  | false=>
    go_enter Try.func100,Try.ntmps100
    go_wp2
    all_goals (go_ret;exact⟨by simp_all,(Below.refl _ W).alloc (Nat.le_refl _) _⟩)
theorem put_pred (r:ByteArray) (t d:Int) (sl:Value) (gc:Nat):PredI 120 #[.pointer (some ⟨gc,0,none⟩)] gc (.cells #[.string r, .int .i64 t, .int .i64 d,sl] 34 (0,0)) (likeI r t):=by
  intro W x A c ho
  obtain⟨h0,h1,_,_⟩:=cells_of_block ho
  have hlt:gc<W.heap.size:=(Array.getElem?_eq_some_iff.1 ho).1
  have hne:gc≠W.heap.size:=by omega
  have hu34:=Try.underlying34
  clear ho
  obtain⟨q0,q1,q2,q3⟩:=x
  show Calls Try.prog 120 #[.agg #[.string q0, .int .i64 q1, .int .i64 q2, .slice A q3.length c], .pointer (some ⟨gc,0,none⟩)] W fun e w'=>e= .returned (.bool (q0.toList==r.toList && q1==t))∧Below W.heap.size W w'
  cases e0:(q0.toList==r.toList) with
  | true=>
    cases e1:(q1==t) with
    | true=>
      go_enter Try.func120,Try.ntmps120
      go_wp2
      all_goals (go_ret;exact⟨by simp_all,(Below.refl _ W).alloc (Nat.le_refl _) _⟩)
    | false=>
      go_enter Try.func120,Try.ntmps120
      go_wp2
      all_goals (go_ret;exact⟨by simp_all,(Below.refl _ W).alloc (Nat.le_refl _) _⟩)
  | false=>
    go_enter Try.func120,Try.ntmps120
    go_wp2
    all_goals (go_ret;exact⟨by simp_all,(Below.refl _ W).alloc (Nat.le_refl _) _⟩)
/-- A row of items of one's own, as rows of cells: what each leads to is told by f. -/
theorem raw_of_S {v:Value} {xs:List S34} {w:World} {base:Nat} {ok:Nat→Prop} (h:Kd.S k34 34 w base ok v xs):
    ∃ (f:Nat→Nat) (rows:List (List Value)),rows.length=xs.length∧(Kd.raw 4).R 34 w base (fun k=>some k=v.ownBlock) v rows∧(∀ k,v.ownBlock=some k→ok k)∧∀ (j:Nat) (x:S34) (c:List Value),xs[j]? =some x→rows[j]? =some c→k34.M w base (fun k=>(ok k∧some k≠v.ownBlock)∧f k=j) x c:=by
  obtain⟨f,h0,inner,ho,hr⟩:=h
  have hlz:xs.zipIdx.length=xs.length:=List.length_zipIdx
  rw[hlz] at ho
  have hraw:=Kd.reps_raw hr (fun x c hp=>⟨k34.K_len (k34.K_of_M hp),k34.K_one (k34.K_of_M hp)⟩)
  rw[hlz] at hraw
  refine⟨f,Kd.chunks 4 xs.length inner,Kd.chunks_length _ _ _,⟨fun k hk=>hk.symm,inner,by rw[Kd.chunks_length];exact ho,hraw⟩,h0,fun j x c hx hc=>?_⟩
  rw[Kd.chunks_get hc]
  exact hr.2 j (x,j) (Kd.zip_at hx)
theorem S_of_raw {v:Value} {xs:List S34} {rows:List (List Value)} {w:World} {base:Nat} {ok okr:Nat→Prop} (f:Nat→Nat) (hv:∀ k,v.ownBlock=some k→ok k) (hraw:(Kd.raw 4).R 34 w base okr v rows) (hl:rows.length=xs.length)
    (hM:∀ (j:Nat) (x:S34) (c:List Value),xs[j]? =some x→rows[j]? =some c→k34.M w base (fun k=>(ok k∧some k≠v.ownBlock)∧f k=j) x c):Kd.S k34 34 w base ok v xs:=by
  obtain⟨_,inner,ho,hr⟩:=hraw
  refine⟨f,hv,inner,by rw[List.length_zipIdx, ← hl];exact ho,⟨by rw[List.length_zipIdx, ← hl];exact hr.1,fun j p hj=>?_⟩⟩
  rw[List.getElem?_zipIdx,Nat.zero_add] at hj
  obtain⟨q,hq,rfl⟩:=Option.map_eq_some_iff.1 hj
  have hjl:j<rows.length:=by have:=(List.getElem?_eq_some_iff.1 hq).1;omega
  have hc:=(hr.2 j _ (List.getElem?_eq_getElem hjl)).1
  show k34.M w base (fun k=>(ok k∧some k≠v.ownBlock)∧f k=j) q ((inner.drop (j*4)).take 4)
  rw[show(inner.drop (j*4)).take 4=rows[j] from hc]
  exact hM j q _ hq (List.getElem?_eq_getElem hjl)
/-- A variable of four cells is written whole. -/
theorem box_put {ops:Array Oper} {rest:List Oper} {o:Oper} {a:Act} {Q:Exit→Act→World→Prop} {W:World} (hN:o.dst=none) (hgd:o.guard=none) (p x:Operand) (ho:o.op= .store 34 p x) {g:Nat} {a0 a1 a2 a3 b0 b1 b2 b3:Value}
    (haddr:a.eval p= .pointer (some ⟨g,0,none⟩)) (hx:a.eval x= .agg #[b0,b1,b2,b3]) (hb:W.heap[g]? =some (.cells #[a0,a1,a2,a3] 34 (0,0)))
    (ha:∀ u∈[a0,a1,a2,a3],u.oneCell'=true) (h1:∀ u∈[b0,b1,b2,b3],u.oneCell'=true) (hc:(Value.agg #[b0,b1,b2,b3]).cells.toList=[b0,b1,b2,b3])
    (h:∀ w1,W.grownBy w1 (some g)→w1.cell? ⟨g,0,none⟩=some b0→w1.cell? ⟨g,1,none⟩=some b1→w1.cell? ⟨g,2,none⟩=some b2→w1.cell? ⟨g,3,none⟩=some b3→wpList Try.prog ops Q rest a w1):wpList Try.prog ops Q (o :: rest) a W:=by
  have hlt:g<W.heap.size:=(Array.getElem?_eq_some_iff.1 hb).1
  have hR:(Kd.raw 4).R 34 W g (fun _=>True) (.slice (some ⟨g,0,none⟩) 1 1) [[a0,a1,a2,a3]]:=by
    refine⟨fun _ _=>trivial,[a0,a1,a2,a3],⟨rfl, .inr ⟨g,1, #[a0,a1,a2,a3],rfl,Nat.le_refl _,hb,Nat.le_refl _,by unfold maxLen;omega,by show 1*4≤4;omega,rfl⟩⟩,?_⟩
    refine⟨rfl,fun j q hj=>?_⟩
    match j,hj with
    | 0,hj=>
      obtain rfl:=Option.some.inj hj
      exact⟨rfl,rfl,ha⟩
    | j+1,hj=>simp at hj
  refine Kd.R_store (Kd.raw 4) (w0:=W) g hN hgd 34 p x ho 34 (o':=0) (0:Int) 0 [[a0,a1,a2,a3]] [b0,b1,b2,b3] (.agg #[b0,b1,b2,b3]) [b0,b1,b2,b3] [a0,a1,a2,a3] (fun _=>True) (fun _=>False) haddr rfl hx hc (by kernel_rfl) h1 hR (by omega) (by omega) rfl ?_ (by simp [Kd.raw]) ⟨rfl,rfl,h1⟩ (fun _ hk=>hk.elim) (Below.refl _ _) ?_
  · intro j u hj
    rw[blk_cell hb]
    simpa using hj
  · intro w1 hr _ hg
    obtain⟨c,hcl,hM,hcc,_⟩:=Kd.R_elem hr [] 0 (by omega) (by omega)
    have hce:c=[b0,b1,b2,b3]:=hM.1
    subst hce
    exact h w1 hg (hcc 0 b0 rfl) (hcc 1 b1 rfl) (hcc 2 b2 rfl) (hcc 3 b3 rfl)
end Go.Proofs.Ytlalkldjpniakaa.P
/- slices.DeleteFunc over a list of items of the call's own: what p holds of goes, the others stay in their order. -/
namespace Go.Proofs.Ytlalkldjpniakaa.P
open Go.RowKit Go.Proofs.YtlalkldjpniakaaW.PrintWords Go.Proofs.YtlalkldjpniakaaW.PrintLast Go.Proofs.YtlalkldjpniakaaW.PrintMore
set_option linter.unusedVariables false
set_option linter.unusedSimpArgs false
set_option maxHeartbeats 8000000
set_option maxRecDepth 100000
/-- The places below j that stay. -/
def keptI (p:S34→Bool) (xs:List S34) (j:Nat):List Nat:=(List.range j).filter fun t=> !p (xs.getD t z34)
theorem keptI_succ (p:S34→Bool) (xs:List S34) (j:Nat):keptI p xs (j+1)=keptI p xs j++(if p (xs.getD j z34)=true then [] else [j]):=by
  unfold keptI
  rw[List.range_succ,List.filter_append]
  congr 1
  cases h:p (xs.getD j z34)
  · rw[List.filter_cons_of_pos (by rw[h];rfl),if_neg (by decide)];rfl
  · rw[List.filter_cons_of_neg (by rw[h];decide),if_pos rfl];rfl
theorem keptI_lt {p:S34→Bool} {xs:List S34} {j t:Nat} (h:t∈keptI p xs j):t<j:=by
  unfold keptI at h
  exact List.mem_range.1 (List.mem_filter.1 h).1
theorem keptI_all {p:S34→Bool} {xs:List S34}:∀ (j:Nat),(∀ t,t<j→p (xs.getD t z34)=false)→keptI p xs j=List.range j:=by
  intro j h
  unfold keptI
  rw[List.filter_eq_self]
  intro t ht
  rw[h t (List.mem_range.1 ht)];rfl
theorem keptI_le (p:S34→Bool) (xs:List S34) (j:Nat):(keptI p xs j).length≤j:=by
  unfold keptI
  have:=List.length_filter_le (fun t=> !p (xs.getD t z34)) (List.range j)
  simpa using this
theorem filter_kept (p:S34→Bool) (xs:List S34):xs.filter (fun x=> !p x)=(keptI p xs xs.length).map fun t=>xs.getD t z34:=by
  have h:xs=(List.range xs.length).map fun t=>xs.getD t z34:=by
    apply List.ext_getElem
    · simp
    · intro i h1 h2
      simp [List.getD_eq_getElem?_getD,h1]
  unfold keptI
  conv=>lhs;rw[h]
  rw[List.filter_map]
  rfl
/-- The rows of cells behind j rounds: the first i are those that stayed. -/
structure KInv (rows:List (List Value)) (p:S34→Bool) (xs:List S34) (j i:Nat) (dk:List (List Value)):Prop where
  len:dk.length=rows.length
  num:(keptI p xs j).length=i
  low:dk.take i=(keptI p xs j).map fun t=>rows.getD t []
  high:dk.drop j=rows.drop j
theorem KInv.lt {rows:List (List Value)} {p:S34→Bool} {xs:List S34} {j i:Nat} {dk:List (List Value)} (h:KInv rows p xs j i dk):i≤j:=by
  rw[← h.num];exact keptI_le p xs j
theorem KInv.start {rows:List (List Value)} {p:S34→Bool} {xs:List S34} {k:Nat} (hk:k<rows.length) (hp:p (xs.getD k z34)=true) (ha:∀ t,t<k→p (xs.getD t z34)=false):KInv rows p xs (k+1) k rows:=by
  have hs:keptI p xs (k+1)=List.range k:=by rw[keptI_succ,if_pos hp,List.append_nil,keptI_all k ha]
  refine⟨rfl,by rw[hs,List.length_range],?_,rfl⟩
  rw[hs]
  apply List.ext_getElem
  · simp;omega
  · intro i h1 h2
    simp at h1
    simp [List.getD_eq_getElem?_getD,show i<rows.length by omega]
theorem KInv.skip {rows:List (List Value)} {p:S34→Bool} {xs:List S34} {j i:Nat} {dk:List (List Value)} (h:KInv rows p xs j i dk) (hp:p (xs.getD j z34)=true):KInv rows p xs (j+1) i dk:=by
  have hs:keptI p xs (j+1)=keptI p xs j:=by rw[keptI_succ,if_pos hp,List.append_nil]
  refine⟨h.len,by rw[hs];exact h.num,by rw[hs];exact h.low,?_⟩
  have:=congrArg (List.drop 1) h.high
  simpa [List.drop_drop,Nat.add_comm] using this
theorem KInv.keep {rows:List (List Value)} {p:S34→Bool} {xs:List S34} {j i:Nat} {dk:List (List Value)} (h:KInv rows p xs j i dk) (hp:p (xs.getD j z34)=false) (hj:j<rows.length):KInv rows p xs (j+1) (i+1) (dk.set i (rows.getD j [])):=by
  have hs:keptI p xs (j+1)=keptI p xs j++[j]:=by rw[keptI_succ,if_neg (by rw[hp];decide)]
  have hi:=h.lt
  have hl:=h.len
  refine⟨by rw[List.length_set];exact h.len,by rw[hs,List.length_append,h.num];rfl,?_,?_⟩
  · rw[hs,List.map_append, ← h.low,List.take_succ_eq_append_getElem (by rw[List.length_set];omega),List.take_set_of_le (by omega),List.getElem_set_self]
    rfl
  · rw[List.drop_set_of_lt (by omega)]
    have:=congrArg (List.drop 1) h.high
    simpa [List.drop_drop,Nat.add_comm] using this
theorem KInv.at_ {rows:List (List Value)} {p:S34→Bool} {xs:List S34} {j i:Nat} {dk:List (List Value)} (h:KInv rows p xs j i dk) (hj:j<rows.length):dk.getD j []=rows.getD j []:=by
  have:=congrArg (fun l=>l[0]?) h.high
  simp only[List.getElem?_drop,Nat.add_zero] at this
  rw[List.getD_eq_getElem?_getD,List.getD_eq_getElem?_getD,this]
def zeros4 (n:Nat):List Value:=(Builtin.zeroCells #[.string ⟨#[]⟩, .int .i64 0, .int .i64 0, .slice none 0 0] n).toList
theorem zeros4_length (n:Nat):(zeros4 n).length=n*4:=by simp [zeros4,Builtin.zeroCells]
theorem run_clear4 (w:World) (ty:TypeId) (g o n c:Nat) (hn:0<n) (hc:∀ j,j<n*4→(w.cell? ⟨g,o+j,none⟩).isSome=true) (hf:∀ j,j<n*4→w.frozen? ⟨g,o+j,none⟩=false):
    (Builtin.clear_ #[25] ty #[.slice (some ⟨g,o,none⟩) n c]).run Try.prog w= .ok (.tuple #[]) (w.setCells g o (zeros4 n)):=by
  have hz:∀ w,(zeroValue 34).run Try.prog w= .ok (.agg #[.string ⟨#[]⟩, .int .i64 0, .int .i64 0, .slice none 0 0]) w:=by
    intro w
    kernel_rfl
  have hcs:(Value.agg #[.string ⟨#[]⟩, .int .i64 0, .int .i64 0, .slice none 0 0]).cells= #[.string ⟨#[]⟩, .int .i64 0, .int .i64 0, .slice none 0 0]:=rfl
  obtain⟨seg,hseg⟩:∃ seg,(Builtin.zeroCells #[.string ⟨#[]⟩, .int .i64 0, .int .i64 0, .slice none 0 0] n).toList=seg:=⟨_,rfl⟩
  have hl:seg.length=n*4:=by rw[← hseg];simp [Builtin.zeroCells]
  have h1:∀ v∈seg,v.oneCell'=true:=by
    intro v hv
    rw[← hseg] at hv
    simp only[Builtin.zeroCells,Array.toList_map,List.mem_map] at hv
    obtain⟨i,_,rfl⟩:=hv
    have h4:i % 4<4:=Nat.mod_lt _ (by omega)
    show((#[.string ⟨#[]⟩, .int .i64 0, .int .i64 0, .slice none 0 0]:Array Value)[i % 4]!).oneCell'=true
    match i % 4,h4 with
    | 0,_=>rfl
    | 1,_=>rfl
    | 2,_=>rfl
    | 3,_=>rfl
  have hst:=run_storeCells_cells (P:=Try.prog) g o seg 0 w (by rw[hl];simpa using hc) (by rw[hl];simpa using hf) h1
  simp only[Nat.add_zero] at hst
  unfold zeros4
  rw[hseg]
  obtain⟨m,rfl⟩:∃ m,n=m+1:=⟨n - 1,by omega⟩
  simp [Builtin.clear_,run_underlying Try.underlying25,hz,hcs,hseg,hst]
theorem grown_trans {w w1 w2:World} {r:Option Nat} (h:w.grownBy w1 r) (k:w1.grownBy w2 r):w.grownBy w2 r:=
  ⟨k.os.trans h.os,k.tape.trans h.tape,k.output.trans h.output,Nat.le_trans h.size k.size,fun q hq hr=>(k.block q (Nat.lt_of_lt_of_le hq h.size) hr).trans (h.block q hq hr)⟩
theorem grown_below {w w1 w2:World} {r:Option Nat} (h:Below w.heap.size w w1) (k:w1.grownBy w2 r):w.grownBy w2 r:=grown_trans (grown_of_below h r) k
/-- What is written is newer than w. -/
theorem grown_new {w w1 w2:World} {r:Option Nat} {gb:Nat} (h:w.grownBy w1 r) (k:w1.grownBy w2 (some gb)) (hle:w1.heap.size≤gb):w.grownBy w2 r:=
  ⟨k.os.trans h.os,k.tape.trans h.tape,k.output.trans h.output,Nat.le_trans h.size k.size,fun q hq hr=>(k.block q (Nat.lt_of_lt_of_le hq h.size) (fun e=>by injection e with e;have:=h.size;omega)).trans (h.block q hq hr)⟩
theorem grown_setCells4 (w:World) (g o:Nat) (seg:List Value):w.grownBy (w.setCells g o seg) (some g):=by
  obtain⟨s1,s2,s3,s4⟩:=setCells_same g seg o w
  exact⟨s1,s2,s3,Nat.le_of_eq s4.symm,fun k _ hne=>setCells_far seg o k (fun e=>hne (by rw[e]))⟩
/-- What lies ahead of what is cleared stays. -/
theorem raw_cleared {w:World} {base g n cap:Nat} {okr:Nat→Prop} {rows:List (List Value)} (h:(Kd.raw 4).R 34 w base okr (.slice (some ⟨g,0,none⟩) n cap) rows) (i:Nat) (hi:i≤n) (seg:List Value) (hs:seg.length=(n - i)*4):
    (Kd.raw 4).R 34 (w.setCells g (i*4) seg) base okr (.slice (some ⟨g,0,none⟩) i cap) (rows.take i)∧w.grownBy (w.setCells g (i*4) seg) (some g):=by
  have hn:=(Kd.R_reads' h).1
  have ht:=Kd.R_take h (m:=i) (by omega)
  obtain⟨h0,inner,ho,hr⟩:=ht
  obtain⟨_,inner2,ho2,hr2⟩:=h
  rcases ho2.2 with ⟨hv,_⟩ | ⟨g2,cap2,cur2,hv,hb2,hh2,hnc2,hm2,hsz2,htk2⟩
  · cases hv
  rcases ho.2 with ⟨hv',_⟩ | ⟨g3,cap3,cur3,hv3,hb3,hh3,hnc3,hm3,hsz3,htk3⟩
  · cases hv'
  injection hv with hva hvn hvc
  injection hva with hva
  injection hva with hvg
  injection hv3 with hva3 hvn3 hvc3
  injection hva3 with hva3
  injection hva3 with hvg3
  subst hvg hvg3 hvc hvc3
  rw[hh2] at hh3
  injection hh3 with hh3
  injection hh3 with hh3
  subst hh3
  have hsz:cap*4≤cur2.size:=hsz2
  have m1:n*4≤cap*4:=Nat.mul_le_mul_right _ (by omega)
  have m2:i*4+(n - i)*4=n*4:=by rw[← Nat.add_mul];congr 1;omega
  have m3:i*4≤n*4:=Nat.mul_le_mul_right _ hi
  obtain⟨cur',c1,c2,c3⟩:=setCells_row seg (i*4) w cur2 hh2 (by rw[hs];omega)
  refine⟨⟨h0,inner,⟨ho.1, .inr ⟨g,cap,cur',by rw[← hvn3],hb2,c1,hnc3,hm2,by rw[c2];exact hsz2,?_⟩⟩,hr⟩,?_⟩
  · rw[← htk3,c3, ← hvn3]
    show(cur2.toList.take (i*4)++seg++cur2.toList.drop (i*4+seg.length)).take (i*4)=cur2.toList.take (i*4)
    rw[List.append_assoc,List.take_append_of_le_length (by rw[List.length_take,Array.length_toList];omega),List.take_take,Nat.min_self]
  · exact grown_setCells4 w g (i*4) seg
end Go.Proofs.Ytlalkldjpniakaa.P
