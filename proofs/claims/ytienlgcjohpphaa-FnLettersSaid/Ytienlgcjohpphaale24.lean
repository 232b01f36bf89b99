import Derived.Test.Ytienlgcjohpphaale23
namespace Go.Proofs.Ytienlgcjohpphaa.P
open Go.RowKit Go.Proofs.YtienlgcjohpphaaW.PrintWords Go.Proofs.YtienlgcjohpphaaW.PrintLast Go.Proofs.YtienlgcjohpphaaW.PrintMore
attribute [local go_sem] zcn zco zdk zdl zce zcf zcp zcq -- for this text's walks alone
set_option linter.unusedVariables false
set_option linter.unusedSimpArgs false
set_option maxHeartbeats 8000000
set_option maxRecDepth 100000

def impl_Mac.t (k:Nat) (y l1:List Int):Option (List Int):=(if y.length≤64 then((impl_joined.f [y,List.replicate (64 - y.length) 0]).bind fun z=>(impl_xorAll.f k z 92).bind fun o=>(impl_xorAll.f k z 54).bind fun i=>(impl_joined.f [i,l1]).bind fun j=>(impl_Hash.f k j).bind fun g=>(impl_joined.f [o,g]).bind fun q=>impl_Hash.f k q) else none)
def impl_Mac.f (k:Nat) (l0:List Int) (l1:List Int):Option (List Int):=if(l1.length:Int)>3936 then some [] else if(l0.length:Int)>3936 then some [] else if(l0.length:Int)>64 then(impl_Hash.f k l0).bind fun y=>impl_Mac.t k y l1 else impl_Mac.t k l0 l1
theorem impl_Mac.monoT:∀ a0 a1 k,LeO (impl_Mac.t k a0 a1) (impl_Mac.t (k+1) a0 a1):=by
 intro a0 a1 k
 unfold impl_Mac.t
 have m0:=@impl_Hash.mono
 have m1:=@impl_xorAll.mono
 exact mt
theorem impl_Mac.mono:∀ a0 a1 k,LeO (impl_Mac.f k a0 a1) (impl_Mac.f (k+1) a0 a1):=by
 intro a0 a1 k
 unfold impl_Mac.f
 repeat' first
   | (with_reducible exact impl_Hash.mono _ _)
   | (with_reducible exact impl_Mac.monoT _ _ _)
   | (with_reducible exact LeO.refl _)
   | (with_reducible refine LeO.ite ?_ ?_)
   | (with_reducible refine LeO.bind ?_ (fun _=>?_))
theorem impl_Mac.wk {P:Prop} (h:P:=by
 go_enter Try.func38,Try.ntmps38
 go_wp2_with (first | (refine jgc 25 ?_;refine jgs 19 Try.func25 #[.slice AA lA.length cA] ?_;(with_reducible refine(impl_Hash.calls k _ _ lA lK _ ?side1 ?side2 AHK.out).mono ?_);(case side1=>exact(zbx (pV HVA.out)).2.2);(case side2=>exact(zbx HVA.out).2.1);rintro e w_ ⟨v_,rfl,ho_,hb⟩;refine⟨_,rfl,?_⟩;obtain⟨AK,cK,e_⟩:=zbb ho_;subst e_;have mn_:=Aside0.mk (show Kd.V (Kd.int .u8) 5 _ w.heap.size (fun _=>True) _ _ from zga (zam ho_).2.1 (zfd (Kd.R_F ho_) (fun _ _=>trivial)));have mB_:=Aside0.mk (zcw (pV HVB.out) hb);have mb_:=Aside0.mk (zal bq hb);clear HVA HVB HB;have HVB:=mB_;clear mB_;have HVK:=mn_;have HB:=mb_;clear mn_ mb_;clear ho_ hb) | (refine jgd 24 ?_;refine Kd.R_make (Kd.int .u8) _ 5 rfl (N:=24) rfl 23 _ _ rfl (m:Int) rfl rfl Try.underlying23 (.int .u8 0) 1 info5 rfl (by decide) (by omega) 0 (ok:=fun _=>True) (okp:=fun _=>True) rfl (fun _ hk=>hk) trivial (by omega) (by omega) (zbk _ _) (zav _) ?_;intro v_ w_ ho_ hb hg_ hnew_;clear hg_ hnew_;rw[← NyZ.out] at ho_;obtain⟨AZ,cZ,e_⟩:=zbb ho_;subst e_;have mn_:=Aside0.mk (show Kd.V (Kd.int .u8) 5 _ w.heap.size (fun _=>True) _ _ from zga (zam ho_).2.1 (zfd (Kd.R_F ho_) (fun _ _=>trivial)));have mB_:=Aside0.mk (zcw (pV HVB.out) hb);have mK_:=Aside0.mk (zcw (pV HVK.out) hb);have mb_:=Aside0.mk (zal bq hb);clear HVB HVK HB;have HVB:=mB_;clear mB_;have HVK:=mK_;clear mK_;have HVZ:=mn_;have HB:=mb_;clear mn_ mb_;clear ho_ hb) | (refine jgd 25 ?_;refine Kd.N_lit (Kd.slice 5 (Kd.int .u8)) _ 23 ?hg (N':=25) ?hd (xs:=([lK,lZ]:List (List Int))) (inner:=[.slice AK lK.length cK, .slice AZ lZ.length cZ]) (ok:=(fun _=>True)) (okp:=(fun _=>True)) ?hr ?hp (fun _ hk=>hk) trivial (zbk _ _) (zav _) (by simp) ?_;(case hd=>rfl);(case hg=>rfl);(case hr=>first | (go_simp;done) | (go_simp;rfl));(case hp=>exact(zan (show Kd.FK (Kd.slice 5 (Kd.int .u8)) _ _ lK [.slice AK lK.length cK] from(zcy (zbx HVK.out).2.1 (Kd.V_F HVK.out))) (zan (show Kd.FK (Kd.slice 5 (Kd.int .u8)) _ _ lZ [.slice AZ lZ.length cZ] from(zcy (zbx HVZ.out).2.1 (Kd.V_F HVZ.out))) (zeb _ _))));intro v_ w_ ho_ hb hg_ hnew_;have xb_:=below_ofs bq hb;clear hg_ hnew_;(first | rw[← Ny1.out] at ho_ | (simp only[Int.reduceToNat] at ho_;rw[← Ny1.out] at ho_));have mn_:=Aside0.mk (zfe ho_ (zah xb_));have mB_:=Aside0.mk (zcw (pV HVB.out) hb);have mb_:=Aside0.mk (zal xb_ hb);clear HVB HVK HVZ HB;have HVB:=mB_;clear mB_;have HN:=mn_;have HB:=mb_;clear mn_ mb_;clear xb_ hb ho_;obtain⟨AN,cN,eN⟩:=zge HN.out;subst eN) | (refine jgc 79 ?_;refine jgs 26 Try.func79 #[.slice AN y1.length cN] ?_;(with_reducible refine(impl_joined.calls _ _ y1 lS _ ?side1 ?side2 AJ1.out).mono ?_);(case side1=>repeat(first | exact(zee HN.out).2.2 | (with_reducible first | apply zbs | apply zbt | apply zcg)));(case side2=>exact(zee HN.out).2.1);clear HN;rintro e w_ ⟨v_,rfl,ho_,hb⟩;refine⟨_,rfl,?_⟩;obtain⟨AS,cS,e_⟩:=zbb ho_;subst e_;have mn_:=Aside0.mk (show Kd.V (Kd.int .u8) 5 _ w.heap.size (fun _=>True) _ _ from zga (zam ho_).2.1 (zfd (Kd.R_F ho_) (fun _ _=>trivial)));have mB_:=Aside0.mk (zcw (pV HVB.out) hb);have mb_:=Aside0.mk (zal bq hb);clear HVB HB;have HVB:=mB_;clear mB_;have HVS:=mn_;have HB:=mb_;clear mn_ mb_;clear ho_ hb) | (refine jgc 88 ?_;refine jgs 28 Try.func88 #[.slice AS lS.length cS, .int .u8 92] ?_;(with_reducible refine(impl_xorAll.calls k _ _ lS 92 lO _ ?side1 ?side2 AX1.out).mono ?_);(case side1=>exact(zbx (pV HVS.out)).2.2);(case side2=>exact(zbx HVS.out).2.1);rintro e w_ ⟨v_,rfl,ho_,hb⟩;refine⟨_,rfl,?_⟩;obtain⟨AO,cO,e_⟩:=zbb ho_;subst e_;have mn_:=Aside0.mk (show Kd.V (Kd.int .u8) 5 _ w.heap.size (fun _=>True) _ _ from zga (zam ho_).2.1 (zfd (Kd.R_F ho_) (fun _ _=>trivial)));have mB_:=Aside0.mk (zcw (pV HVB.out) hb);have mS_:=Aside0.mk (zcw (pV HVS.out) hb);have mb_:=Aside0.mk (zal bq hb);clear HVB HVS HB;have HVB:=mB_;clear mB_;have HVS:=mS_;clear mS_;have HVO:=mn_;have HB:=mb_;clear mn_ mb_;clear ho_ hb) | (refine jgc 88 ?_;refine jgs 30 Try.func88 #[.slice AS lS.length cS, .int .u8 54] ?_;(with_reducible refine(impl_xorAll.calls k _ _ lS 54 lI _ ?side1 ?side2 AX2.out).mono ?_);(case side1=>exact(zbx (pV HVS.out)).2.2);(case side2=>exact(zbx HVS.out).2.1);rintro e w_ ⟨v_,rfl,ho_,hb⟩;refine⟨_,rfl,?_⟩;obtain⟨AI,cI,e_⟩:=zbb ho_;subst e_;have mn_:=Aside0.mk (show Kd.V (Kd.int .u8) 5 _ w.heap.size (fun _=>True) _ _ from zga (zam ho_).2.1 (zfd (Kd.R_F ho_) (fun _ _=>trivial)));have mB_:=Aside0.mk (zcw (pV HVB.out) hb);have mO_:=Aside0.mk (zcw (pV HVO.out) hb);have mb_:=Aside0.mk (zal bq hb);clear HVB HVS HVO HB;have HVB:=mB_;clear mB_;have HVO:=mO_;clear mO_;have HVI:=mn_;have HB:=mb_;clear mn_ mb_;clear ho_ hb) | (refine jgd 32 ?_;refine Kd.N_lit (Kd.slice 5 (Kd.int .u8)) _ 23 ?hg (N':=32) ?hd (xs:=([lI,lB]:List (List Int))) (inner:=[.slice AI lI.length cI, .slice AB lB.length cB]) (ok:=(fun _=>True)) (okp:=(fun _=>True)) ?hr ?hp (fun _ hk=>hk) trivial (zbk _ _) (zav _) (by simp) ?_;(case hd=>rfl);(case hg=>rfl);(case hr=>first | (go_simp;done) | (go_simp;rfl));(case hp=>exact(zan (show Kd.FK (Kd.slice 5 (Kd.int .u8)) _ _ lI [.slice AI lI.length cI] from(zcy (zbx HVI.out).2.1 (Kd.V_F HVI.out))) (zan (show Kd.FK (Kd.slice 5 (Kd.int .u8)) _ _ lB [.slice AB lB.length cB] from(zcy (zbx HVB.out).2.1 (Kd.V_F HVB.out))) (zeb _ _))));intro v_ w_ ho_ hb hg_ hnew_;have xb_:=below_ofs bq hb;clear hg_ hnew_;(first | rw[← Ny2.out] at ho_ | (simp only[Int.reduceToNat] at ho_;rw[← Ny2.out] at ho_));have mn_:=Aside0.mk (zfe ho_ (zah xb_));have mO_:=Aside0.mk (zcw (pV HVO.out) hb);have mb_:=Aside0.mk (zal xb_ hb);clear HVB HVO HVI HB;have HVO:=mO_;clear mO_;have HN:=mn_;have HB:=mb_;clear mn_ mb_;clear xb_ hb ho_;obtain⟨AN,cN,eN⟩:=zge HN.out;subst eN) | (refine jgc 79 ?_;refine jgs 33 Try.func79 #[.slice AN y2.length cN] ?_;(with_reducible refine(impl_joined.calls _ _ y2 lU _ ?side1 ?side2 AJ2.out).mono ?_);(case side1=>repeat(first | exact(zee HN.out).2.2 | (with_reducible first | apply zbs | apply zbt | apply zcg)));(case side2=>exact(zee HN.out).2.1);clear HN;rintro e w_ ⟨v_,rfl,ho_,hb⟩;refine⟨_,rfl,?_⟩;obtain⟨AU,cU,e_⟩:=zbb ho_;subst e_;have mn_:=Aside0.mk (show Kd.V (Kd.int .u8) 5 _ w.heap.size (fun _=>True) _ _ from zga (zam ho_).2.1 (zfd (Kd.R_F ho_) (fun _ _=>trivial)));have mO_:=Aside0.mk (zcw (pV HVO.out) hb);have mb_:=Aside0.mk (zal bq hb);clear HVO HB;have HVO:=mO_;clear mO_;have HVU:=mn_;have HB:=mb_;clear mn_ mb_;clear ho_ hb) | (refine jgc 25 ?_;refine jgs 34 Try.func25 #[.slice AU lU.length cU] ?_;(with_reducible refine(impl_Hash.calls k _ _ lU lV _ ?side1 ?side2 AH1.out).mono ?_);(case side1=>exact(zbx (pV HVU.out)).2.2);(case side2=>exact(zbx HVU.out).2.1);rintro e w_ ⟨v_,rfl,ho_,hb⟩;refine⟨_,rfl,?_⟩;obtain⟨AV,cV,e_⟩:=zbb ho_;subst e_;have mn_:=Aside0.mk (show Kd.V (Kd.int .u8) 5 _ w.heap.size (fun _=>True) _ _ from zga (zam ho_).2.1 (zfd (Kd.R_F ho_) (fun _ _=>trivial)));have mO_:=Aside0.mk (zcw (pV HVO.out) hb);have mb_:=Aside0.mk (zal bq hb);clear HVO HVU HB;have HVO:=mO_;clear mO_;have HVV:=mn_;have HB:=mb_;clear mn_ mb_;clear ho_ hb) | (refine jgd 35 ?_;refine Kd.N_lit (Kd.slice 5 (Kd.int .u8)) _ 23 ?hg (N':=35) ?hd (xs:=([lO,lV]:List (List Int))) (inner:=[.slice AO lO.length cO, .slice AV lV.length cV]) (ok:=(fun _=>True)) (okp:=(fun _=>True)) ?hr ?hp (fun _ hk=>hk) trivial (zbk _ _) (zav _) (by simp) ?_;(case hd=>rfl);(case hg=>rfl);(case hr=>first | (go_simp;done) | (go_simp;rfl));(case hp=>exact(zan (show Kd.FK (Kd.slice 5 (Kd.int .u8)) _ _ lO [.slice AO lO.length cO] from(zcy (zbx HVO.out).2.1 (Kd.V_F HVO.out))) (zan (show Kd.FK (Kd.slice 5 (Kd.int .u8)) _ _ lV [.slice AV lV.length cV] from(zcy (zbx HVV.out).2.1 (Kd.V_F HVV.out))) (zeb _ _))));intro v_ w_ ho_ hb hg_ hnew_;have xb_:=below_ofs bq hb;clear hg_ hnew_;(first | rw[← Ny3.out] at ho_ | (simp only[Int.reduceToNat] at ho_;rw[← Ny3.out] at ho_));have mn_:=Aside0.mk (zfe ho_ (zah xb_));have mb_:=Aside0.mk (zal xb_ hb);clear HVO HVV HB;have HN:=mn_;have HB:=mb_;clear mn_ mb_;clear xb_ hb ho_;obtain⟨AN,cN,eN⟩:=zge HN.out;subst eN) | (refine jgc 79 ?_;refine jgs 36 Try.func79 #[.slice AN y3.length cN] ?_;(with_reducible refine(impl_joined.calls _ _ y3 lT _ ?side1 ?side2 AJ3.out).mono ?_);(case side1=>repeat(first | exact(zee HN.out).2.2 | (with_reducible first | apply zbs | apply zbt | apply zcg)));(case side2=>exact(zee HN.out).2.1);clear HN;rintro e w_ ⟨v_,rfl,ho_,hb⟩;refine⟨_,rfl,?_⟩;obtain⟨AT,cT,e_⟩:=zbb ho_;subst e_;have mn_:=Aside0.mk (show Kd.V (Kd.int .u8) 5 _ w.heap.size (fun _=>True) _ _ from zga (zam ho_).2.1 (zfd (Kd.R_F ho_) (fun _ _=>trivial)));have mb_:=Aside0.mk (zal bq hb);clear HB;have HVT:=mn_;have HB:=mb_;clear mn_ mb_;clear ho_ hb) | (refine jgc 25 ?_;refine jgs 37 Try.func25 #[.slice AT lT.length cT] ?_;(with_reducible refine(impl_Hash.calls k _ _ lT r _ ?side1 ?side2 AH2.out).mono ?_);(case side1=>exact(zbx (pV HVT.out)).2.2);(case side2=>exact(zbx HVT.out).2.1);rintro e w_ ⟨v_,rfl,ho_,hb⟩;refine⟨_,rfl,?_⟩;have mn_:=Aside0.mk (zaq ho_ (zah bq));have mb_:=Aside0.mk (zal bq hb);clear HB;have HR:=mn_;have HB:=mb_;clear mn_ mb_;clear ho_ hb) | (refine jgd 24 ?_;refine Kd.R_make (Kd.int .u8) _ 5 rfl (N:=24) rfl 23 _ _ rfl (m:Int) rfl rfl Try.underlying23 (.int .u8 0) 1 info5 rfl (by decide) (by omega) 0 (ok:=fun _=>True) (okp:=fun _=>True) rfl (fun _ hk=>hk) trivial (by omega) (by omega) (zbk _ _) (zav _) ?_;intro v_ w_ ho_ hb hg_ hnew_;clear hg_ hnew_;rw[← NyZ.out] at ho_;obtain⟨AZ,cZ,e_⟩:=zbb ho_;subst e_;have mn_:=Aside0.mk (show Kd.V (Kd.int .u8) 5 _ w.heap.size (fun _=>True) _ _ from zga (zam ho_).2.1 (zfd (Kd.R_F ho_) (fun _ _=>trivial)));have mA_:=Aside0.mk (zcw (pV HVA.out) hb);have mB_:=Aside0.mk (zcw (pV HVB.out) hb);have mb_:=Aside0.mk (zal bq hb);clear HVA HVB HB;have HVA:=mA_;clear mA_;have HVB:=mB_;clear mB_;have HVZ:=mn_;have HB:=mb_;clear mn_ mb_;clear ho_ hb) | (refine jgd 25 ?_;refine Kd.N_lit (Kd.slice 5 (Kd.int .u8)) _ 23 ?hg (N':=25) ?hd (xs:=([lA,lZ]:List (List Int))) (inner:=[.slice AA lA.length cA, .slice AZ lZ.length cZ]) (ok:=(fun _=>True)) (okp:=(fun _=>True)) ?hr ?hp (fun _ hk=>hk) trivial (zbk _ _) (zav _) (by simp) ?_;(case hd=>rfl);(case hg=>rfl);(case hr=>first | (go_simp;done) | (go_simp;rfl));(case hp=>exact(zan (show Kd.FK (Kd.slice 5 (Kd.int .u8)) _ _ lA [.slice AA lA.length cA] from(zcy (zbx HVA.out).2.1 (Kd.V_F HVA.out))) (zan (show Kd.FK (Kd.slice 5 (Kd.int .u8)) _ _ lZ [.slice AZ lZ.length cZ] from(zcy (zbx HVZ.out).2.1 (Kd.V_F HVZ.out))) (zeb _ _))));intro v_ w_ ho_ hb hg_ hnew_;have xb_:=below_ofs bq hb;clear hg_ hnew_;(first | rw[← Ny1.out] at ho_ | (simp only[Int.reduceToNat] at ho_;rw[← Ny1.out] at ho_));have mn_:=Aside0.mk (zfe ho_ (zah xb_));have mB_:=Aside0.mk (zcw (pV HVB.out) hb);have mb_:=Aside0.mk (zal xb_ hb);clear HVA HVB HVZ HB;have HVB:=mB_;clear mB_;have HN:=mn_;have HB:=mb_;clear mn_ mb_;clear xb_ hb ho_;obtain⟨AN,cN,eN⟩:=zge HN.out;subst eN))
 go_ret
 first | (exact⟨_,rfl,by(with_reducible repeat(first | apply zat | apply zau | apply zar));exact HR.out,bq⟩) | (exact⟨_,rfl,Kd.R_nil _ _ _ _ _,zbk _ _⟩)):P:=h
theorem impl_Mac.calls (k:Nat) (AA:Option Addr) (cA:Nat) (lA:List Int) (AB:Option Addr) (cB:Nat) (lB:List Int) (r:List Int) (w:World) (hr0:Kd.C (Kd.int .u8) w AA lA.length lA) (hc0:lA.length≤cA) (hr1:Kd.C (Kd.int .u8) w AB lB.length lB) (hc1:lB.length≤cB) (h:impl_Mac.f k lA lB=some r):
  Calls Try.prog 38 #[.slice AA lA.length cA, .slice AB lB.length cB] w fun e w'=>∃ v0_:Value,e= .returned (v0_)∧Kd.R (Kd.int .u8) 5 w' w.heap.size (fun _=>True) v0_ r∧Below w.heap.size w w':=by
 have HB:=Aside0.mk (zbk w.heap.size w)
 unfold impl_Mac.f at h
 by_cases q1:(lB.length:Int)>3936
 ·rw[if_pos q1] at h
  obtain rfl:=Option.some.inj h
  exact impl_Mac.wk
 rw[if_neg q1] at h
 by_cases c2:(lA.length:Int)>3936
 ·rw[if_pos c2] at h
  obtain rfl:=Option.some.inj h
  exact impl_Mac.wk
 rw[if_neg c2] at h
 have HVA:Aside0 (Kd.V (Kd.int .u8) 5 w w.heap.size (fun _=>True) (.slice AA lA.length cA) lA):=⟨zga hc0 (zfd (Kd.C_F (zgg .u8) hr0) (fun _ _=>trivial))⟩
 have HVB:Aside0 (Kd.V (Kd.int .u8) 5 w w.heap.size (fun _=>True) (.slice AB lB.length cB) lB):=⟨zga hc1 (zfd (Kd.C_F (zgg .u8) hr1) (fun _ _=>trivial))⟩
 clear hr0 hc0 hr1 hc1
 by_cases c3:(lA.length:Int)>64
 ·rw[if_pos c3] at h
  obtain⟨lK,A_,H⟩:=zcv.mp h
  have AHK:=Aside0.mk A_
  clear A_ h
  unfold impl_Mac.t at H
  by_cases c4:lK.length≤64
  ·rw[if_pos c4] at H
   obtain⟨m,hm⟩:∃ m:Nat,64 - lK.length=m:=⟨_,rfl⟩
   have hmi:(64:Int) - (lK.length:Int)=(m:Int):=by omega
   have hmw:IntKind.i64.wrap (m:Int)=(m:Int):=by rw[IntKind.wrap_i64];omega
   have hm64:m≤64:=by omega
   have hm0:(0:Int)≤(m:Int):=by omega
   rw[hm] at H
   obtain⟨lZ,hZ⟩:∃ y_:List Int,y_=List.replicate ((m:Int)).toNat 0:=⟨_,rfl⟩
   rw[show List.replicate m (0:Int)=lZ from by rw[hZ];rfl] at H
   have NyZ:=Aside0.mk hZ
   clear hZ hm
   obtain⟨y1,hy_⟩:∃ y_:List (List Int),y_=(([lK,lZ]:List (List Int))):=⟨_,rfl⟩
   rw[← hy_] at H
   have Ny1:=Aside0.mk hy_
   clear hy_
   replace H:=zcv.mp H
   obtain⟨lS,A_,H⟩:=H
   have AJ1:=Aside0.mk A_
   clear A_
   replace H:=zcv.mp H
   obtain⟨lO,A_,H⟩:=H
   have AX1:=Aside0.mk A_
   clear A_
   replace H:=zcv.mp H
   obtain⟨lI,A_,H⟩:=H
   have AX2:=Aside0.mk A_
   clear A_
   obtain⟨y2,hy_⟩:∃ y_:List (List Int),y_=(([lI,lB]:List (List Int))):=⟨_,rfl⟩
   rw[← hy_] at H
   have Ny2:=Aside0.mk hy_
   clear hy_
   replace H:=zcv.mp H
   obtain⟨lU,A_,H⟩:=H
   have AJ2:=Aside0.mk A_
   clear A_
   replace H:=zcv.mp H
   obtain⟨lV,A_,H⟩:=H
   have AH1:=Aside0.mk A_
   clear A_
   obtain⟨y3,hy_⟩:∃ y_:List (List Int),y_=(([lO,lV]:List (List Int))):=⟨_,rfl⟩
   rw[← hy_] at H
   have Ny3:=Aside0.mk hy_
   clear hy_
   replace H:=zcv.mp H
   obtain⟨lT,A_,H⟩:=H
   have AJ3:=Aside0.mk A_
   clear A_
   have AH2:=Aside0.mk H
   clear H
   exact impl_Mac.wk
  rw[if_neg c4] at H;cases H
 rw[if_neg c3] at h
 have H:=h
 clear h
 unfold impl_Mac.t at H
 by_cases c4:lA.length≤64
 ·rw[if_pos c4] at H
  obtain⟨m,hm⟩:∃ m:Nat,64 - lA.length=m:=⟨_,rfl⟩
  have hmi:(64:Int) - (lA.length:Int)=(m:Int):=by omega
  have hmw:IntKind.i64.wrap (m:Int)=(m:Int):=by rw[IntKind.wrap_i64];omega
  have hm64:m≤64:=by omega
  have hm0:(0:Int)≤(m:Int):=by omega
  rw[hm] at H
  obtain⟨lZ,hZ⟩:∃ y_:List Int,y_=List.replicate ((m:Int)).toNat 0:=⟨_,rfl⟩
  rw[show List.replicate m (0:Int)=lZ from by rw[hZ];rfl] at H
  have NyZ:=Aside0.mk hZ
  clear hZ hm
  obtain⟨y1,hy_⟩:∃ y_:List (List Int),y_=(([lA,lZ]:List (List Int))):=⟨_,rfl⟩
  rw[← hy_] at H
  have Ny1:=Aside0.mk hy_
  clear hy_
  replace H:=zcv.mp H
  obtain⟨lS,A_,H⟩:=H
  have AJ1:=Aside0.mk A_
  clear A_
  replace H:=zcv.mp H
  obtain⟨lO,A_,H⟩:=H
  have AX1:=Aside0.mk A_
  clear A_
  replace H:=zcv.mp H
  obtain⟨lI,A_,H⟩:=H
  have AX2:=Aside0.mk A_
  clear A_
  obtain⟨y2,hy_⟩:∃ y_:List (List Int),y_=(([lI,lB]:List (List Int))):=⟨_,rfl⟩
  rw[← hy_] at H
  have Ny2:=Aside0.mk hy_
  clear hy_
  replace H:=zcv.mp H
  obtain⟨lU,A_,H⟩:=H
  have AJ2:=Aside0.mk A_
  clear A_
  replace H:=zcv.mp H
  obtain⟨lV,A_,H⟩:=H
  have AH1:=Aside0.mk A_
  clear A_
  obtain⟨y3,hy_⟩:∃ y_:List (List Int),y_=(([lO,lV]:List (List Int))):=⟨_,rfl⟩
  rw[← hy_] at H
  have Ny3:=Aside0.mk hy_
  clear hy_
  replace H:=zcv.mp H
  obtain⟨lT,A_,H⟩:=H
  have AJ3:=Aside0.mk A_
  clear A_
  have AH2:=Aside0.mk H
  clear H
  exact impl_Mac.wk
 rw[if_neg c4] at H;cases H
def impl_Extract.f (k:Nat) (l0:List Int) (l1:List Int):Option (List Int):=if(l0.length:Int)=0 then(if 32≤281474976710656 then((impl_Mac.f k (List.replicate 32 0) l1).bind fun t851=>(some t851)) else(none)) else((impl_Mac.f k l0 l1).bind fun t854=>(some t854))
theorem impl_Extract.mono:∀ a0 a1 k,LeO (impl_Extract.f k a0 a1) (impl_Extract.f (k+1) a0 a1):=by
 intro a0 a1 k
 unfold impl_Extract.f
 have m0:=@impl_Mac.mono
 exact mt
theorem impl_Extract.wk {P:Prop} (h:P:=by
 go_enter Try.func40,Try.ntmps40
 go_wp2_with (first | (refine jgd 8 ?_;refine Kd.R_make (Kd.int .u8) _ 5 rfl (N:=8) rfl 23 _ _ rfl 32 rfl rfl Try.underlying23 (.int .u8 0) 1 info5 rfl (by decide) (by omega) 0 (ok:=fun _=>True) (okp:=fun _=>True) rfl (fun _ hk=>hk) trivial (by omega) (by omega) (zbk _ _) (zav _) ?_;intro v849 w_ ho7 hb hg_ hnew_;have xb_:=below_ofs bq hb;clear hg_ hnew_;(first | rw[← Ny848.out] at ho7 | (simp only[Int.reduceToNat] at ho7;rw[← Ny848.out] at ho7));have n_:=jA2 (zaq ho7 (zah xb_)) (zal xb_ hb);clear HB;obtain⟨HO850,HB⟩:=n_;clear xb_ hb ho7;obtain⟨Ao8,co8,eo8⟩:=zbb HO850.out;subst eo8) | (refine jgc 38 ?_;refine jgs 11 Try.func38 #[.slice Ao8 y848.length co8, .slice A1 l1.length c1] ?_;(with_reducible refine(impl_Mac.calls k _ _ y848 _ _ l1 t851 _ ?side1 ?side2 ?side3 ?side4 A5.out).mono ?_);(case side1=>repeat(first | exact(zam HO850.out).2.2 | (with_reducible first | apply zbs | apply zbt | apply zcg)));(case side2=>exact(zam HO850.out).2.1);(case side3=>exact jcs HR1.out);(case side4=>exact HC1.out);rintro e w_ ⟨v852,rfl,ho0,hb⟩;refine⟨_,rfl,?_⟩;have xb_:=below_ofs bq hb;have qHO850:=Kd.R_ofs (pR HO850.out) hb;have n_:=jA3 (zbp qHO850 (zba ho0) hb) (zaq (zby ho0 (zca qHO850)) (zah xb_)) (zal xb_ hb);clear qHO850 HO850 HB;obtain⟨HO850,HO853,HB⟩:=n_;clear xb_ hb ho0) | (refine jgc 38 ?_;refine jgs 11 Try.func38 #[.slice A0 l0.length c0, .slice A1 l1.length c1] ?_;(with_reducible refine(impl_Mac.calls k _ _ l0 _ _ l1 t854 _ ?side1 ?side2 ?side3 ?side4 A10.out).mono ?_);(case side1=>repeat(first | exact HR0.out | (with_reducible first | apply zbs | apply zbt | apply zcg)));(case side2=>exact HC0.out);(case side3=>repeat(first | exact HR1.out | (with_reducible first | apply zbs | apply zbt | apply zcg)));(case side4=>exact HC1.out);rintro e w_ ⟨v855,rfl,ho0,hb⟩;refine⟨_,rfl,?_⟩;have xb_:=below_ofs bq hb;have n_:=jA2 (zaq ho0 (zah xb_)) (zal xb_ hb);clear HB;obtain⟨HO856,HB⟩:=n_;clear xb_ hb ho0))
 go_ret
 first | (exact⟨_,jex,tqR HO853.out,bq⟩) | (exact⟨_,jex,by(with_reducible repeat(first | apply zat | apply zau | apply zar));exact HO856.out,bq⟩)):P:=h
theorem impl_Extract.calls (k:Nat) (A0:Option Addr) (c0:Nat) (l0:List Int) (A1:Option Addr) (c1:Nat) (l1:List Int) (r:List Int) (w:World) (hr0:Kd.C (Kd.int .u8) w A0 l0.length l0) (hc0:l0.length≤c0) (hr1:Kd.C (Kd.int .u8) w A1 l1.length l1) (hc1:l1.length≤c1) (h:impl_Extract.f k l0 l1=some r):
  Calls Try.prog 40 #[.slice A0 l0.length c0, .slice A1 l1.length c1] w fun e w'=>∃ v0_:Value,e= .returned (v0_)∧Kd.R (Kd.int .u8) 5 w' w.heap.size (fun _=>True) v0_ r∧Below w.heap.size w w':=by
 have HR0:=Aside0.mk hr0
 have HC0:=Aside0.mk hc0
 clear hr0 hc0
 have HR1:=Aside0.mk hr1
 have HC1:=Aside0.mk hc1
 clear hr1 hc1
 have HB:=Aside0.mk (zbk w.heap.size w)
 have H:(if(l0.length:Int)=0 then(if 32≤281474976710656 then((impl_Mac.f k (List.replicate 32 0) l1).bind fun t851=>(some t851)) else(none)) else((impl_Mac.f k l0 l1).bind fun t854=>(some t854)))=some r:=h
 clear h
 by_cases c3:(l0.length:Int)=0
 ·rw[if_pos c3] at H
  have c3b0:=beqT c3
  have c3b1:=zdm.mpr c3
  clear c3
  by_cases c4:32≤281474976710656
  ·rw[if_pos c4] at H
   have c4b0:=zas c4
   have c4b1:=zab c4
   clear c4
   obtain⟨y848,hy848⟩:∃ y_:List Int,y_=(List.replicate 32 0):=⟨_,rfl⟩
   replace H:((impl_Mac.f k y848 l1).bind fun t851=>(some t851))=some r:=jrw hy848 H
   have Ny848:=Aside0.mk hy848
   clear hy848
   obtain⟨t851,A5,H⟩:=bnd H
   obtain rfl:=Option.some.inj H
   exact impl_Extract.wk
  rw[if_neg c4] at H
  exact absurd H (by simp)
 rw[if_neg c3] at H
 have c3b0:=zcl.mpr c3
 have c3b1:=zez.mpr c3
 have c3b2:¬(l0=[]):=fun h_=>c3 (by rw[h_];rfl)
 obtain⟨t854,A10,H⟩:=bnd H
 obtain rfl:=Option.some.inj H
 exact impl_Extract.wk
end Go.Proofs.Ytienlgcjohpphaa.P
