import Derived.Test.Ytienlgcjohpphaale28
namespace Go.Proofs.Ytienlgcjohpphaa.P
open Go.RowKit Go.Proofs.YtienlgcjohpphaaW.PrintWords Go.Proofs.YtienlgcjohpphaaW.PrintLast Go.Proofs.YtienlgcjohpphaaW.PrintMore
attribute [local go_sem] zcn zco zdk zdl zce zcf zcp zcq -- for this text's walks alone
set_option linter.unusedVariables false
set_option linter.unusedSimpArgs false
set_option maxHeartbeats 8000000
set_option maxRecDepth 100000

def spec_DrawLetterBytes.f (k:Nat) (l0:List Int):Option (Int×List Int×List Int):=(spec_l1New.f k l0).bind fun bt1464=>((spec_l11DrawBent.f k bt1464.1 bt1464.2.1 bt1464.2.2).bind fun bt1468=>(some (bt1468.1,bt1468.2.1,bt1468.2.2.1)))
theorem spec_DrawLetterBytes.mono:∀ a0 k,LeO (spec_DrawLetterBytes.f k a0) (spec_DrawLetterBytes.f (k+1) a0):=by
 intro a0 k
 unfold spec_DrawLetterBytes.f
 have m0:=@spec_l11DrawBent.mono
 have m1:=@spec_l1New.mono
 exact mt
theorem spec_DrawLetterBytes.calls (k:Nat) (A0:Option Addr) (c0:Nat) (l0:List Int) (r1:Int) (r2:List Int) (r3:List Int) (w:World) (hr0:Kd.C (Kd.int .u8) w A0 l0.length l0) (hc0:l0.length≤c0) (h:spec_DrawLetterBytes.f k l0=some (r1,r2,r3)):
  Calls Try.prog 56 #[.slice A0 l0.length c0] w fun e w'=>∃ v1_ v2_:Value,e= .returned (.agg #[.int .i64 r1,v1_,v2_])∧Kd.R (Kd.int .u8) 5 w' w.heap.size (fun k_=>some k_≠(v2_:Value).ownBlock) v1_ r2∧Kd.R (Kd.int .u8) 5 w' w.heap.size (fun k_=>some k_≠(v1_:Value).ownBlock) v2_ r3∧Below w.heap.size w w':=by
 have hu55:=Try.underlying55
 have HR0:=Aside0.mk hr0
 have HC0:=Aside0.mk hc0
 clear hr0 hc0
 have HB:=Aside0.mk (zbk w.heap.size w)
 have H:((spec_l1New.f k l0).bind fun bt1464=>((spec_l11DrawBent.f k bt1464.1 bt1464.2.1 bt1464.2.2).bind fun bt1468=>(some (bt1468.1,bt1468.2.1,bt1468.2.2.1))))=some (r1,r2,r3):=h
 clear h
 obtain⟨⟨t1464,t1465,t1466⟩,A2,H⟩:=bnd H
 try dsimp only at H
 obtain⟨⟨t1468,t1469,t1472,t1475,t1476⟩,A3,H⟩:=bnd H
 try dsimp only at H
 simp only[zcb,zcu] at H
 obtain⟨rfl,rfl,rfl⟩:=H
 go_enter Try.func56,Try.ntmps56
 go_wp2_with (first | (refine jgd 2 ?_;refine bx 2 (#[.int .i64 0, .slice none 0 0, .slice none 0 0]) 55 ?_;intro gb1463 hg w4 hbox hb;have xb_:=below_ofs bq hb;have n_:=jA4 (zal xb_ hb) (hbox) (ge0 hg xb_:w.heap.size≤gb1463) (ge0 hg xb_:w.heap.size≤gb1463);clear HB;obtain⟨HB,BK1463,GW1463,GE1463⟩:=n_;clear xb_ hb hbox hg) | (refine jgc 78 ?_;refine jgs 4 Try.func78 #[.slice A0 l0.length c0] ?_;(with_reducible refine(spec_l1New.calls k _ _ l0 t1464 t1465 t1466 w _ ?side1 ?side2 ?side3 A2.out).mono ?_);(case side1=>repeat(first | (with_reducible first | exact HB.out | apply zbe | apply zap | apply zay | refine zbf ?_ GE1463.out) | exact HB.out));(case side2=>exact HR0.out);(case side3=>exact HC0.out);rintro e w5 ⟨g1467,rfl,hi,hb,hb2⟩;refine⟨_,rfl,?_⟩;have n_:=jA5 (zgm (pB BK1463.out) hb2) (hb) (hi) (IsS85.ne_blk hi (zgm (pB BK1463.out) hb2) (by decide)) (Ne.symm (IsS85.ne_blk hi (zgm (pB BK1463.out) hb2) (by decide)));clear BK1463 HB;obtain⟨BK1463,HB,HI1467,NB1467_1463,NB1463_1467⟩:=n_;(try clear hb);(try clear hb2);(try clear hk);(try clear hi)) | (refine jgc 98 ?_;refine jgs 5 Try.func98 #[.pointer (some ⟨g1467,0,none⟩)] ?_;(with_reducible refine(spec_l11DrawBent.calls k g1467 t1464 t1465 t1466 t1468 t1469 t1472 t1475 t1476 w _ ?side1 ?side2 A3.out).mono ?_);(case side1=>repeat(first | (with_reducible first | exact HI1467.out | apply IsS85.alloc | apply IsS85.drewN | apply IsS85.drew | apply IsS85.set_1 | apply IsS85.set_2 | refine IsS85.far ?_ NB1467_1463.out _) | exact HI1467.out));(case side2=>repeat(first | (with_reducible first | exact HB.out | apply zbe | apply zap | apply zay | refine zbf ?_ (IsS85.ge HI1467.out) | refine zbf ?_ GE1463.out) | exact HB.out));rintro e w6 ⟨v1470,v1473,rfl,ho0,ho1,hi,hb,hk⟩;refine⟨_,rfl,?_⟩;have n_:=jA5 (zdx hk (g':=gb1463) (o:= .cells #[.int .i64 0, .slice none 0 0, .slice none 0 0] 55 (0,0)) (pB BK1463.out) NB1463_1467.out (by simp)) (zaq ho0 (zah (bs2 (IsS85.ge HI1467.out) GE1463.out))) (zaq ho1 (zah (bs2 (IsS85.ge HI1467.out) GE1463.out))) (hb) (hi);clear BK1463 HB HI1467;obtain⟨BK1463,HO1471,HO1474,HB,HI1467⟩:=n_;clear hb hk hi ho0;(try clear ho1);have hnb7:=NB1463_1467.out;have hnc7:=NB1467_1463.out;have hcz8_0:w6.cell? ⟨gb1463,0,none⟩=some (.int .i64 0):=(zbd BK1463.out 0).trans rfl;have hcz8_1:w6.cell? ⟨gb1463,1,none⟩=some (.slice none 0 0):=(zbd BK1463.out 1).trans rfl;have hcz8_2:w6.cell? ⟨gb1463,2,none⟩=some (.slice none 0 0):=(zbd BK1463.out 2).trans rfl;have hfz8_0:=zaw BK1463.out 0;have hfz8_1:=zaw BK1463.out 1;have hfz8_2:=zaw BK1463.out 2;obtain⟨Ao9,co9,eo9⟩:=zbb HO1471.out;subst eo9;obtain⟨Ao10,co10,eo10⟩:=zbb HO1474.out;subst eo10))
 refine zfw (results_cell_row rfl _ _ gb1463 55 #[.int .i64 t1468, .slice Ao9 t1469.length co9, .slice Ao10 t1472.length co10] (0,0) _ rfl (by(with_reducible repeat(first | refine zbl ?_ _ | refine zbr ?_ | refine zbm ?_ _));refine zed (cs:= #[.int .i64 t1468, .slice Ao9 t1469.length co9, .slice none 0 0]) ?_ 2 _ rfl;(with_reducible repeat(first | refine zbl ?_ _ | refine zbr ?_ | refine zbm ?_ _));refine zed (cs:= #[.int .i64 t1468, .slice none 0 0, .slice none 0 0]) ?_ 1 _ rfl;(with_reducible repeat(first | refine zbl ?_ _ | refine zbr ?_ | refine zbm ?_ _));refine zed (cs:= #[.int .i64 0, .slice none 0 0, .slice none 0 0]) ?_ 0 _ rfl;(with_reducible repeat(first | refine zbl ?_ _ | refine zbr ?_ | refine zbm ?_ _));exact BK1463.out) Try.underlying55 rfl (by kernel_rfl)) rfl ?_
 exact⟨_,_,jex,by(with_reducible repeat(first | apply zat | apply zau | apply zar));exact zao (rf3 HO1471.out BK1463.out) (fun _ hk=>hk.1),by(with_reducible repeat(first | apply zat | apply zau | apply zar));exact zao (rf3 HO1474.out BK1463.out) (fun _ hk=>hk.1),(bs2 (IsS85.ge HI1467.out) GE1463.out)⟩
def impl_LetterOk.f (a0_0:Int) (l0_1:List Int) (l0_2:List Int):Option (Bool):=(impl_in.f a0_0 0 65535).bind fun t1478=>(if t1478=true then(if(l0_1.length:Int)=32 then((impl_in.f (l0_2.length:Int) 16 1516).bind fun t1479=>(some t1479)) else(some false)) else(some false))
theorem impl_LetterOk.wk {P:Prop} (h:P:=by
 go_enter Try.func65,Try.ntmps65
 go_wp2_with (first | (refine jgd 1 ?_;(try(refine zdt (by rfl) ?_;dsimp only));refine bx 1 (#[.int .i64 a0_0, .slice A0_1 l0_1.length c0_1, .slice A0_2 l0_2.length c0_2]) 55 ?_;intro gb1477 hg w_ hbox hb;have xb_:=below_ofs bq hb;have n_:=jA4 (zal xb_ hb) (hbox) (ge0 hg xb_:w.heap.size≤gb1477) (ge0 hg xb_:w.heap.size≤gb1477);clear HB;obtain⟨HB,BK1477,GW1477,GE1477⟩:=n_;clear xb_ hb hbox hg;have hcz7_0:w_.cell? ⟨gb1477,0,none⟩=some (.int .i64 a0_0):=(zbd BK1477.out 0).trans rfl;have hcz7_1:w_.cell? ⟨gb1477,1,none⟩=some (.slice A0_1 l0_1.length c0_1):=(zbd BK1477.out 1).trans rfl;have hcz7_2:w_.cell? ⟨gb1477,2,none⟩=some (.slice A0_2 l0_2.length c0_2):=(zbd BK1477.out 2).trans rfl;have hfz7_0:=zaw BK1477.out 0;have hfz7_1:=zaw BK1477.out 1;have hfz7_2:=zaw BK1477.out 2) | (refine jgc 94 ?_;refine jgs 5 Try.func94 #[.int .i64 a0_0, .int .i64 0, .int .i64 65535] ?_;(with_reducible refine(impl_in.calls a0_0 0 65535 _ _ A2.out).mono ?_);rintro e w' ⟨rfl,⟨nd,rfl⟩⟩;refine⟨_,rfl,?_⟩) | (go_at_call 94;(with_reducible refine(impl_in.calls (l0_2.length:Int) 16 1516 t1479 _ A5.out).mono ?_);rintro e w' ⟨rfl,⟨nd,rfl⟩⟩) | (refine jgd 1 ?_;(try(refine zdt (by rfl) ?_;dsimp only));refine bx 1 (#[.int .i64 a0_0, .slice A0_1 l0_1.length c0_1, .slice A0_2 l0_2.length c0_2]) 55 ?_;intro gb1477 hg w_ hbox hb;have xb_:=below_ofs bq hb;have n_:=jA4 (zal xb_ hb) (hbox) (ge0 hg xb_:w.heap.size≤gb1477) (ge0 hg xb_:w.heap.size≤gb1477);clear HB;obtain⟨HB,BK1477,GW1477,GE1477⟩:=n_;clear xb_ hb hbox hg;have hcz11_0:w_.cell? ⟨gb1477,0,none⟩=some (.int .i64 a0_0):=(zbd BK1477.out 0).trans rfl;have hcz11_1:w_.cell? ⟨gb1477,1,none⟩=some (.slice A0_1 l0_1.length c0_1):=(zbd BK1477.out 1).trans rfl;have hcz11_2:w_.cell? ⟨gb1477,2,none⟩=some (.slice A0_2 l0_2.length c0_2):=(zbd BK1477.out 2).trans rfl;have hfz11_0:=zaw BK1477.out 0;have hfz11_1:=zaw BK1477.out 1;have hfz11_2:=zaw BK1477.out 2) | (refine jgd 1 ?_;(try(refine zdt (by rfl) ?_;dsimp only));refine bx 1 (#[.int .i64 a0_0, .slice A0_1 l0_1.length c0_1, .slice A0_2 l0_2.length c0_2]) 55 ?_;intro gb1477 hg w_ hbox hb;have xb_:=below_ofs bq hb;have n_:=jA4 (zal xb_ hb) (hbox) (ge0 hg xb_:w.heap.size≤gb1477) (ge0 hg xb_:w.heap.size≤gb1477);clear HB;obtain⟨HB,BK1477,GW1477,GE1477⟩:=n_;clear xb_ hb hbox hg;have hcz9_0:w_.cell? ⟨gb1477,0,none⟩=some (.int .i64 a0_0):=(zbd BK1477.out 0).trans rfl;have hcz9_1:w_.cell? ⟨gb1477,1,none⟩=some (.slice A0_1 l0_1.length c0_1):=(zbd BK1477.out 1).trans rfl;have hcz9_2:w_.cell? ⟨gb1477,2,none⟩=some (.slice A0_2 l0_2.length c0_2):=(zbd BK1477.out 2).trans rfl;have hfz9_0:=zaw BK1477.out 0;have hfz9_1:=zaw BK1477.out 1;have hfz9_2:=zaw BK1477.out 2) | (refine jgc 94 ?_;refine jgs 5 Try.func94 #[.int .i64 a0_0, .int .i64 0, .int .i64 65535] ?_;(with_reducible refine(impl_in.calls a0_0 0 65535 true _ A2.out).mono ?_);rintro e w' ⟨rfl,⟨nd,rfl⟩⟩;refine⟨_,rfl,?_⟩))
 go_ret
 exact⟨jex,(bs1 GE1477.out)⟩):P:=h
theorem impl_LetterOk.calls (a0_0:Int) (A0_1:Option Addr) (c0_1:Nat) (l0_1:List Int) (A0_2:Option Addr) (c0_2:Nat) (l0_2:List Int) (r:Bool) (w:World) (hr0_1:Kd.C (Kd.int .u8) w A0_1 l0_1.length l0_1) (hc0_1:l0_1.length≤c0_1) (hr0_2:Kd.C (Kd.int .u8) w A0_2 l0_2.length l0_2) (hc0_2:l0_2.length≤c0_2) (h:impl_LetterOk.f a0_0 l0_1 l0_2=some r):
  Calls Try.prog 65 #[.agg #[.int .i64 a0_0, .slice A0_1 l0_1.length c0_1, .slice A0_2 l0_2.length c0_2]] w fun e w'=>e= .returned (.bool r)∧Below w.heap.size w w':=by
 have hu55:=Try.underlying55
 have HR0_1:=Aside0.mk hr0_1
 have HC0_1:=Aside0.mk hc0_1
 clear hr0_1 hc0_1
 have HR0_2:=Aside0.mk hr0_2
 have HC0_2:=Aside0.mk hc0_2
 clear hr0_2 hc0_2
 have HB:=Aside0.mk (zbk w.heap.size w)
 have H:((impl_in.f a0_0 0 65535).bind fun t1478=>(if t1478=true then(if(l0_1.length:Int)=32 then((impl_in.f (l0_2.length:Int) 16 1516).bind fun t1479=>(some t1479)) else(some false)) else(some false)))=some r:=h
 clear h
 obtain⟨t1478,A2,H⟩:=bnd H
 by_cases c3:t1478=true
 ·subst c3
  rw[if_pos rfl] at H
  by_cases c4:(l0_1.length:Int)=32
  ·rw[if_pos c4] at H
   have c4b0:=beqT c4
   have c4b1:=zdm.mpr c4
   clear c4
   obtain⟨t1479,A5,H⟩:=bnd H
   obtain rfl:=Option.some.inj H
   exact impl_LetterOk.wk
  rw[if_neg c4] at H
  have c4b0:=zcl.mpr c4
  have c4b1:=zez.mpr c4
  obtain rfl:=Option.some.inj H
  exact impl_LetterOk.wk
 replace c3:=zds.mpr c3
 subst c3
 rw[if_neg (show ¬(false=true) by decide)] at H
 obtain rfl:=Option.some.inj H
 exact impl_LetterOk.wk
def impl_headOf.f (k:Nat) (a0:Int) (l1:List Int):Option (List Int):=(impl_Great.f k a0 2).bind fun t1483=>((impl_joined.f (([(([1]:List Int)),t1483,l1]:List (List Int)))).bind fun t1489=>(some t1489))
theorem impl_headOf.mono:∀ a0 a1 k,LeO (impl_headOf.f k a0 a1) (impl_headOf.f (k+1) a0 a1):=by
 intro a0 a1 k
 unfold impl_headOf.f
 have m0:=@impl_Great.mono
 exact mt
theorem impl_headOf.calls (k:Nat) (a0:Int) (P1_:Nat→Prop) (A1:Option Addr) (c1:Nat) (l1:List Int) (r:List Int) (w:World) (hs1:Kd.V (Kd.int .u8) 5 w w.heap.size (fun k_=>P1_ k_) (.slice A1 l1.length c1) l1) (h:impl_headOf.f k a0 l1=some r):
  Calls Try.prog 99 #[.int .i64 a0, .slice A1 l1.length c1] w fun e w'=>∃ v0_:Value,e= .returned (v0_)∧Kd.R (Kd.int .u8) 5 w' w.heap.size (fun k_=>(w.heap.size≤k_)) v0_ r∧Below w.heap.size w w':=by
 have HO1:=Aside0.mk (show Kd.V (Kd.int .u8) 5 w w.heap.size (fun k_=>(P1_ k_∨w.heap.size≤k_)) (.slice A1 l1.length c1) l1 from zbh hs1 (fun k_ hk=> .inl hk))
 have HB:=Aside0.mk (zbk w.heap.size w)
 have H:((impl_Great.f k a0 2).bind fun t1483=>((impl_joined.f (([(([1]:List Int)),t1483,l1]:List (List Int)))).bind fun t1489=>(some t1489)))=some r:=h
 clear h
 obtain⟨y1480,hy1480⟩:∃ y_:List Int,y_=(([1]:List Int)):=⟨_,rfl⟩
 replace H:((impl_Great.f k a0 2).bind fun t1483=>((impl_joined.f (([y1480,t1483,l1]:List (List Int)))).bind fun t1489=>(some t1489)))=some r:=jrw hy1480 H
 have Ny1480:=Aside0.mk hy1480
 clear hy1480
 obtain⟨t1483,A3,H⟩:=bnd H
 obtain⟨y1486,hy1486⟩:∃ y_:List (List Int),y_=(([y1480,t1483,l1]:List (List Int))):=⟨_,rfl⟩
 replace H:((impl_joined.f y1486).bind fun t1489=>(some t1489))=some r:=jrw hy1486 H
 have Ny1486:=Aside0.mk hy1486
 clear hy1486
 obtain⟨t1489,A4,H⟩:=bnd H
 obtain rfl:=Option.some.inj H
 go_enter Try.func99,Try.ntmps99
 go_wp2_with (first | (refine jgd 5 ?_;refine Kd.R_lit (Kd.int .u8) _ 5 ?hg (N:=5) ?hd (xs:=([1]:List Int)) (inner:=[.int .u8 1]) (ok:=fun _=>True) (okp:=fun _=>True) ?hr ?hp (fun _ hk=>hk) trivial (zbk _ _) (zav _) (by simp) ?_;(case hd=>rfl);(case hg=>rfl);(case hr=>first | (go_simp;done) | (go_simp;rfl));(case hp=>exact(zan (show Kd.M (Kd.int .u8) _ _ _ 1 [.int .u8 1] from rfl) (zeb _ _)));intro v1481 w5 ho6 hb hg_ hnew_;have xb_:=below_ofs bq hb;clear hg_ hnew_;(first | rw[← Ny1480.out] at ho6 | (simp only[Int.reduceToNat] at ho6;rw[← Ny1480.out] at ho6));have n_:=jA3 (zbw (pV HO1.out) (zba ho6) hb) (zaq (zfx (M:=fun k_=>(w.heap.size≤k_)) ho6 (zah xb_) (fun k_ h_=>h_)) (zah xb_)) (zal xb_ hb);clear HO1 HB;obtain⟨HO1,HO1482,HB⟩:=n_;clear xb_ hb ho6) | (refine jgc 80 ?_;refine jgs 7 Try.func80 #[.int .i64 a0, .int .i64 2] ?_;(with_reducible refine(impl_Great.calls k a0 2 t1483 _ A3.out).mono ?_);rintro e w7 ⟨v1484,rfl,ho0,hb⟩;refine⟨_,rfl,?_⟩;have xb_:=below_ofs bq hb;have n0_:=Aside0.mk (zbw (pV HO1.out) (zba ho0) hb);have qHO1482:=Kd.R_ofs (pR HO1482.out) hb;have n1_:=Aside0.mk (zbp qHO1482 (zba ho0) hb);have n2_:=Aside0.mk (zaq (zby (zfx (M:=fun k_=>(w.heap.size≤k_)) ho0 (zah xb_) (fun k_ h_=>h_)) (zca qHO1482)) (zah xb_));have n3_:=Aside0.mk (zal xb_ hb);clear qHO1482 HO1;clear HO1482 HB;have HO1:=n0_;have HO1482:=n1_;have HO1485:=n2_;have HB:=n3_;clear n0_ n1_ n2_ n3_;clear xb_ hb ho0;obtain⟨Ao8,co8,eo8⟩:=zbb HO1482.out;subst eo8;obtain⟨Ao9,co9,eo9⟩:=zbb HO1485.out;subst eo9) | (refine jgd 9 ?_;refine Kd.N_lit (Kd.slice 5 (Kd.int .u8)) _ 23 ?hg (N':=9) ?hd (xs:=([y1480,t1483,l1]:List (List Int))) (inner:=[.slice Ao8 y1480.length co8, .slice Ao9 t1483.length co9, .slice A1 l1.length c1]) (ok:=(fun k_=>(P1_ k_∨w.heap.size≤k_))) (okp:=(fun k_=>(P1_ k_∨w.heap.size≤k_))) ?hr ?hp (fun _ hk=>hk) ((show ∀ k_,w7.heap.size≤k_→(fun k_=>(P1_ k_∨w.heap.size≤k_)) k_ from fun k_ hk=>(.inr (zdo (zah bq) hk))) _ (zav _)) (zbk _ _) (zav _) (by simp) ?_;(case hd=>rfl);(case hg=>rfl);(case hr=>first | (go_simp;done) | (go_simp;rfl));(case hp=>exact(zan (show Kd.FK (Kd.slice 5 (Kd.int .u8)) _ _ y1480 [.slice Ao8 y1480.length co8] from(zcy (zam (zao (ok':=(fun k_=>(P1_ k_∨w.heap.size≤k_))) (HO1482.out) (fun k_ hk=>(.inr (hk.1.1))))).2.1 (Kd.R_F (zao (ok':=(fun k_=>(P1_ k_∨w.heap.size≤k_))) (HO1482.out) (fun k_ hk=>(.inr (hk.1.1))))))) (zan (show Kd.FK (Kd.slice 5 (Kd.int .u8)) _ _ t1483 [.slice Ao9 t1483.length co9] from(zcy (zam (zao (ok':=(fun k_=>(P1_ k_∨w.heap.size≤k_))) (HO1485.out) (fun k_ hk=>(.inr (hk.1.1))))).2.1 (Kd.R_F (zao (ok':=(fun k_=>(P1_ k_∨w.heap.size≤k_))) (HO1485.out) (fun k_ hk=>(.inr (hk.1.1))))))) (zan (show Kd.FK (Kd.slice 5 (Kd.int .u8)) _ _ l1 [.slice A1 l1.length c1] from(zcy (zbx (zbh (ok':=(fun k_=>(P1_ k_∨w.heap.size≤k_))) (HO1.out) (fun k_ hk=>hk.1.1))).2.1 (Kd.V_F (zbh (ok':=(fun k_=>(P1_ k_∨w.heap.size≤k_))) (HO1.out) (fun k_ hk=>hk.1.1))))) (zeb _ _)))));intro v1487 w10 ho11 hb hg_ hnew_;have xb_:=below_ofs bq hb;clear hg_ hnew_;(first | rw[← Ny1486.out] at ho11 | (simp only[Int.reduceToNat] at ho11;rw[← Ny1486.out] at ho11));have n_:=jA3 (zbw (pV HO1.out) (zea ho11) hb) (zfe ho11 (zah xb_)) (zal xb_ hb);clear HO1 HB HO1482 HO1485;obtain⟨HO1,HO1488,HB⟩:=n_;clear xb_ hb ho11;obtain⟨Ao12,co12,eo12⟩:=zge HO1488.out;subst eo12) | (refine jgc 79 ?_;refine jgs 10 Try.func79 #[.slice Ao12 y1486.length co12] ?_;(with_reducible refine(impl_joined.calls _ _ y1486 t1489 _ ?side1 ?side2 A4.out).mono ?_);(case side1=>repeat(first | exact(zee HO1488.out).2.2 | (with_reducible first | apply zbs | apply zbt | apply zcg)));(case side2=>exact(zee HO1488.out).2.1);rintro e w13 ⟨v1490,rfl,ho0,hb⟩;refine⟨_,rfl,?_⟩;have xb_:=below_ofs bq hb;have n_:=jA4 (zbw (pV HO1.out) (zba ho0) hb) (zew (pN HO1488.out) (zba ho0) hb) (zaq (zfx (M:=fun k_=>(w.heap.size≤k_)) ho0 (zah xb_) (fun k_ h_=>h_)) (zah xb_)) (zal xb_ hb);clear HO1 HO1488 HB;obtain⟨HO1,HO1488,HO1491,HB⟩:=n_;clear xb_ hb ho0))
 go_ret
 exact⟨_,jex,by(with_reducible repeat(first | apply zat | apply zau | apply zar));exact zao HO1491.out (fun _ hk=>hk.1),bq⟩
def impl_LetterBytesV.f (k:Nat) (a0_0:Int) (l0_1:List Int) (l0_2:List Int):Option (List Int):=(impl_LetterOk.f a0_0 l0_1 l0_2).bind fun t1493=>(if t1493=true then((impl_headOf.f k a0_0 l0_1).bind fun t1494=>((impl_joined.f (([t1494,l0_2]:List (List Int)))).bind fun t1500=>(some t1500))) else(some ([]:List Int)))
theorem impl_LetterBytesV.mono:∀ a0 a1 a2 k,LeO (impl_LetterBytesV.f k a0 a1 a2) (impl_LetterBytesV.f (k+1) a0 a1 a2):=by
 intro a0 a1 a2 k
 unfold impl_LetterBytesV.f
 have m0:=@impl_headOf.mono
 exact mt
def impl_LetterBytesV.T3:Bool×List (List Nat×List Nat):=(true,[([],[]),([0],[0]),([],[]),([2],[2]),([1,3],[1,3]),([],[]),([5],[5]),([4,6],[4,6]),([7,4],[7]),([8,8,0,1,2,3,4,5,6,7,8],[8])])
def impl_LetterBytesV.B3:List Nat:=[0,1,0,4,15,0,32,127,255,511]
theorem impl_LetterBytesV.tab3:rtab .any (opsOf Try.f57 3)=impl_LetterBytesV.T3:=by kernel_rfl
theorem impl_LetterBytesV.bits3:waitsOk impl_LetterBytesV.T3.2 impl_LetterBytesV.B3=true:=by kernel_rfl
theorem impl_LetterBytesV.calls (k:Nat) (a0_0:Int) (A0_1:Option Addr) (c0_1:Nat) (l0_1:List Int) (P0_2_:Nat→Prop) (A0_2:Option Addr) (c0_2:Nat) (l0_2:List Int) (r:List Int) (w:World) (hr0_1:Kd.C (Kd.int .u8) w A0_1 l0_1.length l0_1) (hc0_1:l0_1.length≤c0_1) (hs0_2:Kd.V (Kd.int .u8) 5 w w.heap.size (fun k_=>P0_2_ k_) (.slice A0_2 l0_2.length c0_2) l0_2) (h:impl_LetterBytesV.f k a0_0 l0_1 l0_2=some r):
  Calls Try.prog 57 #[.agg #[.int .i64 a0_0, .slice A0_1 l0_1.length c0_1, .slice A0_2 l0_2.length c0_2]] w fun e w'=>∃ v0_:Value,e= .returned (v0_)∧Kd.R (Kd.int .u8) 5 w' w.heap.size (fun k_=>(w.heap.size≤k_)) v0_ r∧Below w.heap.size w w':=by
 have hu55:=Try.underlying55
 have HR0_1:=Aside0.mk hr0_1
 have HC0_1:=Aside0.mk hc0_1
 clear hr0_1 hc0_1
 have HO0_2:=Aside0.mk (show Kd.V (Kd.int .u8) 5 w w.heap.size (fun k_=>(P0_2_ k_∨w.heap.size≤k_)) (.slice A0_2 l0_2.length c0_2) l0_2 from zbh hs0_2 (fun k_ hk=> .inl hk))
 have HB:=Aside0.mk (zbk w.heap.size w)
 have H:((impl_LetterOk.f a0_0 l0_1 l0_2).bind fun t1493=>(if t1493=true then((impl_headOf.f k a0_0 l0_1).bind fun t1494=>((impl_joined.f (([t1494,l0_2]:List (List Int)))).bind fun t1500=>(some t1500))) else(some ([]:List Int))))=some r:=h
 clear h
 obtain⟨t1493,A2,H⟩:=bnd H
 by_cases c3:t1493=true
 ·subst c3
  rw[if_pos rfl] at H
  obtain⟨t1494,A4,H⟩:=bnd H
  obtain⟨y1497,hy1497⟩:∃ y_:List (List Int),y_=(([t1494,l0_2]:List (List Int))):=⟨_,rfl⟩
  replace H:((impl_joined.f y1497).bind fun t1500=>(some t1500))=some r:=jrw hy1497 H
  have Ny1497:=Aside0.mk hy1497
  clear hy1497
  obtain⟨t1500,A5,H⟩:=bnd H
  obtain rfl:=Option.some.inj H
  go_enter Try.func57,Try.ntmps57
  try go_wp2_with (first | (refine jgd 1 ?_;refine bx 1 (#[.int .i64 a0_0, .slice A0_1 l0_1.length c0_1, .slice A0_2 l0_2.length c0_2]) 55 ?_;intro gb1492 hg w6 hbox hb;have n_:=jA5 (zcw (zep (pV HO0_2.out) gb1492 (zdq hg.symm)) hb) (zal bq hb) (hbox) (ge0 hg bq:w.heap.size≤gb1492) (ge0 hg bq:w.heap.size≤gb1492);clear HO0_2 HB;obtain⟨HO0_2,HB,BK1492,GW1492,GE1492⟩:=n_;clear hb hbox hg;have hcz7_0:w6.cell? ⟨gb1492,0,none⟩=some (.int .i64 a0_0):=(zbd BK1492.out 0).trans rfl;have hcz7_1:w6.cell? ⟨gb1492,1,none⟩=some (.slice A0_1 l0_1.length c0_1):=(zbd BK1492.out 1).trans rfl;have hcz7_2:w6.cell? ⟨gb1492,2,none⟩=some (.slice A0_2 l0_2.length c0_2):=(zbd BK1492.out 2).trans rfl;have hfz7_0:=zaw BK1492.out 0;have hfz7_1:=zaw BK1492.out 1;have hfz7_2:=zaw BK1492.out 2) | (refine jgc 65 ?_;refine jgs 4 Try.func65 #[.agg #[.int .i64 a0_0, .slice A0_1 l0_1.length c0_1, .slice A0_2 l0_2.length c0_2]] ?_;(with_reducible refine(impl_LetterOk.calls a0_0 _ _ l0_1 _ _ l0_2 true _ ?side1 ?side2 ?side3 ?side4 A2.out).mono ?_);(case side1=>exact jcs HR0_1.out);(case side2=>exact HC0_1.out);(case side3=>repeat(first | exact(zbx HO0_2.out).2.2 | (with_reducible refine zbs ?_ _) | (with_reducible refine zbt ?_ _) | (with_reducible refine zcg ?_)));(case side4=>exact(zbx HO0_2.out).2.1);rintro e w8 ⟨rfl,hb⟩;refine⟨_,rfl,?_⟩;have n_:=jA3 (zcw (pV HO0_2.out) hb) (jbb BK1492.out hb) (zal (bs1 GE1492.out) hb);clear HO0_2 BK1492 HB;obtain⟨HO0_2,BK1492,HB⟩:=n_;(try clear hb);(try clear hb2);(try clear hk);(try clear hi)))
  have n_:=jA3 (zbu HO0_2.out) (zbr BK1492.out) (zay HB.out)
  clear HO0_2 BK1492 HB
  obtain⟨HO0_2,BK1492,HB⟩:=n_
  refine start_ (n:=10) (S:=fun w'=>w'.cell? ⟨gb1492,0,none⟩=some (.int .i64 a0_0)∧w'.cell? ⟨gb1492,1,none⟩=some (.slice A0_1 l0_1.length c0_1)∧w'.cell? ⟨gb1492,2,none⟩=some (.slice A0_2 l0_2.length c0_2)) (ds:=[]) #[false,false,false,false,false,false,false,false,false,false] (by kernel_rfl) rfl rfl ⟨(zbd BK1492.out 0).trans rfl,(zbd BK1492.out 1).trans rfl,(zbd BK1492.out 2).trans rfl⟩ (fun hHeld=>?_);refine zgh impl_LetterBytesV.tab3 impl_LetterBytesV.bits3 (fun HT_ HW_=>?_)
  generalize w8.drew=w9 at HO0_2 BK1492 HB hHeld ⊢
  refine pu 0 6 HT_.out ?_
  refine pu 2 8 HT_.out ?_
  refine pu 5 11 HT_.out ?_
  refine tk 1 7 HT_.out HW_.out hHeld ?_
  refine tk 3 9 HT_.out HW_.out hHeld ?_
  refine tk 6 12 HT_.out HW_.out hHeld ?_
  refine one_ (i:=4) (N:=some 10) #[true,true,true,true,true,true,true,false,false,false] rfl rfl (one_of HT_.out (by kernel_rfl)) (by decide) (fun K hK=>?_)
  refine goes_ Try.func99 (by kernel_rfl) rfl #[.int .i64 a0_0, .slice A0_1 l0_1.length c0_1] (by rfl) rfl rfl jhl ?_
  with_reducible refine(impl_headOf.calls k a0_0 (fun k_=>k_<w.heap.size) _ _ l0_1 t1494 _ ?side1 A4.out).mono ?_
  (case side1=>exact zga HC0_1.out (Kd.F_below (Kd.C_F (zgg .u8) HR0_1.out) (bs1 GE1492.out)))
  rintro e w10 ⟨v1495,rfl,ho0,hb⟩
  refine⟨_,rfl,?_⟩
  have n_:=jA4 (zbw (pV HO0_2.out) (zba ho0) hb) (zaq (zfx (M:=fun k_=>(w.heap.size≤k_)) (zao (ok':=fun k_=>True) ho0 (fun _ hk_=>trivial)) (zah (bs1 GE1492.out)) (fun k_ h_=>h_)) (zah (bs1 GE1492.out))) (jbb BK1492.out hb) (zal (bs1 GE1492.out) hb)
  clear HO0_2 BK1492 HB
  obtain⟨HO0_2,HO1496,BK1492,HB⟩:=n_
  (try clear hb)
  (try clear hb2)
  (try clear hk)
  (try clear hi)
  (try clear ho0)
  obtain⟨Ao11,co11,eo11⟩:=zbb HO1496.out
  (first | subst eo11 | (injection eo11 with f1_ f2_ f3_;have f4_:=f1_.symm;have f5_:=f3_.symm;clear f1_ f2_ f3_;subst f4_;subst f5_))
  refine hK.out _ _ ⟨(zbd BK1492.out 0).trans rfl,(zbd BK1492.out 1).trans rfl,(zbd BK1492.out 2).trans rfl⟩ (fun hHeld=>?_)
  clear hK K
  refine norm_ (a':=?_) ?_ ?_
  rotate_left
  ·show Act.put _ (some 10) _=_
   simp only[Act.put,zaa,zae,zaf,i64_w,i32_w]
   rfl
  refine one_ (i:=7) (N:=some 13) #[true,true,true,true,true,true,true,true,false,false] rfl rfl (one_of HT_.out (by kernel_rfl)) (by decide) (fun K hK=>?_)
  refine zgd (Kd.slice 5 (Kd.int .u8)) _ 23 ?hg (N':=13) ?hd (xs:=([t1494,l0_2]:List (List Int))) (inner:=[.slice Ao11 t1494.length co11, .slice A0_2 l0_2.length c0_2]) (ok:=(fun k_=>(P0_2_ k_∨w.heap.size≤k_)∧k_≠gb1492)) (okp:=(fun k_=>(P0_2_ k_∨w.heap.size≤k_)∧k_≠gb1492)) ?hr ?hp (fun _ hk=>hk) ((show ∀ k_,w10.heap.size≤k_→(fun k_=>(P0_2_ k_∨w.heap.size≤k_)∧k_≠gb1492) k_ from fun k_ hk=>⟨(.inr (zdo (zah (bs1 GE1492.out)) hk)),zgk (pB BK1492.out) k_ hk⟩) _ (zav _)) (zbk _ _) (zav _) (by simp) ?_;(case hd=>rfl);(case hg=>rfl);(case hr=>first | (go_simp;done) | (go_simp;rfl));(case hp=>exact(zan (show Kd.FK (Kd.slice 5 (Kd.int .u8)) _ _ t1494 [.slice Ao11 t1494.length co11] from(zcy (zam (zao (ok':=(fun k_=>(P0_2_ k_∨w.heap.size≤k_)∧k_≠gb1492)) (zeq (HO1496.out) BK1492.out (by decide)) (fun k_ hk=>⟨(.inr (hk.1.1)),hk.2⟩))).2.1 (Kd.R_F (zao (ok':=(fun k_=>(P0_2_ k_∨w.heap.size≤k_)∧k_≠gb1492)) (zeq (HO1496.out) BK1492.out (by decide)) (fun k_ hk=>⟨(.inr (hk.1.1)),hk.2⟩))))) (zan (show Kd.FK (Kd.slice 5 (Kd.int .u8)) _ _ l0_2 [.slice A0_2 l0_2.length c0_2] from(zcy (zbx (zbh (ok':=(fun k_=>(P0_2_ k_∨w.heap.size≤k_)∧k_≠gb1492)) (HO0_2.out) (fun k_ hk=>⟨hk.1.1,hk.1.2⟩))).2.1 (Kd.V_F (zbh (ok':=(fun k_=>(P0_2_ k_∨w.heap.size≤k_)∧k_≠gb1492)) (HO0_2.out) (fun k_ hk=>⟨hk.1.1,hk.1.2⟩))))) (zeb _ _))))
  intro v1498 w12 ho13 hb hg_ hnew_
  clear hg_ hnew_
  (first | rw[← Ny1497.out] at ho13 | (simp only[Int.reduceToNat] at ho13;rw[← Ny1497.out] at ho13))
  have n_:=jA4 (zbw (pV HO0_2.out) (zea ho13) hb) (zfe ho13 (zah (bs1 GE1492.out))) (jbb BK1492.out hb) (zal (bs1 GE1492.out) hb)
  clear HO0_2 BK1492 HB HO1496
  obtain⟨HO0_2,HO1499,BK1492,HB⟩:=n_
  clear hb ho13
  obtain⟨Ao14,co14,eo14⟩:=zge HO1499.out
  (first | subst eo14 | (injection eo14 with f1_ f2_ f3_;have f4_:=f1_.symm;have f5_:=f3_.symm;clear f1_ f2_ f3_;subst f4_;subst f5_))
  refine hK.out _ _ ⟨(zbd BK1492.out 0).trans rfl,(zbd BK1492.out 1).trans rfl,(zbd BK1492.out 2).trans rfl⟩ (fun hHeld=>?_)
  clear hK K
  refine norm_ (a':=?_) ?_ ?_
  rotate_left
  ·show Act.put _ (some 13) _=_
   simp only[Act.put,zaa,zae,zaf,i64_w,i32_w]
   rfl
  refine one_ (i:=8) (N:=some 14) #[true,true,true,true,true,true,true,true,true,false] rfl rfl (one_of HT_.out (by kernel_rfl)) (by decide) (fun K hK=>?_)
  refine goes_ Try.func79 (by kernel_rfl) rfl #[.slice Ao14 y1497.length co14] (by rfl) rfl rfl jhl ?_
  with_reducible refine(impl_joined.calls _ _ y1497 t1500 _ ?side1 ?side2 A5.out).mono ?_
  (case side1=>repeat(first | exact(zee HO1499.out).2.2 | (with_reducible refine zbs ?_ _) | (with_reducible refine zbt ?_ _) | (with_reducible refine zcg ?_)))
  (case side2=>exact(zee HO1499.out).2.1)
  rintro e w15 ⟨v1501,rfl,ho0,hb⟩
  refine⟨_,rfl,?_⟩
  have n_:=jA5 (zbw (pV HO0_2.out) (zba ho0) hb) (zew (pN HO1499.out) (zba ho0) hb) (zaq (zfx (M:=fun k_=>(w.heap.size≤k_)) ho0 (zah (bs1 GE1492.out)) (fun k_ h_=>h_)) (zah (bs1 GE1492.out))) (jbb BK1492.out hb) (zal (bs1 GE1492.out) hb)
  clear HO0_2 HO1499 BK1492 HB
  obtain⟨HO0_2,HO1499,HO1502,BK1492,HB⟩:=n_
  (try clear hb)
  (try clear hb2)
  (try clear hk)
  (try clear hi)
  (try clear ho0)
  refine hK.out _ _ ⟨(zbd BK1492.out 0).trans rfl,(zbd BK1492.out 1).trans rfl,(zbd BK1492.out 2).trans rfl⟩ (fun hHeld=>?_)
  clear hK K
  refine norm_ (a':=?_) ?_ ?_
  rotate_left
  ·show Act.put _ (some 14) _=_
   simp only[Act.put,zaa,zae,zaf,i64_w,i32_w]
   rfl
  refine pu 9 2 HT_.out ?_
  refine done_ (done_of HT_.out (by kernel_rfl)) ?_
  try go_wp2
  go_ret
  exact⟨_,jex,by(with_reducible repeat(first | apply zat | apply zau | apply zar));exact zao HO1502.out (fun _ hk=>hk.1),(bs1 GE1492.out)⟩
 replace c3:=zds.mpr c3
 subst c3
 rw[if_neg (show ¬(false=true) by decide)] at H
 obtain rfl:=Option.some.inj H
 go_enter Try.func57,Try.ntmps57
 go_wp2_with (first | (refine jgd 1 ?_;refine bx 1 (#[.int .i64 a0_0, .slice A0_1 l0_1.length c0_1, .slice A0_2 l0_2.length c0_2]) 55 ?_;intro gb1492 hg w16 hbox hb;have xb_:=below_ofs bq hb;have n_:=jA5 (zcw (zep (pV HO0_2.out) gb1492 (zdq hg.symm)) hb) (zal xb_ hb) (hbox) (ge0 hg xb_:w.heap.size≤gb1492) (ge0 hg xb_:w.heap.size≤gb1492);clear HO0_2 HB;obtain⟨HO0_2,HB,BK1492,GW1492,GE1492⟩:=n_;clear xb_ hb hbox hg;have hcz17_0:w16.cell? ⟨gb1492,0,none⟩=some (.int .i64 a0_0):=(zbd BK1492.out 0).trans rfl;have hcz17_1:w16.cell? ⟨gb1492,1,none⟩=some (.slice A0_1 l0_1.length c0_1):=(zbd BK1492.out 1).trans rfl;have hcz17_2:w16.cell? ⟨gb1492,2,none⟩=some (.slice A0_2 l0_2.length c0_2):=(zbd BK1492.out 2).trans rfl;have hfz17_0:=zaw BK1492.out 0;have hfz17_1:=zaw BK1492.out 1;have hfz17_2:=zaw BK1492.out 2) | (refine jgc 65 ?_;refine jgs 4 Try.func65 #[.agg #[.int .i64 a0_0, .slice A0_1 l0_1.length c0_1, .slice A0_2 l0_2.length c0_2]] ?_;(with_reducible refine(impl_LetterOk.calls a0_0 _ _ l0_1 _ _ l0_2 false _ ?side1 ?side2 ?side3 ?side4 A2.out).mono ?_);(case side1=>exact jcs HR0_1.out);(case side2=>exact HC0_1.out);(case side3=>repeat(first | exact(zbx HO0_2.out).2.2 | (with_reducible first | apply zbs | apply zbt | apply zcg)));(case side4=>exact(zbx HO0_2.out).2.1);rintro e w18 ⟨rfl,hb⟩;refine⟨_,rfl,?_⟩;have n_:=jA3 (zcw (pV HO0_2.out) hb) (jbb BK1492.out hb) (zal (bs1 GE1492.out) hb);clear HO0_2 BK1492 HB;obtain⟨HO0_2,BK1492,HB⟩:=n_;(try clear hb);(try clear hb2);(try clear hk);(try clear hi)))
 go_ret
 exact⟨_,jex,by first | exact Kd.R_nil _ _ _ _ _ | exact Kd.N_nil _ _ _ _ _ | exact Kd.V_nil _ _ _ _ _ | exact Kd.Q_nil _ _ _ _ _ | exact Kd.S_nil _ _ _ _ _,(bs1 GE1492.out)⟩
def impl_LetterBytes.f (k:Nat) (a0_0:Int) (l0_1:List Int) (l0_2:List Int):Option (List Int):=impl_LetterBytesV.f k a0_0 l0_1 l0_2
theorem impl_LetterBytes.mono:∀ a0 a1 a2 k,LeO (impl_LetterBytes.f k a0 a1 a2) (impl_LetterBytes.f (k+1) a0 a1 a2):=impl_LetterBytesV.mono
theorem impl_LetterBytes.calls (k:Nat) (a0_0:Int) (A0_1:Option Addr) (c0_1:Nat) (l0_1:List Int) (A0_2:Option Addr) (c0_2:Nat) (l0_2:List Int) (r:List Int) (w:World) (hr0_1:Kd.C (Kd.int .u8) w A0_1 l0_1.length l0_1) (hc0_1:l0_1.length≤c0_1) (hr0_2:Kd.C (Kd.int .u8) w A0_2 l0_2.length l0_2) (hc0_2:l0_2.length≤c0_2) (h:impl_LetterBytes.f k a0_0 l0_1 l0_2=some r):
  Calls Try.prog 57 #[.agg #[.int .i64 a0_0, .slice A0_1 l0_1.length c0_1, .slice A0_2 l0_2.length c0_2]] w fun e w'=>∃ v0_:Value,e= .returned (v0_)∧Kd.R (Kd.int .u8) 5 w' w.heap.size (fun _=>True) v0_ r∧Below w.heap.size w w':=
 (impl_LetterBytesV.calls k a0_0 A0_1 c0_1 l0_1 (fun _=>True) A0_2 c0_2 l0_2 r w hr0_1 hc0_1 (zga hc0_2 (zfd (Kd.C_F (zgg .u8) hr0_2) (fun _ _=>trivial))) h).mono fun e w' ⟨v,h1,h2,h3⟩=>⟨v,h1,zao h2 (fun _ _=>trivial),h3⟩
end Go.Proofs.Ytienlgcjohpphaa.P
