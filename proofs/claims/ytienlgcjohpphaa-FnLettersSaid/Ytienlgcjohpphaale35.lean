import Derived.Test.Ytienlgcjohpphaale28
import Derived.Laws.BitsAllLaws
namespace Go.Proofs.Ytienlgcjohpphaa.P
open Go.RowKit Go.Proofs.YtienlgcjohpphaaW.PrintWords Go.Proofs.YtienlgcjohpphaaW.PrintLast Go.Proofs.YtienlgcjohpphaaW.PrintMore
attribute [local go_sem] zcn zco zdk zdl zce zcf zcp zcq -- for this text's walks alone
set_option linter.unusedVariables false
set_option linter.unusedSimpArgs false
set_option maxHeartbeats 8000000
set_option maxRecDepth 100000

def spec_DrawKeysOf.f (k:Nat) (l0:List Int):Option (List Int×List Int×List Int):=(spec_l1New.f k l0).bind fun bt1559=>((spec_l1DrawNear.f k bt1559.1 bt1559.2.1 bt1559.2.2 32).bind fun bt1563=>((spec_l1DrawNear.f k bt1559.1 bt1563.2.1 bt1563.2.2 32).bind fun bt1568=>((spec_l1DrawNear.f k bt1559.1 bt1568.2.1 bt1568.2.2 32).bind fun bt1573=>(some (bt1563.1,bt1568.1,bt1573.1)))))
theorem spec_DrawKeysOf.mono:∀ a0 k,LeO (spec_DrawKeysOf.f k a0) (spec_DrawKeysOf.f (k+1) a0):=by
 intro a0 k
 unfold spec_DrawKeysOf.f
 have m0:=@spec_l1DrawNear.mono
 have m1:=@spec_l1New.mono
 exact mt
theorem spec_DrawKeysOf.calls (k:Nat) (A0:Option Addr) (c0:Nat) (l0:List Int) (r1:List Int) (r2:List Int) (r3:List Int) (w:World) (hr0:Kd.C (Kd.int .u8) w A0 l0.length l0) (hc0:l0.length≤c0) (h:spec_DrawKeysOf.f k l0=some (r1,r2,r3)):
  Calls Try.prog 61 #[.slice A0 l0.length c0] w fun e w'=>∃ v0_ v1_ v2_:Value,e= .returned (.tuple #[v0_,v1_,v2_])∧Kd.R (Kd.int .u8) 5 w' w.heap.size (fun k_=>some k_≠(v1_:Value).ownBlock∧some k_≠(v2_:Value).ownBlock) v0_ r1∧Kd.R (Kd.int .u8) 5 w' w.heap.size (fun k_=>some k_≠(v0_:Value).ownBlock∧some k_≠(v2_:Value).ownBlock) v1_ r2∧Kd.R (Kd.int .u8) 5 w' w.heap.size (fun k_=>some k_≠(v0_:Value).ownBlock∧some k_≠(v1_:Value).ownBlock) v2_ r3∧Below w.heap.size w w':=by
 have HR0:=Aside0.mk hr0
 have HC0:=Aside0.mk hc0
 clear hr0 hc0
 have HB:=Aside0.mk (zbk w.heap.size w)
 have H:((spec_l1New.f k l0).bind fun bt1559=>((spec_l1DrawNear.f k bt1559.1 bt1559.2.1 bt1559.2.2 32).bind fun bt1563=>((spec_l1DrawNear.f k bt1559.1 bt1563.2.1 bt1563.2.2 32).bind fun bt1568=>((spec_l1DrawNear.f k bt1559.1 bt1568.2.1 bt1568.2.2 32).bind fun bt1573=>(some (bt1563.1,bt1568.1,bt1573.1))))))=some (r1,r2,r3):=h
 clear h
 obtain⟨⟨t1559,t1560,t1561⟩,A2,H⟩:=bnd H
 try dsimp only at H
 obtain⟨⟨t1563,t1566,t1567⟩,A3,H⟩:=bnd H
 try dsimp only at H
 obtain⟨⟨t1568,t1571,t1572⟩,A4,H⟩:=bnd H
 try dsimp only at H
 obtain⟨⟨t1573,t1576,t1577⟩,A5,H⟩:=bnd H
 try dsimp only at H
 simp only[zcb,zcu] at H
 obtain⟨rfl,rfl,rfl⟩:=H
 go_enter Try.func61,Try.ntmps61
 go_wp2_with (first | (refine jgc 78 ?_;refine jgs 9 Try.func78 #[.slice A0 l0.length c0] ?_;(with_reducible refine(spec_l1New.calls k _ _ l0 t1559 t1560 t1561 w _ ?side1 ?side2 ?side3 A2.out).mono ?_);(case side1=>repeat(first | (with_reducible first | exact HB.out | apply zbe | apply zap | apply zay) | exact HB.out));(case side2=>exact HR0.out);(case side3=>exact HC0.out);rintro e w6 ⟨g1562,rfl,hi,hb,hb2⟩;refine⟨_,rfl,?_⟩;have n_:=jA2 (hb) (hi);clear HB;obtain⟨HB,HI1562⟩:=n_;(try clear hb);(try clear hb2);(try clear hk);(try clear hi)) | (refine jgc 84 ?_;refine jgs 11 Try.func84 #[.pointer (some ⟨g1562,0,none⟩), .int .i64 32] ?_;(with_reducible refine(spec_l1DrawNear.calls k g1562 t1559 t1560 t1561 32 t1563 t1566 t1567 w _ ?side1 ?side2 A3.out).mono ?_);(case side1=>repeat(first | (with_reducible first | exact HI1562.out | apply IsS85.alloc | apply IsS85.drewN | apply IsS85.drew | apply IsS85.set_1 | apply IsS85.set_2) | exact HI1562.out));(case side2=>repeat(first | (with_reducible first | exact HB.out | apply zbe | apply zap | apply zay | refine zbf ?_ (IsS85.ge HI1562.out)) | exact HB.out));rintro e w7 ⟨v1564,rfl,ho0,hi,hb,hk⟩;refine⟨_,rfl,?_⟩;have n_:=jA3 (zaq ho0 (zah (bs1 (IsS85.ge HI1562.out)))) (hb) (hi);clear HB HI1562;obtain⟨HO1565,HB,HI1562⟩:=n_;clear hb hk hi ho0) | (refine jgc 84 ?_;refine jgs 13 Try.func84 #[.pointer (some ⟨g1562,0,none⟩), .int .i64 32] ?_;(with_reducible refine(spec_l1DrawNear.calls k g1562 t1559 t1566 t1567 32 t1568 t1571 t1572 w _ ?side1 ?side2 A4.out).mono ?_);(case side1=>repeat(first | (with_reducible first | exact HI1562.out | apply IsS85.alloc | apply IsS85.drewN | apply IsS85.drew | apply IsS85.set_1 | apply IsS85.set_2) | exact HI1562.out));(case side2=>repeat(first | (with_reducible first | exact HB.out | apply zbe | apply zap | apply zay | refine zbf ?_ (IsS85.ge HI1562.out)) | exact HB.out));rintro e w8 ⟨v1569,rfl,ho0,hi,hb,hk⟩;refine⟨_,rfl,?_⟩;have n_:=jA4 (zao (Kd.R_told (Kd.R_oldK (IsS85.apart (show IsS85 w _ g1562 t1559 t1566 t1567 from by repeat(first | (with_reducible first | exact HI1562.out | apply IsS85.alloc | apply IsS85.drewN | apply IsS85.drew | apply IsS85.set_1 | apply IsS85.set_2) | exact HI1562.out)) (pR HO1565.out) (by decide)) hk) (zba ho0)) (fun _ h_=>h_.1)) (zaq (zby ho0 (zca (pR HO1565.out))) (zah (bs1 (IsS85.ge HI1562.out)))) (hb) (hi);clear HO1565 HB HI1562;obtain⟨HO1565,HO1570,HB,HI1562⟩:=n_;clear hb hk hi ho0) | (refine jgc 84 ?_;refine jgs 17 Try.func84 #[.pointer (some ⟨g1562,0,none⟩), .int .i64 32] ?_;(with_reducible refine(spec_l1DrawNear.calls k g1562 t1559 t1571 t1572 32 t1573 t1576 t1577 w _ ?side1 ?side2 A5.out).mono ?_);(case side1=>repeat(first | (with_reducible first | exact HI1562.out | apply IsS85.alloc | apply IsS85.drewN | apply IsS85.drew | apply IsS85.set_1 | apply IsS85.set_2) | exact HI1562.out));(case side2=>repeat(first | (with_reducible first | exact HB.out | apply zbe | apply zap | apply zay | refine zbf ?_ (IsS85.ge HI1562.out)) | exact HB.out));rintro e w9 ⟨v1574,rfl,ho0,hi,hb,hk⟩;refine⟨_,rfl,?_⟩;have n_:=jA5 (zao (Kd.R_told (Kd.R_oldK (IsS85.apart (show IsS85 w _ g1562 t1559 t1571 t1572 from by repeat(first | (with_reducible first | exact HI1562.out | apply IsS85.alloc | apply IsS85.drewN | apply IsS85.drew | apply IsS85.set_1 | apply IsS85.set_2) | exact HI1562.out)) (pR HO1565.out) (by decide)) hk) (zba ho0)) (fun _ h_=>h_.1)) (zao (Kd.R_told (Kd.R_oldK (IsS85.apart (show IsS85 w _ g1562 t1559 t1571 t1572 from by repeat(first | (with_reducible first | exact HI1562.out | apply IsS85.alloc | apply IsS85.drewN | apply IsS85.drew | apply IsS85.set_1 | apply IsS85.set_2) | exact HI1562.out)) (pR HO1570.out) (by decide)) hk) (zba ho0)) (fun _ h_=>h_.1)) (zaq (zby (zby ho0 (zca (pR HO1565.out))) (zca (pR HO1570.out))) (zah (bs1 (IsS85.ge HI1562.out)))) (hb) (hi);clear HO1565 HO1570 HB HI1562;obtain⟨HO1565,HO1570,HO1575,HB,HI1562⟩:=n_;clear hb hk hi ho0))
 go_ret3
 exact⟨_,_,_,jex,by(with_reducible repeat(first | apply zat | apply zau | apply zar));exact zao HO1565.out (fun _ hk=>⟨hk.1.2,hk.2⟩),by(with_reducible repeat(first | apply zat | apply zau | apply zar));exact zao HO1570.out (fun _ hk=>⟨hk.1.2,hk.2⟩),by(with_reducible repeat(first | apply zat | apply zau | apply zar));exact zao HO1575.out (fun _ hk=>⟨hk.1.2,hk.2⟩),(bs1 (IsS85.ge HI1562.out))⟩
def spec_DrawLetterOk.f (k:Nat) (l0:List Int):Option (Int×List Int×List Int):=(spec_l1New.f k l0).bind fun bt1579=>((spec_l11DrawBent.f k bt1579.1 bt1579.2.1 bt1579.2.2).bind fun bt1583=>(some (bt1583.1,bt1583.2.1,bt1583.2.2.1)))
theorem spec_DrawLetterOk.mono:∀ a0 k,LeO (spec_DrawLetterOk.f k a0) (spec_DrawLetterOk.f (k+1) a0):=by
 intro a0 k
 unfold spec_DrawLetterOk.f
 have m0:=@spec_l11DrawBent.mono
 have m1:=@spec_l1New.mono
 exact mt
theorem spec_DrawLetterOk.calls (k:Nat) (A0:Option Addr) (c0:Nat) (l0:List Int) (r1:Int) (r2:List Int) (r3:List Int) (w:World) (hr0:Kd.C (Kd.int .u8) w A0 l0.length l0) (hc0:l0.length≤c0) (h:spec_DrawLetterOk.f k l0=some (r1,r2,r3)):
  Calls Try.prog 62 #[.slice A0 l0.length c0] w fun e w'=>∃ v1_ v2_:Value,e= .returned (.agg #[.int .i64 r1,v1_,v2_])∧Kd.R (Kd.int .u8) 5 w' w.heap.size (fun k_=>some k_≠(v2_:Value).ownBlock) v1_ r2∧Kd.R (Kd.int .u8) 5 w' w.heap.size (fun k_=>some k_≠(v1_:Value).ownBlock) v2_ r3∧Below w.heap.size w w':=by
 have hu55:=Try.underlying55
 have HR0:=Aside0.mk hr0
 have HC0:=Aside0.mk hc0
 clear hr0 hc0
 have HB:=Aside0.mk (zbk w.heap.size w)
 have H:((spec_l1New.f k l0).bind fun bt1579=>((spec_l11DrawBent.f k bt1579.1 bt1579.2.1 bt1579.2.2).bind fun bt1583=>(some (bt1583.1,bt1583.2.1,bt1583.2.2.1))))=some (r1,r2,r3):=h
 clear h
 obtain⟨⟨t1579,t1580,t1581⟩,A2,H⟩:=bnd H
 try dsimp only at H
 obtain⟨⟨t1583,t1584,t1587,t1590,t1591⟩,A3,H⟩:=bnd H
 try dsimp only at H
 simp only[zcb,zcu] at H
 obtain⟨rfl,rfl,rfl⟩:=H
 go_enter Try.func62,Try.ntmps62
 go_wp2_with (first | (refine jgd 2 ?_;refine bx 2 (#[.int .i64 0, .slice none 0 0, .slice none 0 0]) 55 ?_;intro gb1578 hg w4 hbox hb;have xb_:=below_ofs bq hb;have n_:=jA4 (zal xb_ hb) (hbox) (ge0 hg xb_:w.heap.size≤gb1578) (ge0 hg xb_:w.heap.size≤gb1578);clear HB;obtain⟨HB,BK1578,GW1578,GE1578⟩:=n_;clear xb_ hb hbox hg) | (refine jgc 78 ?_;refine jgs 4 Try.func78 #[.slice A0 l0.length c0] ?_;(with_reducible refine(spec_l1New.calls k _ _ l0 t1579 t1580 t1581 w _ ?side1 ?side2 ?side3 A2.out).mono ?_);(case side1=>repeat(first | (with_reducible first | exact HB.out | apply zbe | apply zap | apply zay | refine zbf ?_ GE1578.out) | exact HB.out));(case side2=>exact HR0.out);(case side3=>exact HC0.out);rintro e w5 ⟨g1582,rfl,hi,hb,hb2⟩;refine⟨_,rfl,?_⟩;have n_:=jA5 (zgm (pB BK1578.out) hb2) (hb) (hi) (IsS85.ne_blk hi (zgm (pB BK1578.out) hb2) (by decide)) (Ne.symm (IsS85.ne_blk hi (zgm (pB BK1578.out) hb2) (by decide)));clear BK1578 HB;obtain⟨BK1578,HB,HI1582,NB1582_1578,NB1578_1582⟩:=n_;(try clear hb);(try clear hb2);(try clear hk);(try clear hi)) | (refine jgc 98 ?_;refine jgs 5 Try.func98 #[.pointer (some ⟨g1582,0,none⟩)] ?_;(with_reducible refine(spec_l11DrawBent.calls k g1582 t1579 t1580 t1581 t1583 t1584 t1587 t1590 t1591 w _ ?side1 ?side2 A3.out).mono ?_);(case side1=>repeat(first | (with_reducible first | exact HI1582.out | apply IsS85.alloc | apply IsS85.drewN | apply IsS85.drew | apply IsS85.set_1 | apply IsS85.set_2 | refine IsS85.far ?_ NB1582_1578.out _) | exact HI1582.out));(case side2=>repeat(first | (with_reducible first | exact HB.out | apply zbe | apply zap | apply zay | refine zbf ?_ (IsS85.ge HI1582.out) | refine zbf ?_ GE1578.out) | exact HB.out));rintro e w6 ⟨v1585,v1588,rfl,ho0,ho1,hi,hb,hk⟩;refine⟨_,rfl,?_⟩;have n_:=jA5 (zdx hk (g':=gb1578) (o:= .cells #[.int .i64 0, .slice none 0 0, .slice none 0 0] 55 (0,0)) (pB BK1578.out) NB1578_1582.out (by simp)) (zaq ho0 (zah (bs2 (IsS85.ge HI1582.out) GE1578.out))) (zaq ho1 (zah (bs2 (IsS85.ge HI1582.out) GE1578.out))) (hb) (hi);clear BK1578 HB HI1582;obtain⟨BK1578,HO1586,HO1589,HB,HI1582⟩:=n_;clear hb hk hi ho0;(try clear ho1);have hnb7:=NB1578_1582.out;have hnc7:=NB1582_1578.out;have hcz8_0:w6.cell? ⟨gb1578,0,none⟩=some (.int .i64 0):=(zbd BK1578.out 0).trans rfl;have hcz8_1:w6.cell? ⟨gb1578,1,none⟩=some (.slice none 0 0):=(zbd BK1578.out 1).trans rfl;have hcz8_2:w6.cell? ⟨gb1578,2,none⟩=some (.slice none 0 0):=(zbd BK1578.out 2).trans rfl;have hfz8_0:=zaw BK1578.out 0;have hfz8_1:=zaw BK1578.out 1;have hfz8_2:=zaw BK1578.out 2;obtain⟨Ao9,co9,eo9⟩:=zbb HO1586.out;subst eo9;obtain⟨Ao10,co10,eo10⟩:=zbb HO1589.out;subst eo10))
 refine zfw (results_cell_row rfl _ _ gb1578 55 #[.int .i64 t1583, .slice Ao9 t1584.length co9, .slice Ao10 t1587.length co10] (0,0) _ rfl (by(with_reducible repeat(first | refine zbl ?_ _ | refine zbr ?_ | refine zbm ?_ _));refine zed (cs:= #[.int .i64 t1583, .slice Ao9 t1584.length co9, .slice none 0 0]) ?_ 2 _ rfl;(with_reducible repeat(first | refine zbl ?_ _ | refine zbr ?_ | refine zbm ?_ _));refine zed (cs:= #[.int .i64 t1583, .slice none 0 0, .slice none 0 0]) ?_ 1 _ rfl;(with_reducible repeat(first | refine zbl ?_ _ | refine zbr ?_ | refine zbm ?_ _));refine zed (cs:= #[.int .i64 0, .slice none 0 0, .slice none 0 0]) ?_ 0 _ rfl;(with_reducible repeat(first | refine zbl ?_ _ | refine zbr ?_ | refine zbm ?_ _));exact BK1578.out) Try.underlying55 rfl (by kernel_rfl)) rfl ?_
 exact⟨_,_,jex,by(with_reducible repeat(first | apply zat | apply zau | apply zar));exact zao (rf3 HO1586.out BK1578.out) (fun _ hk=>hk.1),by(with_reducible repeat(first | apply zat | apply zau | apply zar));exact zao (rf3 HO1589.out BK1578.out) (fun _ hk=>hk.1),(bs2 (IsS85.ge HI1582.out) GE1578.out)⟩
def laws_sameLetter.f (a0_0:Int) (l0_1:List Int) (l0_2:List Int) (a1_0:Int) (l1_1:List Int) (l1_2:List Int):Option (Bool):=if a0_0=a1_0 then(if(strOfNums l0_1).toList=(strOfNums l1_1).toList then(some ((strOfNums l0_2).toList==(strOfNums l1_2).toList)) else(some false)) else(some false)
theorem laws_sameLetter.wk {P:Prop} (h:P:=by
 go_enter Try.func64,Try.ntmps64
 go_wp2_with (first | (refine jgd 2 ?_;refine bx 2 (#[.int .i64 a0_0, .slice A0_1 l0_1.length c0_1, .slice A0_2 l0_2.length c0_2]) 55 ?_;intro gb1592 hg w_ hbox hb;have xb_:=below_ofs bq hb;have n_:=jA4 (zal xb_ hb) (hbox) (ge0 hg xb_:w.heap.size≤gb1592) (ge0 hg xb_:w.heap.size≤gb1592);clear HB;obtain⟨HB,BK1592,GW1592,GE1592⟩:=n_;clear xb_ hb hbox hg) | (refine jgd 3 ?_;refine bx 3 (#[.int .i64 a1_0, .slice A1_1 l1_1.length c1_1, .slice A1_2 l1_2.length c1_2]) 55 ?_;intro gb1593 hg w_ hbox hb;have n_:=jA7 (jbb BK1592.out hb) (zal (bs1 GE1592.out) hb) (hbox) (ge0 hg (bs1 GE1592.out):w.heap.size≤gb1593) (ge0 hg (bs1 GE1592.out):w.heap.size≤gb1593) (nl hg (pB BK1592.out):gb1592≠gb1593) (ng hg (pB BK1592.out):gb1593≠gb1592);clear BK1592 HB;obtain⟨BK1592,HB,BK1593,GW1593,GE1593,NB1592_1593,NB1593_1592⟩:=n_;clear hb hbox hg;have hnb_:=NB1592_1593.out;have hnc_:=NB1593_1592.out;have hcz8_0:w_.cell? ⟨gb1592,0,none⟩=some (.int .i64 a0_0):=(zbd BK1592.out 0).trans rfl;have hcz8_1:w_.cell? ⟨gb1592,1,none⟩=some (.slice A0_1 l0_1.length c0_1):=(zbd BK1592.out 1).trans rfl;have hcz8_2:w_.cell? ⟨gb1592,2,none⟩=some (.slice A0_2 l0_2.length c0_2):=(zbd BK1592.out 2).trans rfl;have hfz8_0:=zaw BK1592.out 0;have hfz8_1:=zaw BK1592.out 1;have hfz8_2:=zaw BK1592.out 2;have hcz9_0:w_.cell? ⟨gb1593,0,none⟩=some (.int .i64 a1_0):=(zbd BK1593.out 0).trans rfl;have hcz9_1:w_.cell? ⟨gb1593,1,none⟩=some (.slice A1_1 l1_1.length c1_1):=(zbd BK1593.out 1).trans rfl;have hcz9_2:w_.cell? ⟨gb1593,2,none⟩=some (.slice A1_2 l1_2.length c1_2):=(zbd BK1593.out 2).trans rfl;have hfz9_0:=zaw BK1593.out 0;have hfz9_1:=zaw BK1593.out 1;have hfz9_2:=zaw BK1593.out 2;have hcv10:=Kd.C_string (P:=Try.prog) (A:=A0_1) (c:=c0_1) Try.underlying23 Try.underlying5 Try.underlying9 (Kd.C_below HR0_1.out HB.out);have hcv11:=Kd.C_string (P:=Try.prog) (A:=A1_1) (c:=c1_1) Try.underlying23 Try.underlying5 Try.underlying9 (Kd.C_below HR1_1.out HB.out);have hcv12:=Kd.C_string (P:=Try.prog) (A:=A0_2) (c:=c0_2) Try.underlying23 Try.underlying5 Try.underlying9 (Kd.C_below HR0_2.out HB.out);have hcv13:=Kd.C_string (P:=Try.prog) (A:=A1_2) (c:=c1_2) Try.underlying23 Try.underlying5 Try.underlying9 (Kd.C_below HR1_2.out HB.out)) | (refine jgd 3 ?_;refine bx 3 (#[.int .i64 a1_0, .slice A1_1 l1_1.length c1_1, .slice A1_2 l1_2.length c1_2]) 55 ?_;intro gb1593 hg w_ hbox hb;have n_:=jA7 (jbb BK1592.out hb) (zal (bs1 GE1592.out) hb) (hbox) (ge0 hg (bs1 GE1592.out):w.heap.size≤gb1593) (ge0 hg (bs1 GE1592.out):w.heap.size≤gb1593) (nl hg (pB BK1592.out):gb1592≠gb1593) (ng hg (pB BK1592.out):gb1593≠gb1592);clear BK1592 HB;obtain⟨BK1592,HB,BK1593,GW1593,GE1593,NB1592_1593,NB1593_1592⟩:=n_;clear hb hbox hg;have hnb_:=NB1592_1593.out;have hnc_:=NB1593_1592.out;have hcz17_0:w_.cell? ⟨gb1592,0,none⟩=some (.int .i64 a0_0):=(zbd BK1592.out 0).trans rfl;have hcz17_1:w_.cell? ⟨gb1592,1,none⟩=some (.slice A0_1 l0_1.length c0_1):=(zbd BK1592.out 1).trans rfl;have hcz17_2:w_.cell? ⟨gb1592,2,none⟩=some (.slice A0_2 l0_2.length c0_2):=(zbd BK1592.out 2).trans rfl;have hfz17_0:=zaw BK1592.out 0;have hfz17_1:=zaw BK1592.out 1;have hfz17_2:=zaw BK1592.out 2;have hcz18_0:w_.cell? ⟨gb1593,0,none⟩=some (.int .i64 a1_0):=(zbd BK1593.out 0).trans rfl;have hcz18_1:w_.cell? ⟨gb1593,1,none⟩=some (.slice A1_1 l1_1.length c1_1):=(zbd BK1593.out 1).trans rfl;have hcz18_2:w_.cell? ⟨gb1593,2,none⟩=some (.slice A1_2 l1_2.length c1_2):=(zbd BK1593.out 2).trans rfl;have hfz18_0:=zaw BK1593.out 0;have hfz18_1:=zaw BK1593.out 1;have hfz18_2:=zaw BK1593.out 2;have hcv19:=Kd.C_string (P:=Try.prog) (A:=A0_1) (c:=c0_1) Try.underlying23 Try.underlying5 Try.underlying9 (Kd.C_below HR0_1.out HB.out);have hcv20:=Kd.C_string (P:=Try.prog) (A:=A1_1) (c:=c1_1) Try.underlying23 Try.underlying5 Try.underlying9 (Kd.C_below HR1_1.out HB.out)) | (refine jgd 3 ?_;refine bx 3 (#[.int .i64 a1_0, .slice A1_1 l1_1.length c1_1, .slice A1_2 l1_2.length c1_2]) 55 ?_;intro gb1593 hg w_ hbox hb;have n_:=jA7 (jbb BK1592.out hb) (zal (bs1 GE1592.out) hb) (hbox) (ge0 hg (bs1 GE1592.out):w.heap.size≤gb1593) (ge0 hg (bs1 GE1592.out):w.heap.size≤gb1593) (nl hg (pB BK1592.out):gb1592≠gb1593) (ng hg (pB BK1592.out):gb1593≠gb1592);clear BK1592 HB;obtain⟨BK1592,HB,BK1593,GW1593,GE1593,NB1592_1593,NB1593_1592⟩:=n_;clear hb hbox hg;have hnb_:=NB1592_1593.out;have hnc_:=NB1593_1592.out;have hcz24_0:w_.cell? ⟨gb1592,0,none⟩=some (.int .i64 a0_0):=(zbd BK1592.out 0).trans rfl;have hcz24_1:w_.cell? ⟨gb1592,1,none⟩=some (.slice A0_1 l0_1.length c0_1):=(zbd BK1592.out 1).trans rfl;have hcz24_2:w_.cell? ⟨gb1592,2,none⟩=some (.slice A0_2 l0_2.length c0_2):=(zbd BK1592.out 2).trans rfl;have hfz24_0:=zaw BK1592.out 0;have hfz24_1:=zaw BK1592.out 1;have hfz24_2:=zaw BK1592.out 2;have hcz25_0:w_.cell? ⟨gb1593,0,none⟩=some (.int .i64 a1_0):=(zbd BK1593.out 0).trans rfl;have hcz25_1:w_.cell? ⟨gb1593,1,none⟩=some (.slice A1_1 l1_1.length c1_1):=(zbd BK1593.out 1).trans rfl;have hcz25_2:w_.cell? ⟨gb1593,2,none⟩=some (.slice A1_2 l1_2.length c1_2):=(zbd BK1593.out 2).trans rfl;have hfz25_0:=zaw BK1593.out 0;have hfz25_1:=zaw BK1593.out 1;have hfz25_2:=zaw BK1593.out 2))
 go_ret
 exact⟨jex,(bs2 GE1592.out GE1593.out)⟩):P:=h
theorem laws_sameLetter.calls (a0_0:Int) (A0_1:Option Addr) (c0_1:Nat) (l0_1:List Int) (A0_2:Option Addr) (c0_2:Nat) (l0_2:List Int) (a1_0:Int) (A1_1:Option Addr) (c1_1:Nat) (l1_1:List Int) (A1_2:Option Addr) (c1_2:Nat) (l1_2:List Int) (r:Bool) (w:World) (hr0_1:Kd.C (Kd.int .u8) w A0_1 l0_1.length l0_1) (hc0_1:l0_1.length≤c0_1) (hr0_2:Kd.C (Kd.int .u8) w A0_2 l0_2.length l0_2) (hc0_2:l0_2.length≤c0_2) (hr1_1:Kd.C (Kd.int .u8) w A1_1 l1_1.length l1_1) (hc1_1:l1_1.length≤c1_1) (hr1_2:Kd.C (Kd.int .u8) w A1_2 l1_2.length l1_2) (hc1_2:l1_2.length≤c1_2) (h:laws_sameLetter.f a0_0 l0_1 l0_2 a1_0 l1_1 l1_2=some r):
  Calls Try.prog 64 #[.agg #[.int .i64 a0_0, .slice A0_1 l0_1.length c0_1, .slice A0_2 l0_2.length c0_2], .agg #[.int .i64 a1_0, .slice A1_1 l1_1.length c1_1, .slice A1_2 l1_2.length c1_2]] w fun e w'=>e= .returned (.bool r)∧Below w.heap.size w w':=by
 have hu55:=Try.underlying55
 have HR0_1:=Aside0.mk hr0_1
 have HC0_1:=Aside0.mk hc0_1
 clear hr0_1 hc0_1
 have HR0_2:=Aside0.mk hr0_2
 have HC0_2:=Aside0.mk hc0_2
 clear hr0_2 hc0_2
 have HR1_1:=Aside0.mk hr1_1
 have HC1_1:=Aside0.mk hc1_1
 clear hr1_1 hc1_1
 have HR1_2:=Aside0.mk hr1_2
 have HC1_2:=Aside0.mk hc1_2
 clear hr1_2 hc1_2
 have HB:=Aside0.mk (zbk w.heap.size w)
 have H:(if a0_0=a1_0 then(if(strOfNums l0_1).toList=(strOfNums l1_1).toList then(some ((strOfNums l0_2).toList==(strOfNums l1_2).toList)) else(some false)) else(some false))=some r:=h
 clear h
 by_cases c3:a0_0=a1_0
 ·rw[if_pos c3] at H
  have c3b0:=beqT c3
  have c3b1:=zdm.mpr c3
  clear c3
  by_cases c4:(strOfNums l0_1).toList=(strOfNums l1_1).toList
  ·rw[if_pos c4] at H
   have c4b0:=beqT c4
   have c4b1:=zdm.mpr c4
   clear c4
   obtain rfl:=Option.some.inj H
   exact laws_sameLetter.wk
  rw[if_neg c4] at H
  have c4b0:=zcl.mpr c4
  have c4b1:=zez.mpr c4
  obtain rfl:=Option.some.inj H
  exact laws_sameLetter.wk
 rw[if_neg c3] at H
 have c3b0:=zcl.mpr c3
 have c3b1:=zez.mpr c3
 obtain rfl:=Option.some.inj H
 exact laws_sameLetter.wk
end Go.Proofs.Ytienlgcjohpphaa.P
/- Plain lemmas on lists and on numbers that do not wrap, used by all pure statements of this seat; no condition but those each lemma names. -/
namespace Go.Proofs.Ytienlgcjohpphaa.B
open Go.RowKit Go.Proofs.YtienlgcjohpphaaW.PrintWords Go.Proofs.YtienlgcjohpphaaW.PrintLast Go.Proofs.YtienlgcjohpphaaW.PrintMore

theorem wrap_eq (x:Int) (h0: -9223372036854775808≤x) (h1:x≤9223372036854775807):wrap64 x=x:=by
  unfold wrap64;omega
theorem rd_mid (pre:List Int) (a:Int) (rest:List Int):rd (pre++a :: rest) (pre.length:Int)=a:=by
  unfold rd;simp [List.getD_eq_getElem?_getD]
theorem set_mid (pre:List Int) (a b:Int) (rest:List Int):(pre++b :: rest).set ((pre.length:Int).toNat) a=pre++a :: rest:=by
  simp
theorem lt_mid {α:Type} (pre:List α) (a:α) (rest:List α):(pre.length:Int)<(((pre++a :: rest).length:Nat):Int):=by
  simp;omega
theorem nlt_end {α:Type} (pre:List α):¬((pre.length:Int)<(((pre++[]).length:Nat):Int)):=by
  simp
theorem wrap_step {α:Type} (pre:List α) (a:α) (h:pre.length≤4611686018427387904):wrap64 ((pre.length:Int)+1)=(((pre++[a]).length:Nat):Int):=by
  rw[wrap_eq _ (by omega) (by omega)];simp
theorem snoc_app {α:Type} (pre:List α) (a:α) (rest:List α):pre++a :: rest=(pre++[a])++rest:=by simp
theorem pre_nonneg {α:Type} (pre:List α):0≤(pre.length:Int):=by omega

theorem rd_mid2 (pa pb:List Int) (a:Int) (rest:List Int) (h:pa.length=pb.length):rd (pb++a :: rest) (pa.length:Int)=a:=by
  rw[h];exact rd_mid pb a rest
theorem lt_mid2 {α:Type} (pa pb:List α) (a:α) (rest:List α) (h:pa.length=pb.length):(pa.length:Int)<(((pb++a :: rest).length:Nat):Int):=by
  rw[h];exact lt_mid pb a rest
theorem nlt_end2 {α:Type} (pa pb:List α) (h:pa.length=pb.length):¬((pa.length:Int)<(((pb++[]).length:Nat):Int)):=by
  rw[h];exact nlt_end pb
/-- n numbers m, m + 1, .. as bytes. -/
def marks:Nat→Int→List Int
  | 0,_=>[]
  | n+1,m=>m % 256 :: marks n (m+1)
theorem marks_length:∀ (n:Nat) (m:Int),(marks n m).length=n
  | 0,_=>rfl
  | n+1,m=>by simp [marks,marks_length n]
theorem marks_snoc:∀ (n:Nat) (m:Int),marks n m++[(m+n) % 256]=marks (n+1) m
  | 0,m=>by simp [marks]
  | n+1,m=>by
    have h:=marks_snoc n (m+1)
    rw[show m+1+(n:Int)=m+((n+1:Nat):Int) from by omega] at h
    rw[marks,marks,List.cons_append,h]
/-- n numbers m, m + 1, .. -/
def counts:Nat→Int→List Int
  | 0,_=>[]
  | n+1,m=>m :: counts n (m+1)
theorem counts_length:∀ (n:Nat) (m:Int),(counts n m).length=n
  | 0,_=>rfl
  | n+1,m=>by simp [counts,counts_length n]
theorem counts_snoc:∀ (n:Nat) (m:Int),counts n m++[m+n]=counts (n+1) m
  | 0,m=>by simp [counts]
  | n+1,m=>by
    have h:=counts_snoc n (m+1)
    rw[show m+1+(n:Int)=m+((n+1:Nat):Int) from by omega] at h
    rw[counts,counts,List.cons_append,h]
end Go.Proofs.Ytienlgcjohpphaa.B
/- What masks and shifts of whole numbers are, as remainders; each for the numbers that it names. -/
namespace Go.Proofs.Ytienlgcjohpphaa.B
open Go.RowKit Go.Proofs.YtienlgcjohpphaaW.PrintWords Go.Proofs.YtienlgcjohpphaaW.PrintLast Go.Proofs.YtienlgcjohpphaaW.PrintMore

theorem i64_and_nat (x:Int) (m:Nat) (hm:m<9223372036854775808):Go.bits .and .i64 x (m:Int)=(((x % 18446744073709551616).toNat &&& m:Nat):Int):=by
  have h1:(BitVec.ofInt 64 x).toNat=(x % 18446744073709551616).toNat:=by
    rw[BitVec.toNat_ofInt];rfl
  have h2:(BitVec.ofInt 64 (m:Int)).toNat=m:=ofInt_u64 m (by omega)
  have hx:(x % 18446744073709551616).toNat &&& m≤m:=Nat.and_le_right
  show IntKind.i64.wrap ((BitVec.ofInt 64 x &&& BitVec.ofInt 64 (m:Int)).toNat:Int)=_
  rw[BitVec.toNat_and,h1,h2,IntKind.wrap_i64]
  omega
theorem i64_and31 (x:Int):Go.bits .and .i64 x 31=x % 32:=by
  rw[show(31:Int)=((31:Nat):Int) from rfl,i64_and_nat x 31 (by omega),show(31:Nat)=2 ^ 5 - 1 from rfl,Nat.and_two_pow_sub_one_eq_mod]
  omega
theorem i64_and255 (x:Int):Go.bits .and .i64 x 255=x % 256:=by
  rw[show(255:Int)=((255:Nat):Int) from rfl,i64_and_nat x 255 (by omega),show(255:Nat)=2 ^ 8 - 1 from rfl,Nat.and_two_pow_sub_one_eq_mod]
  omega
theorem i64_and32 (x:Int):Go.bits .and .i64 x 4294967295=x % 4294967296:=by
  rw[show(4294967295:Int)=((4294967295:Nat):Int) from rfl,i64_and_nat x 4294967295 (by omega),show(4294967295:Nat)=2 ^ 32 - 1 from rfl,Nat.and_two_pow_sub_one_eq_mod]
  omega
theorem wf8 {l:List Int} (h:∀ x∈l,(Lit.int .u8 x).wf=true):∀ x∈l,0≤x∧x<256:=by
  intro x hx
  have:=h x hx
  have m1:IntKind.u8.min=0:=by decide
  have m2:IntKind.u8.max=255:=by decide
  simp only[Lit.wf,m1,m2,Bool.and_eq_true,decide_eq_true_eq] at this
  omega
theorem wf64 {x:Int} (h:(Lit.int .i64 x).wf=true): -9223372036854775808≤x∧x≤9223372036854775807:=by
  have m1:IntKind.i64.min= -9223372036854775808:=by decide
  have m2:IntKind.i64.max=9223372036854775807:=by decide
  simp only[Lit.wf,m1,m2,Bool.and_eq_true,decide_eq_true_eq] at h
  omega
end Go.Proofs.Ytienlgcjohpphaa.B
namespace Go.Proofs.Ytienlgcjohpphaa.P
open Go.RowKit Go.Proofs.YtienlgcjohpphaaW.PrintWords Go.Proofs.YtienlgcjohpphaaW.PrintLast Go.Proofs.YtienlgcjohpphaaW.PrintMore
attribute [local go_sem] zcn zco zdk zdl zce zcf zcp zcq -- for this text's walks alone
set_option linter.unusedVariables false
set_option linter.unusedSimpArgs false
set_option maxHeartbeats 8000000
set_option maxRecDepth 100000

def spec_l2DrawNum.f (s0_0:List Int) (s0_1:Int) (s0_2:Int):Option (Int×Int×Int):=(spec_l1PickInt.f s0_0 s0_1 s0_2 (([0,1,305419896,4294967295,4294967296,(-1),9223372036854775807]:List Int))).bind fun bt594=>(some (bt594.1,bt594.2.1,bt594.2.2))
theorem spec_l2DrawNum.calls (g:Nat) (s0_0:List Int) (s0_1:Int) (s0_2:Int) (r1:Int) (r2:Int) (r3:Int) (w0 w:World) (hI:IsS85 w0 w g s0_0 s0_1 s0_2) (hB:Below w0.heap.size w0 w) (h:spec_l2DrawNum.f s0_0 s0_1 s0_2=some (r1,r2,r3)):
  Calls Try.prog 82 #[.pointer (some ⟨g,0,none⟩)] w fun e w'=>e= .returned (.int .i64 r1)∧IsS85 w0 w' g s0_0 r2 r3∧Below w0.heap.size w0 w'∧KeepBut w w' g none:=by
 have HI0:=Aside0.mk hI
 have HK:=Aside0.mk (KeepBut.refl w g none)
 have HL:=Aside0.mk hB.size
 clear hI
 have HW0:=Aside0.mk hB.size
 have HB:=Aside0.mk hB
 clear hB
 have H:((spec_l1PickInt.f s0_0 s0_1 s0_2 (([0,1,305419896,4294967295,4294967296,(-1),9223372036854775807]:List Int))).bind fun bt594=>(some (bt594.1,bt594.2.1,bt594.2.2)))=some (r1,r2,r3):=h
 clear h
 obtain⟨y591,hy591⟩:∃ y_:List Int,y_=(([0,1,305419896,4294967295,4294967296,(-1),9223372036854775807]:List Int)):=⟨_,rfl⟩
 replace H:((spec_l1PickInt.f s0_0 s0_1 s0_2 y591).bind fun bt594=>(some (bt594.1,bt594.2.1,bt594.2.2)))=some (r1,r2,r3):=jrw hy591 H
 have Ny591:=Aside0.mk hy591
 clear hy591
 obtain⟨⟨t594,t595,t596⟩,A2,H⟩:=bnd H
 try dsimp only at H
 simp only[zcb,zcu] at H
 obtain⟨rfl,rfl,rfl⟩:=H
 go_enter Try.func82,Try.ntmps82
 go_wp2_with (first | (refine jgd 4 ?_;refine Kd.R_lit (Kd.int .i64) _ 3 ?hg (N:=4) ?hd (xs:=([0,1,305419896,4294967295,4294967296,(-1),9223372036854775807]:List Int)) (inner:=[.int .i64 0, .int .i64 1, .int .i64 305419896, .int .i64 4294967295, .int .i64 4294967296, .int .i64 (-1), .int .i64 9223372036854775807]) (ok:=fun _=>True) (okp:=fun _=>True) ?hr ?hp (fun _ hk=>hk) trivial (zbk _ _) (zav _) (by simp) ?_;(case hd=>rfl);(case hg=>rfl);(case hr=>first | (go_simp;done) | (go_simp;rfl));(case hp=>exact(zan (show Kd.M (Kd.int .i64) _ _ _ 0 [.int .i64 0] from rfl) (zan (show Kd.M (Kd.int .i64) _ _ _ 1 [.int .i64 1] from rfl) (zan (show Kd.M (Kd.int .i64) _ _ _ 305419896 [.int .i64 305419896] from rfl) (zan (show Kd.M (Kd.int .i64) _ _ _ 4294967295 [.int .i64 4294967295] from rfl) (zan (show Kd.M (Kd.int .i64) _ _ _ 4294967296 [.int .i64 4294967296] from rfl) (zan (show Kd.M (Kd.int .i64) _ _ _ (-1) [.int .i64 (-1)] from rfl) (zan (show Kd.M (Kd.int .i64) _ _ _ 9223372036854775807 [.int .i64 9223372036854775807] from rfl) (zeb _ _)))))))));intro v592 w3 ho4 hb hg_ hnew_;clear hg_ hnew_;(first | rw[← Ny591.out] at ho4 | (simp only[Int.reduceToNat] at ho4;rw[← Ny591.out] at ho4));have n_:=jA4 (zaq ho4 (zef (w:=w) (g:=g) (row:=none) jk)) (IsS85.below (by repeat(first | (with_reducible first | exact HI0.out | apply IsS85.alloc | apply IsS85.drewN | apply IsS85.drew | apply IsS85.set_1 | apply IsS85.set_2) | exact HI0.out)) hb) (zbq jk (zes hb g none) (.inl rfl)) (zal (bs1 (IsS85.ge HI0.out)) hb);clear HI0 HK HB;obtain⟨HO593,HI0,HK,HB⟩:=n_;clear hb ho4;obtain⟨Ao5,co5,eo5⟩:=zbb HO593.out;subst eo5) | (refine jgc 107 ?_;refine jgs 5 Try.func107 #[.pointer (some ⟨g,0,none⟩), .slice Ao5 y591.length co5] ?_;(with_reducible refine(spec_l1PickInt.calls g s0_0 s0_1 s0_2 _ _ y591 t594 t595 t596 w0 _ ?side1 ?side2 ?side3 ?side4 ?side5 A2.out).mono ?_);(case side1=>repeat(first | (with_reducible first | exact HI0.out | apply IsS85.alloc | apply IsS85.drewN | apply IsS85.drew | apply IsS85.set_1 | apply IsS85.set_2) | exact HI0.out));(case side2=>repeat(first | (with_reducible first | exact HB.out | apply zbe | apply zap | apply zay | refine zbf ?_ (IsS85.ge HI0.out)) | exact HB.out));(case side3=>repeat(first | exact(zam HO593.out).2.2 | (with_reducible first | apply zbs | apply zbt | apply zcg)));(case side4=>exact(zam HO593.out).2.1);(case side5=>exact far_slice (IsS85.own_ne HI0.out HO593.out (by decide)));rintro e w6 ⟨rfl,hi,hb,hk⟩;refine⟨_,rfl,?_⟩;have n_:=jA4 (zao (zec (IsS85.apart (show IsS85 w0 _ g s0_0 s0_1 s0_2 from by repeat(first | (with_reducible first | exact HI0.out | apply IsS85.alloc | apply IsS85.drewN | apply IsS85.drew | apply IsS85.set_1 | apply IsS85.set_2) | exact HI0.out)) (pR HO593.out) (by decide)) hk (fun _ h=>h.2)) (fun _ h=>h.1)) (zbq jk hk (.inl rfl)) (hb) (hi);clear HO593 HK HB HI0;obtain⟨HO593,HK,HB,HI0⟩:=n_;(try clear hb);(try clear hb2);(try clear hk);(try clear hi)))
 go_ret
 exact⟨jex,by repeat(first | (with_reducible first | exact HI0.out | apply IsS85.alloc | apply IsS85.drewN | apply IsS85.drew | apply IsS85.set_1 | apply IsS85.set_2) | exact HI0.out),by repeat(first | (with_reducible first | exact HB.out | apply zbe | apply zap | apply zay | refine zbf ?_ (IsS85.ge HI0.out)) | exact HB.out),by repeat(first | (with_reducible first | exact HK.out | apply zeu | apply zfb | apply zft | apply zfc) | exact HK.out)⟩
end Go.Proofs.Ytienlgcjohpphaa.P
