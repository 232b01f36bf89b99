import Derived.Test.Ytienlgcjohpphaale13
namespace Go.Proofs.Ytienlgcjohpphaa.P
open Go.RowKit Go.Proofs.YtienlgcjohpphaaW.PrintWords Go.Proofs.YtienlgcjohpphaaW.PrintLast Go.Proofs.YtienlgcjohpphaaW.PrintMore
attribute [local go_sem] zcn zco zdk zdl zce zcf zcp zcq -- for this text's walks alone
set_option linter.unusedVariables false
set_option linter.unusedSimpArgs false
set_option maxHeartbeats 8000000
set_option maxRecDepth 100000

def spec_LetterOk.f (a0_0:Int) (l0_1:List Int) (l0_2:List Int):Option (Bool):=(spec_l1In.f a0_0 0 65535).bind fun t1493=>(if t1493=true then(if(l0_1.length:Int)=32 then((spec_l1In.f (l0_2.length:Int) 16 1516).bind fun t1494=>(some t1494)) else(some false)) else(some false))
theorem spec_LetterOk.wk {P:Prop} (h:P:=by
 go_enter Try.func66,Try.ntmps66
 go_wp2_with (first | (refine jgd 1 ?_;(try(refine zdt (by rfl) ?_;dsimp only));refine bx 1 (#[.int .i64 a0_0, .slice A0_1 l0_1.length c0_1, .slice A0_2 l0_2.length c0_2]) 55 ?_;intro gb1492 hg w_ hbox hb;have xb_:=below_ofs bq hb;have n_:=jA4 (zal xb_ hb) (hbox) (ge0 hg xb_:w.heap.size≤gb1492) (ge0 hg xb_:w.heap.size≤gb1492);clear HB;obtain⟨HB,BK1492,GW1492,GE1492⟩:=n_;clear xb_ hb hbox hg;have hcz7_0:w_.cell? ⟨gb1492,0,none⟩=some (.int .i64 a0_0):=(zbd BK1492.out 0).trans rfl;have hcz7_1:w_.cell? ⟨gb1492,1,none⟩=some (.slice A0_1 l0_1.length c0_1):=(zbd BK1492.out 1).trans rfl;have hcz7_2:w_.cell? ⟨gb1492,2,none⟩=some (.slice A0_2 l0_2.length c0_2):=(zbd BK1492.out 2).trans rfl;have hfz7_0:=zaw BK1492.out 0;have hfz7_1:=zaw BK1492.out 1;have hfz7_2:=zaw BK1492.out 2) | (refine jgc 89 ?_;refine jgs 5 Try.func89 #[.int .i64 a0_0, .int .i64 0, .int .i64 65535] ?_;(with_reducible refine(spec_l1In.calls a0_0 0 65535 _ _ A2.out).mono ?_);rintro e w' ⟨rfl,⟨nd,rfl⟩⟩;refine⟨_,rfl,?_⟩) | (go_at_call 89;(with_reducible refine(spec_l1In.calls (l0_2.length:Int) 16 1516 t1494 _ A5.out).mono ?_);rintro e w' ⟨rfl,⟨nd,rfl⟩⟩) | (refine jgd 1 ?_;(try(refine zdt (by rfl) ?_;dsimp only));refine bx 1 (#[.int .i64 a0_0, .slice A0_1 l0_1.length c0_1, .slice A0_2 l0_2.length c0_2]) 55 ?_;intro gb1492 hg w_ hbox hb;have xb_:=below_ofs bq hb;have n_:=jA4 (zal xb_ hb) (hbox) (ge0 hg xb_:w.heap.size≤gb1492) (ge0 hg xb_:w.heap.size≤gb1492);clear HB;obtain⟨HB,BK1492,GW1492,GE1492⟩:=n_;clear xb_ hb hbox hg;have hcz11_0:w_.cell? ⟨gb1492,0,none⟩=some (.int .i64 a0_0):=(zbd BK1492.out 0).trans rfl;have hcz11_1:w_.cell? ⟨gb1492,1,none⟩=some (.slice A0_1 l0_1.length c0_1):=(zbd BK1492.out 1).trans rfl;have hcz11_2:w_.cell? ⟨gb1492,2,none⟩=some (.slice A0_2 l0_2.length c0_2):=(zbd BK1492.out 2).trans rfl;have hfz11_0:=zaw BK1492.out 0;have hfz11_1:=zaw BK1492.out 1;have hfz11_2:=zaw BK1492.out 2) | (refine jgd 1 ?_;(try(refine zdt (by rfl) ?_;dsimp only));refine bx 1 (#[.int .i64 a0_0, .slice A0_1 l0_1.length c0_1, .slice A0_2 l0_2.length c0_2]) 55 ?_;intro gb1492 hg w_ hbox hb;have xb_:=below_ofs bq hb;have n_:=jA4 (zal xb_ hb) (hbox) (ge0 hg xb_:w.heap.size≤gb1492) (ge0 hg xb_:w.heap.size≤gb1492);clear HB;obtain⟨HB,BK1492,GW1492,GE1492⟩:=n_;clear xb_ hb hbox hg;have hcz9_0:w_.cell? ⟨gb1492,0,none⟩=some (.int .i64 a0_0):=(zbd BK1492.out 0).trans rfl;have hcz9_1:w_.cell? ⟨gb1492,1,none⟩=some (.slice A0_1 l0_1.length c0_1):=(zbd BK1492.out 1).trans rfl;have hcz9_2:w_.cell? ⟨gb1492,2,none⟩=some (.slice A0_2 l0_2.length c0_2):=(zbd BK1492.out 2).trans rfl;have hfz9_0:=zaw BK1492.out 0;have hfz9_1:=zaw BK1492.out 1;have hfz9_2:=zaw BK1492.out 2) | (refine jgc 89 ?_;refine jgs 5 Try.func89 #[.int .i64 a0_0, .int .i64 0, .int .i64 65535] ?_;(with_reducible refine(spec_l1In.calls a0_0 0 65535 true _ A2.out).mono ?_);rintro e w' ⟨rfl,⟨nd,rfl⟩⟩;refine⟨_,rfl,?_⟩))
 go_ret
 exact⟨jex,(bs1 GE1492.out)⟩):P:=h
theorem spec_LetterOk.calls (a0_0:Int) (A0_1:Option Addr) (c0_1:Nat) (l0_1:List Int) (A0_2:Option Addr) (c0_2:Nat) (l0_2:List Int) (r:Bool) (w:World) (hr0_1:Kd.C (Kd.int .u8) w A0_1 l0_1.length l0_1) (hc0_1:l0_1.length≤c0_1) (hr0_2:Kd.C (Kd.int .u8) w A0_2 l0_2.length l0_2) (hc0_2:l0_2.length≤c0_2) (h:spec_LetterOk.f a0_0 l0_1 l0_2=some r):
  Calls Try.prog 66 #[.agg #[.int .i64 a0_0, .slice A0_1 l0_1.length c0_1, .slice A0_2 l0_2.length c0_2]] w fun e w'=>e= .returned (.bool r)∧Below w.heap.size w w':=by
 have hu55:=Try.underlying55
 have HR0_1:=Aside0.mk hr0_1
 have HC0_1:=Aside0.mk hc0_1
 clear hr0_1 hc0_1
 have HR0_2:=Aside0.mk hr0_2
 have HC0_2:=Aside0.mk hc0_2
 clear hr0_2 hc0_2
 have HB:=Aside0.mk (zbk w.heap.size w)
 have H:((spec_l1In.f a0_0 0 65535).bind fun t1493=>(if t1493=true then(if(l0_1.length:Int)=32 then((spec_l1In.f (l0_2.length:Int) 16 1516).bind fun t1494=>(some t1494)) else(some false)) else(some false)))=some r:=h
 clear h
 obtain⟨t1493,A2,H⟩:=bnd H
 by_cases c3:t1493=true
 ·subst c3
  rw[if_pos rfl] at H
  by_cases c4:(l0_1.length:Int)=32
  ·rw[if_pos c4] at H
   have c4b0:=beqT c4
   have c4b1:=zdm.mpr c4
   clear c4
   obtain⟨t1494,A5,H⟩:=bnd H
   obtain rfl:=Option.some.inj H
   exact spec_LetterOk.wk
  rw[if_neg c4] at H
  have c4b0:=zcl.mpr c4
  have c4b1:=zez.mpr c4
  obtain rfl:=Option.some.inj H
  exact spec_LetterOk.wk
 replace c3:=zds.mpr c3
 subst c3
 rw[if_neg (show ¬(false=true) by decide)] at H
 obtain rfl:=Option.some.inj H
 exact spec_LetterOk.wk
def spec_LetterBytes.f (k:Nat) (a0_0:Int) (l0_1:List Int) (l0_2:List Int):Option (List Int):=(spec_LetterOk.f a0_0 l0_1 l0_2).bind fun t1496=>(if t1496=true then((some (([1]:List Int):List Int)).bind fun y1497=>((spec_Great.f k a0_0 2).bind fun t1500=>(if y1497.length+t1500.length<140737488355328 then((some (y1497++t1500:List Int)).bind fun y1503=>(if y1503.length+l0_1.length<140737488355328 then((some (y1503++l0_1:List Int)).bind fun y1506=>(if y1506.length+l0_2.length<140737488355328 then(some (y1506++l0_2)) else(none))) else(none))) else(none)))) else(some (([]:List Int))))
theorem spec_LetterBytes.mono:∀ a0 a1 a2 k,LeO (spec_LetterBytes.f k a0 a1 a2) (spec_LetterBytes.f (k+1) a0 a1 a2):=by
 intro a0 a1 a2 k
 unfold spec_LetterBytes.f
 have m0:=@spec_Great.mono
 exact mt
theorem spec_LetterBytes.wk {P:Prop} (h:P:=by
 go_enter Try.func63,Try.ntmps63
 go_wp2_with (first | (refine jgd 1 ?_;refine bx 1 (#[.int .i64 a0_0, .slice A0_1 l0_1.length c0_1, .slice A0_2 l0_2.length c0_2]) 55 ?_;intro gb1495 hg w_ hbox hb;have xb_:=below_ofs bq hb;have n_:=jA4 (zal xb_ hb) (hbox) (ge0 hg xb_:w.heap.size≤gb1495) (ge0 hg xb_:w.heap.size≤gb1495);clear HB;obtain⟨HB,BK1495,GW1495,GE1495⟩:=n_;clear xb_ hb hbox hg;have hcz9_0:w_.cell? ⟨gb1495,0,none⟩=some (.int .i64 a0_0):=(zbd BK1495.out 0).trans rfl;have hcz9_1:w_.cell? ⟨gb1495,1,none⟩=some (.slice A0_1 l0_1.length c0_1):=(zbd BK1495.out 1).trans rfl;have hcz9_2:w_.cell? ⟨gb1495,2,none⟩=some (.slice A0_2 l0_2.length c0_2):=(zbd BK1495.out 2).trans rfl;have hfz9_0:=zaw BK1495.out 0;have hfz9_1:=zaw BK1495.out 1;have hfz9_2:=zaw BK1495.out 2) | (refine jgc 66 ?_;refine jgs 5 Try.func66 #[.agg #[.int .i64 a0_0, .slice A0_1 l0_1.length c0_1, .slice A0_2 l0_2.length c0_2]] ?_;(with_reducible refine(spec_LetterOk.calls a0_0 _ _ l0_1 _ _ l0_2 _ _ ?side1 ?side2 ?side3 ?side4 A2.out).mono ?_);(case side1=>exact jcs HR0_1.out);(case side2=>exact HC0_1.out);(case side3=>exact jcs HR0_2.out);(case side4=>exact HC0_2.out);rintro e w_ ⟨rfl,hb⟩;refine⟨_,rfl,?_⟩;have n_:=jA2 (jbb BK1495.out hb) (zal (bs1 GE1495.out) hb);clear BK1495 HB;obtain⟨BK1495,HB⟩:=n_;(try clear hb);(try clear hb2);(try clear hk);(try clear hi)) | (refine jgd 8 ?_;refine Kd.R_lit (Kd.int .u8) _ 5 ?hg (N:=8) ?hd (xs:=([1]:List Int)) (inner:=[.int .u8 1]) (ok:=fun _=>True) (okp:=fun _=>True) ?hr ?hp (fun _ hk=>hk) trivial (zbk _ _) (zav _) (by simp) ?_;(case hd=>rfl);(case hg=>rfl);(case hr=>first | (go_simp;done) | (go_simp;rfl));(case hp=>exact(zan (show Kd.M (Kd.int .u8) _ _ _ 1 [.int .u8 1] from rfl) (zeb _ _)));intro v1498 w_ ho12 hb hg_ hnew_;clear hg_ hnew_;(first | rw[← Ny1497.out] at ho12 | (simp only[Int.reduceToNat] at ho12;rw[← Ny1497.out] at ho12));have n_:=jA3 (zaq ho12 (zah (bs1 GE1495.out))) (jbb BK1495.out hb) (zal (bs1 GE1495.out) hb);clear BK1495 HB;obtain⟨HO1499,BK1495,HB⟩:=n_;clear hb ho12;have hcz13_0:w_.cell? ⟨gb1495,0,none⟩=some (.int .i64 a0_0):=(zbd BK1495.out 0).trans rfl;have hcz13_1:w_.cell? ⟨gb1495,1,none⟩=some (.slice A0_1 l0_1.length c0_1):=(zbd BK1495.out 1).trans rfl;have hcz13_2:w_.cell? ⟨gb1495,2,none⟩=some (.slice A0_2 l0_2.length c0_2):=(zbd BK1495.out 2).trans rfl;have hfz13_0:=zaw BK1495.out 0;have hfz13_1:=zaw BK1495.out 1;have hfz13_2:=zaw BK1495.out 2) | (refine jgc 86 ?_;refine jgs 11 Try.func86 #[.int .i64 a0_0, .int .i64 2] ?_;(with_reducible refine(spec_Great.calls k a0_0 2 t1500 _ A4.out).mono ?_);rintro e w_ ⟨v1501,rfl,ho0,hb⟩;refine⟨_,rfl,?_⟩;have qHO1499:=Kd.R_ofs (pR HO1499.out) hb;have n_:=jA4 (zbp qHO1499 (zba ho0) hb) (zaq (zby ho0 (zca qHO1499)) (zah (bs1 GE1495.out))) (jbb BK1495.out hb) (zal (bs1 GE1495.out) hb);clear qHO1499 HO1499 BK1495 HB;obtain⟨HO1499,HO1502,BK1495,HB⟩:=n_;clear hb ho0;obtain⟨Ao16,co16,eo16⟩:=zbb HO1502.out;subst eo16) | ((with_reducible refine zde (b:= .append) (xs:= #[.tmp 8, .tmp 11]) rfl ?_);at_builtin;refine zdw (Kd.int .u8) (w0:=w) w.heap.size rfl (.tmp 8) (.tmp 11) 23 5 (.int .u8 0) 1 rfl Try.underlying23 info5 rfl (by decide) (by omega) v1498 y1497 t1500 _ _ _ (fun k_=>some k_≠(.slice Ao16 t1500.length co16:Value).ownBlock) (fun _=>False) rfl rfl ?aO ?aR (fun _ _ h=>h) (fun _ h=>h.elim) ?aF ?aB ?aS ?aL ?_;(case aR=>repeat(first | exact(zam HO1502.out).2.2 | (with_reducible first | apply zbs | apply zbt | apply zcg)));(case aB=>exact(bs1 GE1495.out));(case aF=>exact(fun k_ hk=>zdv (zca (pR HO1502.out)) k_ hk));(case aO=>exact(by(with_reducible repeat(first | apply zat | apply zau | apply zar));exact zao HO1499.out (fun _ hk=>hk.2)));(case aS=>exact(zah (bs1 GE1495.out)));(case aL=>have:=LMc5.out;omega);intro v1504 w15 ho hb hg hat;rw[← Ny1503.out] at ho;have n_:=jA4 (blk_grown (pB BK1495.out) hg (Kd.R_ne HO1499.out BK1495.out (by decide))) (zdu (ok:=(fun _=>True)) (pR HO1502.out) hg hat) (hb) (ho);clear BK1495 HO1502 HB HO1499;obtain⟨BK1495,HO1502,HB,HO1505⟩:=n_;clear ho hb hg hat;have hcz17_0:w15.cell? ⟨gb1495,0,none⟩=some (.int .i64 a0_0):=(zbd BK1495.out 0).trans rfl;have hcz17_1:w15.cell? ⟨gb1495,1,none⟩=some (.slice A0_1 l0_1.length c0_1):=(zbd BK1495.out 1).trans rfl;have hcz17_2:w15.cell? ⟨gb1495,2,none⟩=some (.slice A0_2 l0_2.length c0_2):=(zbd BK1495.out 2).trans rfl;have hfz17_0:=zaw BK1495.out 0;have hfz17_1:=zaw BK1495.out 1;have hfz17_2:=zaw BK1495.out 2) | ((with_reducible refine zde (b:= .append) (xs:= #[.tmp 13, .tmp 15]) rfl ?_);at_builtin;refine zdw (Kd.int .u8) (w0:=w) w.heap.size rfl (.tmp 13) (.tmp 15) 23 5 (.int .u8 0) 1 rfl Try.underlying23 info5 rfl (by decide) (by omega) v1504 y1503 l0_1 _ _ _ (fun k_=>some k_≠(.slice Ao16 t1500.length co16:Value).ownBlock) (fun _=>False) rfl rfl ?aO ?aR (fun _ _ h=>h) (fun _ h=>h.elim) ?aF ?aB ?aS ?aL ?_;(case aR=>exact jcs HR0_1.out);(case aB=>exact(bs1 GE1495.out));(case aF=>exact(fun k_ hk=>zdv (zca (pR HO1502.out)) k_ hk));(case aO=>exact(pR HO1505.out));(case aS=>exact(zah (bs1 GE1495.out)));(case aL=>have:=LMc6.out;omega);intro v1507 w18 ho hb hg hat;rw[← Ny1506.out] at ho;have n_:=jA4 (blk_grown (pB BK1495.out) hg (Kd.R_ne HO1505.out BK1495.out (by decide))) (zdu (ok:=(fun _=>True)) (pR HO1502.out) hg hat) (hb) (ho);clear BK1495 HO1502 HB HO1505;obtain⟨BK1495,HO1502,HB,HO1508⟩:=n_;clear ho hb hg hat;have hcz19_0:w18.cell? ⟨gb1495,0,none⟩=some (.int .i64 a0_0):=(zbd BK1495.out 0).trans rfl;have hcz19_1:w18.cell? ⟨gb1495,1,none⟩=some (.slice A0_1 l0_1.length c0_1):=(zbd BK1495.out 1).trans rfl;have hcz19_2:w18.cell? ⟨gb1495,2,none⟩=some (.slice A0_2 l0_2.length c0_2):=(zbd BK1495.out 2).trans rfl;have hfz19_0:=zaw BK1495.out 0;have hfz19_1:=zaw BK1495.out 1;have hfz19_2:=zaw BK1495.out 2) | ((with_reducible refine zde (b:= .append) (xs:= #[.tmp 17, .tmp 19]) rfl ?_);at_builtin;refine zdw (Kd.int .u8) (w0:=w) w.heap.size rfl (.tmp 17) (.tmp 19) 23 5 (.int .u8 0) 1 rfl Try.underlying23 info5 rfl (by decide) (by omega) v1507 y1506 l0_2 _ _ _ (fun k_=>some k_≠(.slice Ao16 t1500.length co16:Value).ownBlock) (fun _=>False) rfl rfl ?aO ?aR (fun _ _ h=>h) (fun _ h=>h.elim) ?aF ?aB ?aS ?aL ?_;(case aR=>exact jcs HR0_2.out);(case aB=>exact(bs1 GE1495.out));(case aF=>exact(fun k_ hk=>zdv (zca (pR HO1502.out)) k_ hk));(case aO=>exact(pR HO1508.out));(case aS=>exact(zah (bs1 GE1495.out)));(case aL=>have:=LMc7.out;omega);intro v1510 w20 ho hb hg hat;rw[← Ny1509.out] at ho;have n_:=jA4 (blk_grown (pB BK1495.out) hg (Kd.R_ne HO1508.out BK1495.out (by decide))) (zdu (ok:=(fun _=>True)) (pR HO1502.out) hg hat) (hb) (ho);clear BK1495 HO1502 HB HO1508;obtain⟨BK1495,HO1502,HB,HO1511⟩:=n_;clear ho hb hg hat) | (refine jgd 1 ?_;refine bx 1 (#[.int .i64 a0_0, .slice A0_1 l0_1.length c0_1, .slice A0_2 l0_2.length c0_2]) 55 ?_;intro gb1495 hg w_ hbox hb;have xb_:=below_ofs bq hb;have n_:=jA4 (zal xb_ hb) (hbox) (ge0 hg xb_:w.heap.size≤gb1495) (ge0 hg xb_:w.heap.size≤gb1495);clear HB;obtain⟨HB,BK1495,GW1495,GE1495⟩:=n_;clear xb_ hb hbox hg;have hcz22_0:w_.cell? ⟨gb1495,0,none⟩=some (.int .i64 a0_0):=(zbd BK1495.out 0).trans rfl;have hcz22_1:w_.cell? ⟨gb1495,1,none⟩=some (.slice A0_1 l0_1.length c0_1):=(zbd BK1495.out 1).trans rfl;have hcz22_2:w_.cell? ⟨gb1495,2,none⟩=some (.slice A0_2 l0_2.length c0_2):=(zbd BK1495.out 2).trans rfl;have hfz22_0:=zaw BK1495.out 0;have hfz22_1:=zaw BK1495.out 1;have hfz22_2:=zaw BK1495.out 2) | (refine jgd 7 ?_;refine jlt 7 (Kd.int .u8) 5 ?_;intro v1513 w_ ho25 hb;(first | rw[← Ny1512.out] at ho25 | (simp only[Int.reduceToNat] at ho25;rw[← Ny1512.out] at ho25));have n_:=jA3 (zaq ho25 (zah (bs1 GE1495.out))) (jbb BK1495.out hb) (zal (bs1 GE1495.out) hb);clear BK1495 HB;obtain⟨HO1514,BK1495,HB⟩:=n_;clear hb ho25))
 go_ret
 first | (exact⟨_,jex,tqR HO1511.out,(bs1 GE1495.out)⟩) | (exact⟨_,jex,by(with_reducible repeat(first | apply zat | apply zau | apply zar));exact HO1514.out,(bs1 GE1495.out)⟩)):P:=h
theorem spec_LetterBytes.calls (k:Nat) (a0_0:Int) (A0_1:Option Addr) (c0_1:Nat) (l0_1:List Int) (A0_2:Option Addr) (c0_2:Nat) (l0_2:List Int) (r:List Int) (w:World) (hr0_1:Kd.C (Kd.int .u8) w A0_1 l0_1.length l0_1) (hc0_1:l0_1.length≤c0_1) (hr0_2:Kd.C (Kd.int .u8) w A0_2 l0_2.length l0_2) (hc0_2:l0_2.length≤c0_2) (h:spec_LetterBytes.f k a0_0 l0_1 l0_2=some r):
  Calls Try.prog 63 #[.agg #[.int .i64 a0_0, .slice A0_1 l0_1.length c0_1, .slice A0_2 l0_2.length c0_2]] w fun e w'=>∃ v0_:Value,e= .returned (v0_)∧Kd.R (Kd.int .u8) 5 w' w.heap.size (fun _=>True) v0_ r∧Below w.heap.size w w':=by
 have hu55:=Try.underlying55
 have HR0_1:=Aside0.mk hr0_1
 have HC0_1:=Aside0.mk hc0_1
 clear hr0_1 hc0_1
 have HR0_2:=Aside0.mk hr0_2
 have HC0_2:=Aside0.mk hc0_2
 clear hr0_2 hc0_2
 have HB:=Aside0.mk (zbk w.heap.size w)
 have H:((spec_LetterOk.f a0_0 l0_1 l0_2).bind fun t1496=>(if t1496=true then((some (([1]:List Int):List Int)).bind fun y1497=>((spec_Great.f k a0_0 2).bind fun t1500=>(if y1497.length+t1500.length<140737488355328 then((some (y1497++t1500:List Int)).bind fun y1503=>(if y1503.length+l0_1.length<140737488355328 then((some (y1503++l0_1:List Int)).bind fun y1506=>(if y1506.length+l0_2.length<140737488355328 then(some (y1506++l0_2)) else(none))) else(none))) else(none)))) else(some (([]:List Int)))))=some r:=h
 clear h
 obtain⟨t1496,A2,H⟩:=bnd H
 by_cases c3:t1496=true
 ·subst c3
  rw[if_pos rfl] at H
  obtain⟨y1497,hy1497⟩:∃ y_:List Int,y_=(([1]:List Int)):=⟨_,rfl⟩
  replace H:=bto hy1497 H
  have Ny1497:=Aside0.mk hy1497
  clear hy1497
  obtain⟨t1500,A4,H⟩:=bnd H
  by_cases c5:y1497.length+t1500.length<140737488355328
  ·rw[if_pos c5] at H
   have LMc5:=Aside0.mk c5
   clear c5
   obtain⟨y1503,hy1503⟩:∃ y_:List Int,y_=(y1497++t1500):=⟨_,rfl⟩
   replace H:=bto hy1503 H
   have Ny1503:=Aside0.mk hy1503
   clear hy1503
   by_cases c6:y1503.length+l0_1.length<140737488355328
   ·rw[if_pos c6] at H
    have LMc6:=Aside0.mk c6
    clear c6
    obtain⟨y1506,hy1506⟩:∃ y_:List Int,y_=(y1503++l0_1):=⟨_,rfl⟩
    replace H:=bto hy1506 H
    have Ny1506:=Aside0.mk hy1506
    clear hy1506
    by_cases c7:y1506.length+l0_2.length<140737488355328
    ·rw[if_pos c7] at H
     have LMc7:=Aside0.mk c7
     clear c7
     obtain⟨y1509,hy1509⟩:∃ y_:List Int,y_=(y1506++l0_2):=⟨_,rfl⟩
     replace H:(some y1509)=some r:=jrw hy1509 H
     have Ny1509:=Aside0.mk hy1509
     clear hy1509
     obtain rfl:=Option.some.inj H
     exact spec_LetterBytes.wk
    rw[if_neg c7] at H
    exact absurd H (by simp)
   rw[if_neg c6] at H
   exact absurd H (by simp)
  rw[if_neg c5] at H
  exact absurd H (by simp)
 replace c3:=zds.mpr c3
 subst c3
 rw[if_neg (show ¬(false=true) by decide)] at H
 obtain⟨y1512,hy1512⟩:∃ y_:List Int,y_=(([]:List Int)):=⟨_,rfl⟩
 replace H:(some y1512)=some r:=jrw hy1512 H
 have Ny1512:=Aside0.mk hy1512
 clear hy1512
 obtain rfl:=Option.some.inj H
 exact spec_LetterBytes.wk
end Go.Proofs.Ytienlgcjohpphaa.P
