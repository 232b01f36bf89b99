import Derived.Test.Ytienlgcjohpphaale4
namespace Go.Proofs.Ytienlgcjohpphaa.P
open Go.RowKit Go.Proofs.YtienlgcjohpphaaW.PrintWords Go.Proofs.YtienlgcjohpphaaW.PrintLast Go.Proofs.YtienlgcjohpphaaW.PrintMore
attribute [local go_sem] zcn zco zdk zdl zce zcf zcp zcq -- for this text's walks alone
set_option linter.unusedVariables false
set_option linter.unusedSimpArgs false

def spec_LetterOf.f (l0:List Int):Option (Int×List Int×List Int×Bool):=if(l0.length:Int)<51 then(some (0,([]:List Int),([]:List Int),false)) else(if(l0.length:Int)>1551 then(some (0,([]:List Int),([]:List Int),false)) else(if 0<(l0.length:Int) then(if(rd l0 0)=1 then(if 1<(l0.length:Int) then(if 2<(l0.length:Int) then((some (([]:List Int):List Int)).bind fun y1545=>(if 3≤35 then(if 35≤(l0.length:Int) then(if y1545.length+((l0.take 35).drop 3).length<140737488355328 then((some (([]:List Int):List Int)).bind fun y1552=>(if y1552.length+(l0.drop 35).length<140737488355328 then(some (wrap64 ((wrap64 (256*(wrap64 (rd l0 1))))+(wrap64 (rd l0 2))),(y1545++((l0.take 35).drop 3)),(y1552++(l0.drop 35)),true)) else(none))) else(none)) else(none)) else(none))) else(none)) else(none)) else(some (0,([]:List Int),([]:List Int),false))) else(none)))
def spec_LetterOf.T3:Bool×List (List Nat×List Nat):=(true,[([],[]),([0],[0]),([1],[1]),([2],[2]),([3],[3]),([],[]),([5],[5]),([6],[6]),([7],[7]),([4,8],[4,8]),([],[]),([],[]),([11],[11]),([10,12],[10,12]),([],[]),([],[]),([15],[15]),([14,16,13],[14,16]),([9,13,17],[9,13,17]),([18,17,0,1,2,3,4,5,6,7,8,9,10,11,12,13,14,15,16,17,18],[18]),([19,0,1,2,3,4,5,6,7,8,9,10,11,12,13,14,15,16,17,18,19],[])])
def spec_LetterOf.B3:List Nat:=[0,1,3,7,15,0,32,96,224,511,0,0,2048,7168,0,0,32768,130048,262143,524287,1048575]
theorem spec_LetterOf.tab3:rtab .any (opsOf Try.f60 3)=spec_LetterOf.T3:=by kernel_rfl
theorem spec_LetterOf.bits3:waitsOk spec_LetterOf.T3.2 spec_LetterOf.B3=true:=by kernel_rfl
set_option maxHeartbeats 8000000 in
set_option maxRecDepth 100000 in
theorem spec_LetterOf.calls (A0:Option Addr) (c0:Nat) (l0:List Int) (r1:Int) (r2:List Int) (r3:List Int) (r4:Bool) (w:World) (hr0:Kd.C (Kd.int .u8) w A0 l0.length l0) (hc0:l0.length≤c0) (h:spec_LetterOf.f l0=some (r1,r2,r3,r4)):
  Calls Try.prog 60 #[.slice A0 l0.length c0] w fun e w'=>∃ v1_ v2_:Value,e= .returned (.tuple #[.agg #[.int .i64 r1,v1_,v2_], .bool r4])∧Kd.R (Kd.int .u8) 5 w' w.heap.size (fun k_=>some k_≠(v2_:Value).ownBlock) v1_ r2∧Kd.R (Kd.int .u8) 5 w' w.heap.size (fun k_=>some k_≠(v1_:Value).ownBlock) v2_ r3∧Below w.heap.size w w':=by
 have hu55:=Try.underlying55
 have HR0:=Aside0.mk hr0
 have HC0:=Aside0.mk hc0
 clear hr0 hc0
 have HB:=Aside0.mk (zbk w.heap.size w)
 have H:(if(l0.length:Int)<51 then(some (0,([]:List Int),([]:List Int),false)) else(if(l0.length:Int)>1551 then(some (0,([]:List Int),([]:List Int),false)) else(if 0<(l0.length:Int) then(if(rd l0 0)=1 then(if 1<(l0.length:Int) then(if 2<(l0.length:Int) then((some (([]:List Int):List Int)).bind fun y1545=>(if 3≤35 then(if 35≤(l0.length:Int) then(if y1545.length+((l0.take 35).drop 3).length<140737488355328 then((some (([]:List Int):List Int)).bind fun y1552=>(if y1552.length+(l0.drop 35).length<140737488355328 then(some (wrap64 ((wrap64 (256*(wrap64 (rd l0 1))))+(wrap64 (rd l0 2))),(y1545++((l0.take 35).drop 3)),(y1552++(l0.drop 35)),true)) else(none))) else(none)) else(none)) else(none))) else(none)) else(none)) else(some (0,([]:List Int),([]:List Int),false))) else(none))))=some (r1,r2,r3,r4):=h
 clear h
 by_cases c2:(l0.length:Int)<51
 ·rw[if_pos c2] at H
  have c2b0:=zab c2
  have c2b1:decide (l0.length<51)=true:=zab (by omega)
  clear c2
  simp only[zcb,zcu] at H
  obtain⟨rfl,rfl,rfl,rfl⟩:=H
  go_enter Try.func60,Try.ntmps60
  go_wp2_with (first | (refine jgd 2 ?_;(try(refine zdt (by rfl) ?_;dsimp only));refine bx 2 (#[.int .i64 0, .slice none 0 0, .slice none 0 0]) 55 ?_;intro gb1541 hg w3 hbox hb;have xb_:=below_ofs bq hb;have n_:=jA4 (zal xb_ hb) (hbox) (ge0 hg xb_:w.heap.size≤gb1541) (ge0 hg xb_:w.heap.size≤gb1541);clear HB;obtain⟨HB,BK1541,GW1541,GE1541⟩:=n_;clear xb_ hb hbox hg;have hcz4_0:w3.cell? ⟨gb1541,0,none⟩=some (.int .i64 0):=(zbd BK1541.out 0).trans rfl;have hcz4_1:w3.cell? ⟨gb1541,1,none⟩=some (.slice none 0 0):=(zbd BK1541.out 1).trans rfl;have hcz4_2:w3.cell? ⟨gb1541,2,none⟩=some (.slice none 0 0):=(zbd BK1541.out 2).trans rfl;have hfz4_0:=zaw BK1541.out 0;have hfz4_1:=zaw BK1541.out 1;have hfz4_2:=zaw BK1541.out 2))
  refine zfw (results_ct rfl _ _ gb1541 55 #[.int .i64 0, .slice none 0 0, .slice none 0 0] (0,0) _ rfl (by(with_reducible repeat(first | refine zbl ?_ _ | refine zbr ?_ | refine zbm ?_ _));refine zed (cs:= #[.int .i64 0, .slice none 0 0, .slice none 0 0]) ?_ 2 _ rfl;(with_reducible repeat(first | refine zbl ?_ _ | refine zbr ?_ | refine zbm ?_ _));refine zed (cs:= #[.int .i64 0, .slice none 0 0, .slice none 0 0]) ?_ 1 _ rfl;(with_reducible repeat(first | refine zbl ?_ _ | refine zbr ?_ | refine zbm ?_ _));refine zed (cs:= #[.int .i64 0, .slice none 0 0, .slice none 0 0]) ?_ 0 _ rfl;(with_reducible repeat(first | refine zbl ?_ _ | refine zbr ?_ | refine zbm ?_ _));exact BK1541.out) Try.underlying55 rfl (by kernel_rfl)) rfl ?_
  exact⟨_,_,jex,by first | exact Kd.R_nil _ _ _ _ _ | exact Kd.N_nil _ _ _ _ _ | exact Kd.V_nil _ _ _ _ _ | exact Kd.Q_nil _ _ _ _ _ | exact Kd.S_nil _ _ _ _ _,by first | exact Kd.R_nil _ _ _ _ _ | exact Kd.N_nil _ _ _ _ _ | exact Kd.V_nil _ _ _ _ _ | exact Kd.Q_nil _ _ _ _ _ | exact Kd.S_nil _ _ _ _ _,(bs1 GE1541.out)⟩
 rw[if_neg c2] at H
 have c2b0:=zbj c2
 have c2b1:decide (l0.length<51)=false:=zbj (by omega)
 clear c2
 by_cases c5:(l0.length:Int)>1551
 ·rw[if_pos c5] at H
  have c5b0:=zab c5
  have c5b1:decide (1551<l0.length)=true:=zab (by omega)
  clear c5
  simp only[zcb,zcu] at H
  obtain⟨rfl,rfl,rfl,rfl⟩:=H
  go_enter Try.func60,Try.ntmps60
  go_wp2_with (first | (refine jgd 2 ?_;(try(refine zdt (by rfl) ?_;dsimp only));refine bx 2 (#[.int .i64 0, .slice none 0 0, .slice none 0 0]) 55 ?_;intro gb1541 hg w6 hbox hb;have xb_:=below_ofs bq hb;have n_:=jA4 (zal xb_ hb) (hbox) (ge0 hg xb_:w.heap.size≤gb1541) (ge0 hg xb_:w.heap.size≤gb1541);clear HB;obtain⟨HB,BK1541,GW1541,GE1541⟩:=n_;clear xb_ hb hbox hg;have hcz7_0:w6.cell? ⟨gb1541,0,none⟩=some (.int .i64 0):=(zbd BK1541.out 0).trans rfl;have hcz7_1:w6.cell? ⟨gb1541,1,none⟩=some (.slice none 0 0):=(zbd BK1541.out 1).trans rfl;have hcz7_2:w6.cell? ⟨gb1541,2,none⟩=some (.slice none 0 0):=(zbd BK1541.out 2).trans rfl;have hfz7_0:=zaw BK1541.out 0;have hfz7_1:=zaw BK1541.out 1;have hfz7_2:=zaw BK1541.out 2))
  refine zfw (results_ct rfl _ _ gb1541 55 #[.int .i64 0, .slice none 0 0, .slice none 0 0] (0,0) _ rfl (by(with_reducible repeat(first | refine zbl ?_ _ | refine zbr ?_ | refine zbm ?_ _));refine zed (cs:= #[.int .i64 0, .slice none 0 0, .slice none 0 0]) ?_ 2 _ rfl;(with_reducible repeat(first | refine zbl ?_ _ | refine zbr ?_ | refine zbm ?_ _));refine zed (cs:= #[.int .i64 0, .slice none 0 0, .slice none 0 0]) ?_ 1 _ rfl;(with_reducible repeat(first | refine zbl ?_ _ | refine zbr ?_ | refine zbm ?_ _));refine zed (cs:= #[.int .i64 0, .slice none 0 0, .slice none 0 0]) ?_ 0 _ rfl;(with_reducible repeat(first | refine zbl ?_ _ | refine zbr ?_ | refine zbm ?_ _));exact BK1541.out) Try.underlying55 rfl (by kernel_rfl)) rfl ?_
  exact⟨_,_,jex,by first | exact Kd.R_nil _ _ _ _ _ | exact Kd.N_nil _ _ _ _ _ | exact Kd.V_nil _ _ _ _ _ | exact Kd.Q_nil _ _ _ _ _ | exact Kd.S_nil _ _ _ _ _,by first | exact Kd.R_nil _ _ _ _ _ | exact Kd.N_nil _ _ _ _ _ | exact Kd.V_nil _ _ _ _ _ | exact Kd.Q_nil _ _ _ _ _ | exact Kd.S_nil _ _ _ _ _,(bs1 GE1541.out)⟩
 rw[if_neg c5] at H
 have c5b0:=zbj c5
 have c5b1:decide (1551<l0.length)=false:=zbj (by omega)
 clear c5
 by_cases c8:0<(l0.length:Int)
 ·rw[if_pos c8] at H
  have c8b0:=zab c8
  have c8b1:decide (0<l0.length)=true:=zab (by omega)
  clear c8
  by_cases c9:(rd l0 0)=1
  ·rw[if_pos c9] at H
   have c9b0:=beqT c9
   have c9b1:=zdm.mpr c9
   clear c9
   by_cases c10:1<(l0.length:Int)
   ·rw[if_pos c10] at H
    have c10b0:=zab c10
    have c10b1:decide (1<l0.length)=true:=zab (by omega)
    clear c10
    by_cases c11:2<(l0.length:Int)
    ·rw[if_pos c11] at H
     have c11b0:=zab c11
     have c11b1:decide (2<l0.length)=true:=zab (by omega)
     clear c11
     obtain⟨y1545,hy1545⟩:∃ y_:List Int,y_=(([]:List Int)):=⟨_,rfl⟩
     replace H:=bto hy1545 H
     have Ny1545:=Aside0.mk hy1545
     clear hy1545
     by_cases c12:3≤35
     ·rw[if_pos c12] at H
      have c12b0:=zas c12
      have c12b1:=zab c12
      clear c12
      by_cases c13:35≤(l0.length:Int)
      ·rw[if_pos c13] at H
       have c13b0:=zas c13
       have c13b1:=zab c13
       clear c13
       by_cases c14:y1545.length+((l0.take 35).drop 3).length<140737488355328
       ·rw[if_pos c14] at H
        have LMc14:=Aside0.mk c14
        clear c14
        obtain⟨y1549,hy1549⟩:∃ y_:List Int,y_=(y1545++((l0.take 35).drop 3)):=⟨_,rfl⟩
        replace H:((some (([]:List Int):List Int)).bind fun y1552=>(if y1552.length+(l0.drop 35).length<140737488355328 then(some (wrap64 ((wrap64 (256*(wrap64 (rd l0 1))))+(wrap64 (rd l0 2))),y1549,(y1552++(l0.drop 35)),true)) else(none)))=some (r1,r2,r3,r4):=jrw hy1549 H
        have Ny1549:=Aside0.mk hy1549
        clear hy1549
        obtain⟨y1552,hy1552⟩:∃ y_:List Int,y_=(([]:List Int)):=⟨_,rfl⟩
        replace H:=bto hy1552 H
        have Ny1552:=Aside0.mk hy1552
        clear hy1552
        have c15b0:=zas (zad jab:35≤(l0.length:Int))
        by_cases c16:y1552.length+(l0.drop 35).length<140737488355328
        ·rw[if_pos c16] at H
         have LMc16:=Aside0.mk c16
         clear c16
         obtain⟨y1556,hy1556⟩:∃ y_:List Int,y_=(y1552++(l0.drop 35)):=⟨_,rfl⟩
         replace H:(some (wrap64 ((wrap64 (256*(wrap64 (rd l0 1))))+(wrap64 (rd l0 2))),y1549,y1556,true))=some (r1,r2,r3,r4):=jrw hy1556 H
         have Ny1556:=Aside0.mk hy1556
         clear hy1556
         simp only[zcb,zcu] at H
         obtain⟨rfl,rfl,rfl,rfl⟩:=H
         go_enter Try.func60,Try.ntmps60
         try go_wp2_with (first | (refine jgd 2 ?_;(try(refine zdt (by rfl) ?_;dsimp only));refine bx 2 (#[.int .i64 0, .slice none 0 0, .slice none 0 0]) 55 ?_;intro gb1541 hg w17 hbox hb;have n_:=jA4 (zal bq hb) (hbox) (ge0 hg bq:w.heap.size≤gb1541) (ge0 hg bq:w.heap.size≤gb1541);clear HB;obtain⟨HB,BK1541,GW1541,GE1541⟩:=n_;clear hb hbox hg;have p1542:0≤(0:Int):=(by omega);have q1542:0<(l0.length:Int):=zad jab;obtain⟨ad1542,e1542,hx1542_0⟩:=zcd HR0.out 0 p1542 q1542;cases e1542;have qi1542:(0<l0.length)=True:=zas (by omega);(try rw[show((0:Int)).toNat=0 from rfl] at hx1542_0);(try rw[zfm] at hx1542_0);replace hx1542_0:=jcB HB.out hx1542_0;replace p1542:=zas p1542;replace q1542:=zas q1542))
         have n_:=jA2 (zbr BK1541.out) (zay HB.out)
         clear BK1541 HB
         obtain⟨BK1541,HB⟩:=n_
         have p1543:0≤(1:Int):=(by omega)
         have q1543:1<(l0.length:Int):=zad jab
         obtain⟨ad1543,e1543,hx1543_0⟩:=zcd HR0.out 1 p1543 q1543
         have hw1543_0:=hx1543_0
         (try rw[show((1:Int)).toNat=1 from rfl] at hw1543_0)
         (try rw[show 1*1=1 from rfl] at hw1543_0)
         (try simp only[Nat.reduceMul,Nat.reduceEqDiff,Go.Addr.add, ↓reduceIte] at hw1543_0)
         obtain rfl:ad1542=ad1543:=(by injection e1543)
         (try simp only[show(1:Int).toNat=1 from rfl,Nat.reduceMul,Nat.reduceEqDiff,Go.Addr.add, ↓reduceIte] at hx1543_0)
         have qi1543:(1<l0.length)=True:=zas (by omega)
         (try rw[show((1:Int)).toNat=1 from rfl] at hx1543_0)
         replace hx1543_0:=jcB HB.out hx1543_0
         replace p1543:=zas p1543
         replace q1543:=zas q1543
         have p1544:0≤(2:Int):=(by omega)
         have q1544:2<(l0.length:Int):=zad jab
         obtain⟨ad1544,e1544,hx1544_0⟩:=zcd HR0.out 2 p1544 q1544
         have hw1544_0:=hx1544_0
         (try rw[show((2:Int)).toNat=2 from rfl] at hw1544_0)
         (try rw[show 2*1=2 from rfl] at hw1544_0)
         (try simp only[Nat.reduceMul,Nat.reduceEqDiff,Go.Addr.add, ↓reduceIte] at hw1544_0)
         obtain rfl:ad1542=ad1544:=(by injection e1544)
         (try simp only[show(2:Int).toNat=2 from rfl,Nat.reduceMul,Nat.reduceEqDiff,Go.Addr.add, ↓reduceIte] at hx1544_0)
         have qi1544:(2<l0.length)=True:=zas (by omega)
         (try rw[show((2:Int)).toNat=2 from rfl] at hx1544_0)
         replace hx1544_0:=jcB HB.out hx1544_0
         replace p1544:=zas p1544
         replace q1544:=zas q1544
         obtain⟨i019,hi019,_,hsz19,_⟩:=info_parts info5
         obtain⟨A19,hcut19,hA19,hC19⟩:=print_mid_of (P:=Try.prog) (Value.int .u8) 0 23 5 .i64 .i64 Try.underlying23 hi019 hsz19 (some ad1542) c0 l0 3 35 (by omega) (by first | omega | exact zad jab) (zad jab) HC0.out
         have HR1548:=Aside0.mk (Kd.C_of_reads (h1:=fun _=>rfl) (hA19 _ (Kd.reads_of_C HR0.out)))
         have HC1548:=Aside0.mk hC19
         clear hA19 hC19 hi019 hsz19
         obtain⟨i020,hi020,_,hsz20,_⟩:=info_parts info5
         obtain⟨A20,hcut20,hA20,hC20⟩:=print_drop_of (P:=Try.prog) (Value.int .u8) 0 23 5 .i64 Try.underlying23 hi020 hsz20 (some ad1542) c0 l0 35 (by omega) (zad jab) HC0.out
         have HR1555:=Aside0.mk (Kd.C_of_reads (h1:=fun _=>rfl) (hA20 _ (Kd.reads_of_C HR0.out)))
         have HC1555:=Aside0.mk hC20
         clear hA20 hC20 hi020 hsz20
         refine start_ (n:=21) (S:=fun w'=>w'.cell? ⟨ad1542.block,ad1542.off+1,none⟩=some (.int .u8 (rd l0 1))∧w'.cell? ⟨ad1542.block,ad1542.off+2,none⟩=some (.int .u8 (rd l0 2))) (ds:=[]) #[false,false,false,false,false,false,false,false,false,false,false,false,false,false,false,false,false,false,false,false,false] (by kernel_rfl) rfl rfl ⟨(jcB HB.out hw1543_0:),(jcB HB.out hw1544_0:)⟩ (fun hHeld=>?_);refine zgh spec_LetterOf.tab3 spec_LetterOf.bits3 (fun HT_ HW_=>?_)
         generalize w17.drew=w18 at BK1541 HB HR1548 HR1555 hx1543_0 hx1544_0 hHeld ⊢
         refine pu 0 19 HT_.out ?_
         refine pu 1 20 HT_.out ?_
         refine pu 5 24 HT_.out ?_
         refine pu 6 25 HT_.out ?_
         refine pu 11 30 HT_.out ?_
         refine pu 12 31 HT_.out ?_
         refine pu 15 34 HT_.out ?_
         refine pu 16 35 HT_.out ?_
         refine tk 2 21 HT_.out HW_.out hHeld ?_
         refine pu 3 22 HT_.out ?_
         refine pu 4 23 HT_.out ?_
         refine tk 7 26 HT_.out HW_.out hHeld ?_
         refine pu 8 27 HT_.out ?_
         refine pu 9 28 HT_.out ?_
         refine join_ (σ:=Value×Value×Value) 4 #[true,true,true,true,true,true,true,true,true,true,true,true,true,true,true,true,true,false,false,false,false] (fun s_=>[(29,s_.1),(32,s_.2.1),(33,s_.2.2)]) (fun s_ w'=>(w'.cell? ⟨ad1542.block,ad1542.off+1,none⟩=some (.int .u8 (rd l0 1))∧w'.cell? ⟨ad1542.block,ad1542.off+2,none⟩=some (.int .u8 (rd l0 2)))∧(Kd.R (Kd.int .u8) 5 w' w.heap.size (fun k_=>some k_≠(s_.2.2:Value).ownBlock) s_.2.1 y1549)∧(Kd.R (Kd.int .u8) 5 w' w.heap.size (fun k_=>some k_≠(s_.2.1:Value).ownBlock) s_.2.2 y1552)∧(w'.heap[gb1541]? =some (.cells #[.int .i64 0, .slice none 0 0, .slice none 0 0] 55 (0,0)))∧(Below w.heap.size w w')) ?_ ?_
         rotate_left
         ·intro hCont
          refine two_ (i:=10) (j:=14) (Ni:=some 29) (Nj:=some 33) #[true,true,true,true,true,true,true,true,true,true,true,true,true,false,false,true,true,false,false,false,false] #[true,true,true,true,true,true,true,true,true,true,false,true,true,false,true,true,true,false,false,false,false] rfl rfl rfl rfl (two_of HT_.out (by kernel_rfl)) (by decide) (by decide) (fun K hK=>?_) (fun K hK=>?_)
          ·skip
           refine Kd.R_lit_step (Kd.int .u8) _ 5 ?hg (N:=29) ?hd (xs:=([]:List Int)) (inner:=[]) (ok:=fun _=>True) (okp:=fun _=>True) ?hr ?hp (fun _ hk=>hk) trivial (zbk _ _) (zav _) (by simp) ?_;(case hd=>rfl);(case hg=>rfl);(case hr=>first | (go_simp;done) | (go_simp;rfl));(case hp=>exact(zeb _ _))
           intro v1546 w21 ho22 hb hg_ hnew_
           clear hg_ hnew_
           (first | rw[← Ny1545.out] at ho22 | (simp only[Int.reduceToNat] at ho22;rw[← Ny1545.out] at ho22))
           have n_:=jA3 (zaq ho22 (zah (bs1 GE1541.out))) (jbb BK1541.out hb) (zal (bs1 GE1541.out) hb)
           clear BK1541 HB
           obtain⟨HO1547,BK1541,HB⟩:=n_
           clear hb ho22
           refine hK.out _ _ ⟨(jcB HB.out hw1543_0:),(jcB HB.out hw1544_0:)⟩ (fun hHeld=>?_)
           clear hK K
           refine norm_ (a':=?_) ?_ ?_
           rotate_left
           ·show Act.put _ (some 29) _=_
            simp only[Act.put,zaa,zae,zaf,i64_w,i32_w]
            rfl
           refine two_ (i:=13) (j:=14) (Ni:=some 32) (Nj:=some 33) #[true,true,true,true,true,true,true,true,true,true,true,true,true,true,false,true,true,false,false,false,false] #[true,true,true,true,true,true,true,true,true,true,true,true,true,false,true,true,true,false,false,false,false] rfl rfl rfl rfl (two_of HT_.out (by kernel_rfl)) (by decide) (by decide) (fun K hK=>?_) (fun K hK=>?_)
           ·skip
            refine Kd.R_append_rows_step (Kd.int .u8) (w0:=w) w.heap.size (by rfl) (.tmp 29) (.tmp 31) 23 5 (.int .u8 0) 1 rfl Try.underlying23 info5 rfl (by decide) (by omega) v1546 y1545 ((l0.take 35).drop 3) _ _ _ (fun _=>True) (fun _=>False) rfl rfl ?aO ?aR (fun _ _ h=>h) (fun _ h=>h.elim) ?aF ?aB ?aS ?aL ?_
            (case aR=>first | (rw[← show((l0.take 35).drop 3).length=(35 - 3) from(by rw[zdb,zdc];have h_:(35:Int)≤(l0.length:Int):=zad jab;omega)];exact jcs HR1548.out) | (rw[show(min 35 l0.length - 3)=((l0.take 35).drop 3).length from(by rw[zdb,zdc])];exact jcs HR1548.out) | (exact jcs HR1548.out))
            (case aB=>exact(bs1 GE1541.out))
            (case aF=>exact(fun _ _=>trivial))
            (case aO=>exact(pR HO1547.out))
            (case aS=>exact(zah (bs1 GE1541.out)))
            (case aL=>have:=LMc14.out;have hlx_:=(show((l0.take 35).drop 3).length=(35 - 3) from(by rw[zdb,zdc];have h_:(35:Int)≤(l0.length:Int):=zad jab;omega));omega)
            intro v1550 w23 ho hb hg hat
            rw[← Ny1549.out] at ho
            have n_:=jA3 (blk_grown (pB BK1541.out) hg (Kd.R_ne HO1547.out BK1541.out (by decide))) (hb) (ho)
            clear BK1541 HB HO1547
            obtain⟨BK1541,HB,HO1551⟩:=n_
            clear ho hb hg hat
            refine hK.out _ _ ⟨(jcB HB.out hw1543_0:),(jcB HB.out hw1544_0:)⟩ (fun hHeld=>?_)
            clear hK K
            refine norm_ (a':=?_) ?_ ?_
            rotate_left
            ·show Act.put _ (some 32) _=_
             simp only[Act.put,zaa,zae,zaf,i64_w,i32_w]
             rfl
            refine one_ (i:=14) (N:=some 33) #[true,true,true,true,true,true,true,true,true,true,true,true,true,true,true,true,true,false,false,false,false] rfl rfl (one_of HT_.out (by kernel_rfl)) (by decide) (fun K hK=>?_)
            refine Kd.R_lit_step (Kd.int .u8) _ 5 ?hg (N:=33) ?hd (xs:=([]:List Int)) (inner:=[]) (ok:=fun _=>True) (okp:=fun _=>True) ?hr ?hp (fun _ hk=>hk) trivial (zbk _ _) (zav _) (by simp) ?_;(case hd=>rfl);(case hg=>rfl);(case hr=>first | (go_simp;done) | (go_simp;rfl));(case hp=>exact(zeb _ _))
            intro v1553 w24 ho25 hb hg_ hnew_
            clear hg_ hnew_
            (first | rw[← Ny1552.out] at ho25 | (simp only[Int.reduceToNat] at ho25;rw[← Ny1552.out] at ho25))
            have n_:=jA4 (zbp (pR HO1551.out) (zba ho25) hb) (zaq (zby ho25 (zca (pR HO1551.out))) (zah (bs1 GE1541.out))) (jbb BK1541.out hb) (zal (bs1 GE1541.out) hb)
            clear HO1551 BK1541 HB
            obtain⟨HO1551,HO1554,BK1541,HB⟩:=n_
            clear hb ho25
            refine hK.out _ _ ⟨(jcB HB.out hw1543_0:),(jcB HB.out hw1544_0:)⟩ (fun hHeld=>?_)
            clear hK K
            refine norm_ (a':=?_) ?_ ?_
            rotate_left
            ·show Act.put _ (some 33) _=_
             simp only[Act.put,zaa,zae,zaf,i64_w,i32_w]
             rfl
            exact norm_ (by simp only[putAll,Act.put,zaa,zae,zaf]) (hCont (v1546,v1550,v1553) _ ⟨hHeld,(by(with_reducible repeat(first | apply zat | apply zau | apply zar));exact zao HO1551.out (fun _ hk=>hk.2)),(by(with_reducible repeat(first | apply zat | apply zau | apply zar));exact zao HO1554.out (fun _ hk=>hk.2)),(pB BK1541.out),(bs1 GE1541.out)⟩)
           skip
           refine Kd.R_lit_step (Kd.int .u8) _ 5 ?hg (N:=33) ?hd (xs:=([]:List Int)) (inner:=[]) (ok:=fun _=>True) (okp:=fun _=>True) ?hr ?hp (fun _ hk=>hk) trivial (zbk _ _) (zav _) (by simp) ?_;(case hd=>rfl);(case hg=>rfl);(case hr=>first | (go_simp;done) | (go_simp;rfl));(case hp=>exact(zeb _ _))
           intro v1553 w23 ho24 hb hg_ hnew_
           clear hg_ hnew_
           (first | rw[← Ny1552.out] at ho24 | (simp only[Int.reduceToNat] at ho24;rw[← Ny1552.out] at ho24))
           have n_:=jA4 (zbp (pR HO1547.out) (zba ho24) hb) (zaq (zby ho24 (zca (pR HO1547.out))) (zah (bs1 GE1541.out))) (jbb BK1541.out hb) (zal (bs1 GE1541.out) hb)
           clear HO1547 BK1541 HB
           obtain⟨HO1547,HO1554,BK1541,HB⟩:=n_
           clear hb ho24
           refine hK.out _ _ ⟨(jcB HB.out hw1543_0:),(jcB HB.out hw1544_0:)⟩ (fun hHeld=>?_)
           clear hK K
           refine norm_ (a':=?_) ?_ ?_
           rotate_left
           ·show Act.put _ (some 33) _=_
            simp only[Act.put,zaa,zae,zaf,i64_w,i32_w]
            rfl
           refine one_ (i:=13) (N:=some 32) #[true,true,true,true,true,true,true,true,true,true,true,true,true,true,true,true,true,false,false,false,false] rfl rfl (one_of HT_.out (by kernel_rfl)) (by decide) (fun K hK=>?_)
           refine Kd.R_append_rows_step (Kd.int .u8) (w0:=w) w.heap.size (by rfl) (.tmp 29) (.tmp 31) 23 5 (.int .u8 0) 1 rfl Try.underlying23 info5 rfl (by decide) (by omega) v1546 y1545 ((l0.take 35).drop 3) _ _ _ (fun k_=>some k_≠(v1553:Value).ownBlock) (fun _=>False) rfl rfl ?aO ?aR (fun _ _ h=>h) (fun _ h=>h.elim) ?aF ?aB ?aS ?aL ?_
           (case aR=>first | (rw[← show((l0.take 35).drop 3).length=(35 - 3) from(by rw[zdb,zdc];have h_:(35:Int)≤(l0.length:Int):=zad jab;omega)];exact jcs HR1548.out) | (rw[show(min 35 l0.length - 3)=((l0.take 35).drop 3).length from(by rw[zdb,zdc])];exact jcs HR1548.out) | (exact jcs HR1548.out))
           (case aB=>exact(bs1 GE1541.out))
           (case aF=>exact(fun k_ hk=>zdv (zca (pR HO1554.out)) k_ hk))
           (case aO=>exact(by(with_reducible repeat(first | apply zat | apply zau | apply zar));exact zao HO1547.out (fun _ hk=>hk.2)))
           (case aS=>exact(zah (bs1 GE1541.out)))
           (case aL=>have:=LMc14.out;have hlx_:=(show((l0.take 35).drop 3).length=(35 - 3) from(by rw[zdb,zdc];have h_:(35:Int)≤(l0.length:Int):=zad jab;omega));omega)
           intro v1550 w25 ho hb hg hat
           rw[← Ny1549.out] at ho
           have n_:=jA4 (blk_grown (pB BK1541.out) hg (Kd.R_ne HO1547.out BK1541.out (by decide))) (zdu (ok:=(fun _=>True)) (pR HO1554.out) hg hat) (hb) (ho)
           clear BK1541 HO1554 HB HO1547
           obtain⟨BK1541,HO1554,HB,HO1551⟩:=n_
           clear ho hb hg hat
           refine hK.out _ _ ⟨(jcB HB.out hw1543_0:),(jcB HB.out hw1544_0:)⟩ (fun hHeld=>?_)
           clear hK K
           refine norm_ (a':=?_) ?_ ?_
           rotate_left
           ·show Act.put _ (some 32) _=_
            simp only[Act.put,zaa,zae,zaf,i64_w,i32_w]
            rfl
           exact norm_ (by simp only[putAll,Act.put,zaa,zae,zaf]) (hCont (v1546,v1550,v1553) _ ⟨hHeld,(pR HO1551.out),(by(with_reducible repeat(first | apply zat | apply zau | apply zar));exact zao HO1554.out (fun _ hk=>hk.2)),(pB BK1541.out),(bs1 GE1541.out)⟩)
          skip
          refine Kd.R_lit_step (Kd.int .u8) _ 5 ?hg (N:=33) ?hd (xs:=([]:List Int)) (inner:=[]) (ok:=fun _=>True) (okp:=fun _=>True) ?hr ?hp (fun _ hk=>hk) trivial (zbk _ _) (zav _) (by simp) ?_;(case hd=>rfl);(case hg=>rfl);(case hr=>first | (go_simp;done) | (go_simp;rfl));(case hp=>exact(zeb _ _))
          intro v1553 w21 ho22 hb hg_ hnew_
          clear hg_ hnew_
          (first | rw[← Ny1552.out] at ho22 | (simp only[Int.reduceToNat] at ho22;rw[← Ny1552.out] at ho22))
          have n_:=jA3 (zaq ho22 (zah (bs1 GE1541.out))) (jbb BK1541.out hb) (zal (bs1 GE1541.out) hb)
          clear BK1541 HB
          obtain⟨HO1554,BK1541,HB⟩:=n_
          clear hb ho22
          refine hK.out _ _ ⟨(jcB HB.out hw1543_0:),(jcB HB.out hw1544_0:)⟩ (fun hHeld=>?_)
          clear hK K
          refine norm_ (a':=?_) ?_ ?_
          rotate_left
          ·show Act.put _ (some 33) _=_
           simp only[Act.put,zaa,zae,zaf,i64_w,i32_w]
           rfl
          refine one_ (i:=10) (N:=some 29) #[true,true,true,true,true,true,true,true,true,true,true,true,true,false,true,true,true,false,false,false,false] rfl rfl (one_of HT_.out (by kernel_rfl)) (by decide) (fun K hK=>?_)
          refine Kd.R_lit_step (Kd.int .u8) _ 5 ?hg (N:=29) ?hd (xs:=([]:List Int)) (inner:=[]) (ok:=fun _=>True) (okp:=fun _=>True) ?hr ?hp (fun _ hk=>hk) trivial (zbk _ _) (zav _) (by simp) ?_;(case hd=>rfl);(case hg=>rfl);(case hr=>first | (go_simp;done) | (go_simp;rfl));(case hp=>exact(zeb _ _))
          intro v1546 w23 ho24 hb hg_ hnew_
          clear hg_ hnew_
          (first | rw[← Ny1545.out] at ho24 | (simp only[Int.reduceToNat] at ho24;rw[← Ny1545.out] at ho24))
          have n_:=jA4 (zbp (pR HO1554.out) (zba ho24) hb) (zaq (zby ho24 (zca (pR HO1554.out))) (zah (bs1 GE1541.out))) (jbb BK1541.out hb) (zal (bs1 GE1541.out) hb)
          clear HO1554 BK1541 HB
          obtain⟨HO1554,HO1547,BK1541,HB⟩:=n_
          clear hb ho24
          refine hK.out _ _ ⟨(jcB HB.out hw1543_0:),(jcB HB.out hw1544_0:)⟩ (fun hHeld=>?_)
          clear hK K
          refine norm_ (a':=?_) ?_ ?_
          rotate_left
          ·show Act.put _ (some 29) _=_
           simp only[Act.put,zaa,zae,zaf,i64_w,i32_w]
           rfl
          refine one_ (i:=13) (N:=some 32) #[true,true,true,true,true,true,true,true,true,true,true,true,true,true,true,true,true,false,false,false,false] rfl rfl (one_of HT_.out (by kernel_rfl)) (by decide) (fun K hK=>?_)
          refine Kd.R_append_rows_step (Kd.int .u8) (w0:=w) w.heap.size (by rfl) (.tmp 29) (.tmp 31) 23 5 (.int .u8 0) 1 rfl Try.underlying23 info5 rfl (by decide) (by omega) v1546 y1545 ((l0.take 35).drop 3) _ _ _ (fun k_=>some k_≠(v1553:Value).ownBlock) (fun _=>False) rfl rfl ?aO ?aR (fun _ _ h=>h) (fun _ h=>h.elim) ?aF ?aB ?aS ?aL ?_
          (case aR=>first | (rw[← show((l0.take 35).drop 3).length=(35 - 3) from(by rw[zdb,zdc];have h_:(35:Int)≤(l0.length:Int):=zad jab;omega)];exact jcs HR1548.out) | (rw[show(min 35 l0.length - 3)=((l0.take 35).drop 3).length from(by rw[zdb,zdc])];exact jcs HR1548.out) | (exact jcs HR1548.out))
          (case aB=>exact(bs1 GE1541.out))
          (case aF=>exact(fun k_ hk=>zdv (zca (pR HO1554.out)) k_ hk))
          (case aO=>exact(by(with_reducible repeat(first | apply zat | apply zau | apply zar));exact zao HO1547.out (fun _ hk=>hk.2)))
          (case aS=>exact(zah (bs1 GE1541.out)))
          (case aL=>have:=LMc14.out;have hlx_:=(show((l0.take 35).drop 3).length=(35 - 3) from(by rw[zdb,zdc];have h_:(35:Int)≤(l0.length:Int):=zad jab;omega));omega)
          intro v1550 w25 ho hb hg hat
          rw[← Ny1549.out] at ho
          have n_:=jA4 (blk_grown (pB BK1541.out) hg (Kd.R_ne HO1547.out BK1541.out (by decide))) (zdu (ok:=(fun _=>True)) (pR HO1554.out) hg hat) (hb) (ho)
          clear BK1541 HO1554 HB HO1547
          obtain⟨BK1541,HO1554,HB,HO1551⟩:=n_
          clear ho hb hg hat
          refine hK.out _ _ ⟨(jcB HB.out hw1543_0:),(jcB HB.out hw1544_0:)⟩ (fun hHeld=>?_)
          clear hK K
          refine norm_ (a':=?_) ?_ ?_
          rotate_left
          ·show Act.put _ (some 32) _=_
           simp only[Act.put,zaa,zae,zaf,i64_w,i32_w]
           rfl
          exact norm_ (by simp only[putAll,Act.put,zaa,zae,zaf]) (hCont (v1546,v1550,v1553) _ ⟨hHeld,(pR HO1551.out),(by(with_reducible repeat(first | apply zat | apply zau | apply zar));exact zao HO1554.out (fun _ hk=>hk.2)),(pB BK1541.out),(bs1 GE1541.out)⟩)
         rintro⟨v1546,v1550,v1553⟩ w26 ⟨hS_,h0_,h1_,h2_,h3_⟩
         have n0_:Aside0 (Kd.R (Kd.int .u8) 5 w26 w.heap.size (fun k_=>some k_≠(v1553:Value).ownBlock) v1550 y1549):=⟨h0_⟩
         have n1_:Aside0 (Kd.R (Kd.int .u8) 5 w26 w.heap.size (fun k_=>some k_≠(v1550:Value).ownBlock) v1553 y1552):=⟨h1_⟩
         have n2_:Aside0 (w26.heap[gb1541]? =some (.cells #[.int .i64 0, .slice none 0 0, .slice none 0 0] 55 (0,0))):=⟨h2_⟩
         have n3_:Aside0 (Below w.heap.size w w26):=⟨h3_⟩
         clear BK1541
         clear HB
         clear h0_ h1_ h2_ h3_
         have HO1551:=n0_
         have HO1554:=n1_
         have BK1541:=n2_
         have HB:=n3_
         clear n0_ n1_ n2_ n3_
         have hHeld:w26.cell? ⟨ad1542.block,ad1542.off+1,none⟩=some (.int .u8 (rd l0 1))∧w26.cell? ⟨ad1542.block,ad1542.off+2,none⟩=some (.int .u8 (rd l0 2)):=hS_
         refine norm_ (a':=?_) ?_ ?_
         rotate_left
         ·simp only[putAll,Act.put,zaa,zae,zaf]
          rfl
         refine one_ (i:=17) (N:=some 36) #[true,true,true,true,true,true,true,true,true,true,true,true,true,true,true,true,true,true,false,false,false] rfl rfl (one_of HT_.out (by kernel_rfl)) (by decide) (fun K hK=>?_)
         refine Kd.R_append_rows_step (Kd.int .u8) (w0:=w) w.heap.size (by rfl) (.tmp 33) (.tmp 35) 23 5 (.int .u8 0) 1 rfl Try.underlying23 info5 rfl (by decide) (by omega) v1553 y1552 (l0.drop 35) _ _ _ (fun k_=>some k_≠(v1550:Value).ownBlock) (fun _=>False) rfl rfl ?aO ?aR (fun _ _ h=>h) (fun _ h=>h.elim) ?aF ?aB ?aS ?aL ?_
         (case aR=>first | (rw[← show(l0.drop 35).length=(l0.length - 35) from zdb];exact jcs HR1555.out) | (exact jcs HR1555.out))
         (case aB=>exact(bs1 GE1541.out))
         (case aF=>exact(fun k_ hk=>zdv (zca (pR HO1551.out)) k_ hk))
         (case aO=>exact(pR HO1554.out))
         (case aS=>exact(zah (bs1 GE1541.out)))
         (case aL=>have:=LMc16.out;have hlx_:=(show(l0.drop 35).length=(l0.length - 35) from zdb);omega)
         intro v1557 w27 ho hb hg hat
         rw[← Ny1556.out] at ho
         have n_:=jA4 (blk_grown (pB BK1541.out) hg (Kd.R_ne HO1554.out BK1541.out (by decide))) (zdu (ok:=(fun _=>True)) (by(with_reducible repeat(first | apply zat | apply zau | apply zar));exact zao HO1551.out (fun _ hk=>⟨trivial,hk⟩)) hg hat) (hb) (ho)
         clear BK1541 HO1551 HB HO1554
         obtain⟨BK1541,HO1551,HB,HO1558⟩:=n_
         clear ho hb hg hat
         obtain⟨Ao28,co28,eo28⟩:=zbb HO1558.out
         (first | subst eo28 | (injection eo28 with f1_ f2_ f3_;have f4_:=f1_.symm;have f5_:=f3_.symm;clear f1_ f2_ f3_;subst f4_;subst f5_))
         obtain⟨Ao29,co29,eo29⟩:=zbb HO1551.out
         (first | subst eo29 | (injection eo29 with f1_ f2_ f3_;have f4_:=f1_.symm;have f5_:=f3_.symm;clear f1_ f2_ f3_;subst f4_;subst f5_))
         refine hK.out _ _ ⟨(jcB HB.out hw1543_0:),(jcB HB.out hw1544_0:)⟩ (fun hHeld=>?_)
         clear hK K
         refine norm_ (a':=?_) ?_ ?_
         rotate_left
         ·show Act.put _ (some 36) _=_
          simp only[Act.put,zaa,zae,zaf,i64_w,i32_w]
          rfl
         refine pu 18 37 HT_.out ?_
         refine one_ (i:=19) (N:=none) #[true,true,true,true,true,true,true,true,true,true,true,true,true,true,true,true,true,true,true,true,false] rfl rfl (one_of HT_.out (by kernel_rfl)) (by decide) (fun K hK=>?_)
         have hs30:w27.cell? ⟨gb1541,0,none⟩=some (.int .i64 0):=(zbd BK1541.out 0).trans rfl
         have hfs30:=zaw BK1541.out 0
         have hs31:w27.cell? ⟨gb1541,1,none⟩=some (.slice none 0 0):=(zbd BK1541.out 1).trans rfl
         have hfs31:=zaw BK1541.out 1
         have hs32:w27.cell? ⟨gb1541,2,none⟩=some (.slice none 0 0):=(zbd BK1541.out 2).trans rfl
         have hfs32:=zaw BK1541.out 2
         refine skip_ (w1:=?_) (by rfl) rfl ?_ ?_
         rotate_left
         ·go_simp
          rfl
         refine hK.out _ _ ⟨((cell_far (p:=⟨gb1541,_,none⟩) (by first | exact zdp (zct (by have:=World.block_lt_of_cell? _ _ hw1543_0;first | rwa [zdf] at this | exact this) GW1541.out) | (rw[zdf];exact zdp (zct (by have:=World.block_lt_of_cell? _ _ hw1543_0;first | rwa [zdf] at this | exact this) GW1541.out)) | (show(Addr.add _ _).block≠_;rw[zdf];exact zdp (zct (by have:=World.block_lt_of_cell? _ _ hw1543_0;first | rwa [zdf] at this | exact this) GW1541.out)) | (dsimp only;exact zdp (zct (by have:=World.block_lt_of_cell? _ _ hw1543_0;first | rwa [zdf] at this | exact this) GW1541.out))) _).trans (((cell_far (p:=⟨gb1541,_,none⟩) (by first | exact zdp (zct (by have:=World.block_lt_of_cell? _ _ hw1543_0;first | rwa [zdf] at this | exact this) GW1541.out) | (rw[zdf];exact zdp (zct (by have:=World.block_lt_of_cell? _ _ hw1543_0;first | rwa [zdf] at this | exact this) GW1541.out)) | (show(Addr.add _ _).block≠_;rw[zdf];exact zdp (zct (by have:=World.block_lt_of_cell? _ _ hw1543_0;first | rwa [zdf] at this | exact this) GW1541.out)) | (dsimp only;exact zdp (zct (by have:=World.block_lt_of_cell? _ _ hw1543_0;first | rwa [zdf] at this | exact this) GW1541.out))) _).trans (((cell_far (p:=⟨gb1541,_,none⟩) (by first | exact zdp (zct (by have:=World.block_lt_of_cell? _ _ hw1543_0;first | rwa [zdf] at this | exact this) GW1541.out) | (rw[zdf];exact zdp (zct (by have:=World.block_lt_of_cell? _ _ hw1543_0;first | rwa [zdf] at this | exact this) GW1541.out)) | (show(Addr.add _ _).block≠_;rw[zdf];exact zdp (zct (by have:=World.block_lt_of_cell? _ _ hw1543_0;first | rwa [zdf] at this | exact this) GW1541.out)) | (dsimp only;exact zdp (zct (by have:=World.block_lt_of_cell? _ _ hw1543_0;first | rwa [zdf] at this | exact this) GW1541.out))) _).trans (hHeld.1)))))),((cell_far (p:=⟨gb1541,_,none⟩) (by first | exact zdp (zct (by have:=World.block_lt_of_cell? _ _ hw1544_0;first | rwa [zdf] at this | exact this) GW1541.out) | (rw[zdf];exact zdp (zct (by have:=World.block_lt_of_cell? _ _ hw1544_0;first | rwa [zdf] at this | exact this) GW1541.out)) | (show(Addr.add _ _).block≠_;rw[zdf];exact zdp (zct (by have:=World.block_lt_of_cell? _ _ hw1544_0;first | rwa [zdf] at this | exact this) GW1541.out)) | (dsimp only;exact zdp (zct (by have:=World.block_lt_of_cell? _ _ hw1544_0;first | rwa [zdf] at this | exact this) GW1541.out))) _).trans (((cell_far (p:=⟨gb1541,_,none⟩) (by first | exact zdp (zct (by have:=World.block_lt_of_cell? _ _ hw1544_0;first | rwa [zdf] at this | exact this) GW1541.out) | (rw[zdf];exact zdp (zct (by have:=World.block_lt_of_cell? _ _ hw1544_0;first | rwa [zdf] at this | exact this) GW1541.out)) | (show(Addr.add _ _).block≠_;rw[zdf];exact zdp (zct (by have:=World.block_lt_of_cell? _ _ hw1544_0;first | rwa [zdf] at this | exact this) GW1541.out)) | (dsimp only;exact zdp (zct (by have:=World.block_lt_of_cell? _ _ hw1544_0;first | rwa [zdf] at this | exact this) GW1541.out))) _).trans (((cell_far (p:=⟨gb1541,_,none⟩) (by first | exact zdp (zct (by have:=World.block_lt_of_cell? _ _ hw1544_0;first | rwa [zdf] at this | exact this) GW1541.out) | (rw[zdf];exact zdp (zct (by have:=World.block_lt_of_cell? _ _ hw1544_0;first | rwa [zdf] at this | exact this) GW1541.out)) | (show(Addr.add _ _).block≠_;rw[zdf];exact zdp (zct (by have:=World.block_lt_of_cell? _ _ hw1544_0;first | rwa [zdf] at this | exact this) GW1541.out)) | (dsimp only;exact zdp (zct (by have:=World.block_lt_of_cell? _ _ hw1544_0;first | rwa [zdf] at this | exact this) GW1541.out))) _).trans (hHeld.2))))))⟩ (fun hHeld=>?_)
         clear hK K
         refine pu 20 3 HT_.out ?_
         refine done_ (done_of HT_.out (by kernel_rfl)) ?_
         try go_wp2
         refine zfw (results_ct rfl _ _ gb1541 55 #[.int .i64 (wrap64 ((wrap64 (256*(wrap64 (rd l0 1))))+(wrap64 (rd l0 2)))), .slice Ao29 y1549.length co29, .slice Ao28 y1556.length co28] (0,0) _ rfl (by(with_reducible repeat(first | refine zbl ?_ _ | refine zbr ?_ | refine zbm ?_ _));refine zed (cs:= #[.int .i64 (wrap64 ((wrap64 (256*(wrap64 (rd l0 1))))+(wrap64 (rd l0 2)))), .slice Ao29 y1549.length co29, .slice none 0 0]) ?_ 2 _ rfl;(with_reducible repeat(first | refine zbl ?_ _ | refine zbr ?_ | refine zbm ?_ _));refine zed (cs:= #[.int .i64 (wrap64 ((wrap64 (256*(wrap64 (rd l0 1))))+(wrap64 (rd l0 2)))), .slice none 0 0, .slice none 0 0]) ?_ 1 _ rfl;(with_reducible repeat(first | refine zbl ?_ _ | refine zbr ?_ | refine zbm ?_ _));refine zed (cs:= #[.int .i64 0, .slice none 0 0, .slice none 0 0]) ?_ 0 _ rfl;(with_reducible repeat(first | refine zbl ?_ _ | refine zbr ?_ | refine zbm ?_ _));exact BK1541.out) Try.underlying55 rfl (by kernel_rfl)) rfl ?_
         exact⟨_,_,jex,by(with_reducible repeat(first | apply zat | apply zau | apply zar));exact zao (zdn (p:=⟨gb1541,2,none⟩) (zdn (p:=⟨gb1541,1,none⟩) (zdn (p:=⟨gb1541,0,none⟩) (zeq HO1551.out BK1541.out (by decide)) (fun _ hk=>hk.2) (.int .i64 (wrap64 ((wrap64 (256*(wrap64 (rd l0 1))))+(wrap64 (rd l0 2)))))) (fun _ hk=>hk.2) (.slice Ao29 y1549.length co29)) (fun _ hk=>hk.2) (.slice Ao28 y1556.length co28)) (fun _ hk=>hk.1.2),by(with_reducible repeat(first | apply zat | apply zau | apply zar));exact zao (zdn (p:=⟨gb1541,2,none⟩) (zdn (p:=⟨gb1541,1,none⟩) (zdn (p:=⟨gb1541,0,none⟩) (zeq HO1558.out BK1541.out (by decide)) (fun _ hk=>hk.2) (.int .i64 (wrap64 ((wrap64 (256*(wrap64 (rd l0 1))))+(wrap64 (rd l0 2)))))) (fun _ hk=>hk.2) (.slice Ao29 y1549.length co29)) (fun _ hk=>hk.2) (.slice Ao28 y1556.length co28)) (fun _ hk=>hk.1),(bs1 GE1541.out)⟩
        rw[if_neg c16] at H
        exact absurd H (by simp)
       rw[if_neg c14] at H
       exact absurd H (by simp)
      rw[if_neg c13] at H
      exact absurd H (by simp)
     rw[if_neg c12] at H
     exact absurd H (by simp)
    rw[if_neg c11] at H
    exact absurd H (by simp)
   rw[if_neg c10] at H
   exact absurd H (by simp)
  rw[if_neg c9] at H
  have c9b0:=zcl.mpr c9
  have c9b1:=zez.mpr c9
  simp only[zcb,zcu] at H
  obtain⟨rfl,rfl,rfl,rfl⟩:=H
  go_enter Try.func60,Try.ntmps60
  go_wp2_with (first | (refine jgd 2 ?_;(try(refine zdt (by rfl) ?_;dsimp only));refine bx 2 (#[.int .i64 0, .slice none 0 0, .slice none 0 0]) 55 ?_;intro gb1541 hg w33 hbox hb;have xb_:=below_ofs bq hb;have n_:=jA4 (zal xb_ hb) (hbox) (ge0 hg xb_:w.heap.size≤gb1541) (ge0 hg xb_:w.heap.size≤gb1541);clear HB;obtain⟨HB,BK1541,GW1541,GE1541⟩:=n_;clear xb_ hb hbox hg;have p1542:0≤(0:Int):=(by omega);have q1542:0<(l0.length:Int):=zad jab;obtain⟨ad1542,e1542,hx1542_0⟩:=zcd HR0.out 0 p1542 q1542;cases e1542;have qi1542:(0<l0.length)=True:=zas (by omega);(try rw[show((0:Int)).toNat=0 from rfl] at hx1542_0);(try rw[zfm] at hx1542_0);replace hx1542_0:=jcB HB.out hx1542_0;replace p1542:=zas p1542;replace q1542:=zas q1542;have hcz34_0:w33.cell? ⟨gb1541,0,none⟩=some (.int .i64 0):=(zbd BK1541.out 0).trans rfl;have hcz34_1:w33.cell? ⟨gb1541,1,none⟩=some (.slice none 0 0):=(zbd BK1541.out 1).trans rfl;have hcz34_2:w33.cell? ⟨gb1541,2,none⟩=some (.slice none 0 0):=(zbd BK1541.out 2).trans rfl;have hfz34_0:=zaw BK1541.out 0;have hfz34_1:=zaw BK1541.out 1;have hfz34_2:=zaw BK1541.out 2))
  refine zfw (results_ct rfl _ _ gb1541 55 #[.int .i64 0, .slice none 0 0, .slice none 0 0] (0,0) _ rfl (by(with_reducible repeat(first | refine zbl ?_ _ | refine zbr ?_ | refine zbm ?_ _));refine zed (cs:= #[.int .i64 0, .slice none 0 0, .slice none 0 0]) ?_ 2 _ rfl;(with_reducible repeat(first | refine zbl ?_ _ | refine zbr ?_ | refine zbm ?_ _));refine zed (cs:= #[.int .i64 0, .slice none 0 0, .slice none 0 0]) ?_ 1 _ rfl;(with_reducible repeat(first | refine zbl ?_ _ | refine zbr ?_ | refine zbm ?_ _));refine zed (cs:= #[.int .i64 0, .slice none 0 0, .slice none 0 0]) ?_ 0 _ rfl;(with_reducible repeat(first | refine zbl ?_ _ | refine zbr ?_ | refine zbm ?_ _));exact BK1541.out) Try.underlying55 rfl (by kernel_rfl)) rfl ?_
  exact⟨_,_,jex,by first | exact Kd.R_nil _ _ _ _ _ | exact Kd.N_nil _ _ _ _ _ | exact Kd.V_nil _ _ _ _ _ | exact Kd.Q_nil _ _ _ _ _ | exact Kd.S_nil _ _ _ _ _,by first | exact Kd.R_nil _ _ _ _ _ | exact Kd.N_nil _ _ _ _ _ | exact Kd.V_nil _ _ _ _ _ | exact Kd.Q_nil _ _ _ _ _ | exact Kd.S_nil _ _ _ _ _,(bs1 GE1541.out)⟩
 rw[if_neg c8] at H
 exact absurd H (by simp)
end Go.Proofs.Ytienlgcjohpphaa.P
