import Derived.Test.Ytienlgcjohpphaale4
namespace Go.Proofs.Ytienlgcjohpphaa.P
open Go.RowKit Go.Proofs.YtienlgcjohpphaaW.PrintWords Go.Proofs.YtienlgcjohpphaaW.PrintLast Go.Proofs.YtienlgcjohpphaaW.PrintMore
attribute [local go_sem] zcn zco zdk zdl zce zcf zcp zcq -- for this text's walks alone
set_option linter.unusedVariables false
set_option linter.unusedSimpArgs false

def spec_Words.l0:Nat→List Int→Bool→List Int→Int→Option (List Int)
 | 0,_,_,_,_=>none
 | k+1,x0,x1,x5,x6=>if(wrap64 (x6+3))<(x0.length:Int) then(if x1=true then(if 0≤x6 then(if x6<(x0.length:Int) then(if 0≤(wrap64 (x6+1)) then(if(wrap64 (x6+1))<(x0.length:Int) then(if 0≤(wrap64 (x6+2)) then(if(wrap64 (x6+2))<(x0.length:Int) then(if 0≤(wrap64 (x6+3)) then(if x5.length<17592186044416 then(spec_Words.l0 k x0 x1 (x5++[Go.bits .or .i64 (Go.bits .or .i64 (Go.bits .or .i64 (wrap64 ((wrap64 (rd x0 x6))*16777216)) (wrap64 ((wrap64 (rd x0 (wrap64 (x6+1))))*65536))) (wrap64 ((wrap64 (rd x0 (wrap64 (x6+2))))*256))) (wrap64 (rd x0 (wrap64 (x6+3))))]) (wrap64 (x6+4))) else(none)) else(none)) else(none)) else(none)) else(none)) else(none)) else(none)) else(none)) else(if 0≤(wrap64 (x6+3)) then(if 0≤(wrap64 (x6+2)) then(if(wrap64 (x6+2))<(x0.length:Int) then(if 0≤(wrap64 (x6+1)) then(if(wrap64 (x6+1))<(x0.length:Int) then(if 0≤x6 then(if x6<(x0.length:Int) then(if x5.length<17592186044416 then(spec_Words.l0 k x0 x1 (x5++[Go.bits .or .i64 (Go.bits .or .i64 (Go.bits .or .i64 (wrap64 ((wrap64 (rd x0 (wrap64 (x6+3))))*16777216)) (wrap64 ((wrap64 (rd x0 (wrap64 (x6+2))))*65536))) (wrap64 ((wrap64 (rd x0 (wrap64 (x6+1))))*256))) (wrap64 (rd x0 x6))]) (wrap64 (x6+4))) else(none)) else(none)) else(none)) else(none)) else(none)) else(none)) else(none)) else(none))) else(some x5)
def spec_Words.f (k:Nat) (l0:List Int) (a1:Bool):Option (List Int):=spec_Words.l0 k l0 a1 (([]:List Int)) 0
theorem spec_Words.mono_l:∀ k,(∀ y0 y1 y2 y3,LeO (spec_Words.l0 k y0 y1 y2 y3) (spec_Words.l0 (k+1) y0 y1 y2 y3))
 | 0=>fun _ _ _ _ r h=>by simp [spec_Words.l0] at h
 | k+1=>by
  have ih0:=spec_Words.mono_l k
  intro y0 y1 y2 y3
  unfold spec_Words.l0
  exact mt
theorem spec_Words.mono:∀ a0 a1 k,LeO (spec_Words.f k a0 a1) (spec_Words.f (k+1) a0 a1):=by
 intro a0 a1 k
 have ih0:=spec_Words.mono_l k
 unfold spec_Words.f
 exact mt
def spec_Words.T6:Bool×List (List Nat×List Nat):=(true,[([],[]),([],[]),([],[]),([1,2],[1,2]),([3],[3]),([4],[4]),([5],[5]),([],[]),([],[]),([8],[8]),([7,9],[7,9]),([10],[10]),([11],[11]),([12],[12]),([6,13],[6,13]),([],[]),([],[]),([16],[16]),([15,17],[15,17]),([18],[18]),([19],[19]),([20],[20]),([14,21],[14,21]),([],[]),([],[]),([24],[24]),([23,25],[23,25]),([26],[26]),([27],[27]),([22,28],[22,28]),([29],[29]),([0,30],[0,30]),([31,31,0,1,2,3,4,5,6,7,8,9,10,11,12,13,14,15,16,17,18,19,20,21,22,23,24,25,26,27,28,29,30,31],[0,31])])
def spec_Words.B6:List Nat:=[0,0,0,6,14,30,62,0,0,256,896,1920,3968,8064,16382,0,0,65536,229376,491520,1015808,2064384,4194302,0,0,16777216,58720256,125829120,260046848,536870910,1073741822,2147483647,4294967295]
theorem spec_Words.tab6:rtab .any (opsOf Try.f100 6)=spec_Words.T6:=by kernel_rfl
theorem spec_Words.bits6:waitsOk spec_Words.T6.2 spec_Words.B6=true:=by kernel_rfl
def spec_Words.T7:Bool×List (List Nat×List Nat):=(true,[([],[]),([],[]),([],[]),([2],[2]),([1,3],[1,3]),([4],[4]),([5],[5]),([6],[6]),([],[]),([],[]),([9],[9]),([8,10],[8,10]),([11],[11]),([12],[12]),([13],[13]),([7,14],[7,14]),([],[]),([],[]),([17],[17]),([16,18],[16,18]),([19],[19]),([20],[20]),([21],[21]),([15,22],[15,22]),([],[]),([],[]),([24,25],[24,25]),([26],[26]),([27],[27]),([23,28],[23,28]),([29],[29]),([0,30],[0,30]),([31,31,0,1,2,3,4,5,6,7,8,9,10,11,12,13,14,15,16,17,18,19,20,21,22,23,24,25,26,27,28,29,30,31],[0,31])])
def spec_Words.B7:List Nat:=[0,0,0,4,14,30,62,126,0,0,512,1792,3840,7936,16128,32766,0,0,131072,458752,983040,2031616,4128768,8388606,0,0,50331648,117440512,251658240,536870910,1073741822,2147483647,4294967295]
theorem spec_Words.tab7:rtab .any (opsOf Try.f100 7)=spec_Words.T7:=by kernel_rfl
theorem spec_Words.bits7:waitsOk spec_Words.T7.2 spec_Words.B7=true:=by kernel_rfl
set_option maxHeartbeats 8000000 in
set_option maxRecDepth 100000 in
theorem spec_Words.calls (k:Nat) (A0:Option Addr) (c0:Nat) (l0:List Int) (a1:Bool) (r:List Int) (w:World) (hr0:Kd.C (Kd.int .u8) w A0 l0.length l0) (hc0:l0.length≤c0) (h:spec_Words.f k l0 a1=some r):
  Calls Try.prog 100 #[.slice A0 l0.length c0, .bool a1] w fun e w'=>∃ v0_:Value,e= .returned (v0_)∧Kd.R (Kd.int .i64) 3 w' w.heap.size (fun _=>True) v0_ r∧Below w.heap.size w w':=by
 have HR0:=Aside0.mk hr0
 have HC0:=Aside0.mk hc0
 clear hr0 hc0
 have HB:=Aside0.mk (zbk w.heap.size w)
 have H:(spec_Words.l0 k l0 a1 (([]:List Int)) 0)=some r:=h
 clear h
 obtain⟨y109,hy109⟩:∃ y_:List Int,y_=(([]:List Int)):=⟨_,rfl⟩
 replace H:(spec_Words.l0 k l0 a1 y109 0)=some r:=jrw hy109 H
 have Ny109:=Aside0.mk hy109
 clear hy109
 have H':=Aside0.mk H
 clear H
 go_enter Try.func100,Try.ntmps100
 go_wp2_with (first | (refine jgd 7 ?_;refine jlt 7 (Kd.int .i64) 3 ?_;intro v110 w3 ho4 hb;have xb_:=below_ofs bq hb;(first | rw[← Ny109.out] at ho4 | (simp only[Int.reduceToNat] at ho4;rw[← Ny109.out] at ho4));have n_:=jA2 (zaq ho4 (zah xb_)) (zal xb_ hb);clear HB;obtain⟨HO111,HB⟩:=n_;clear xb_ hb ho4))
 go_loopg [5,6] k (fun kq v5 v6 w'=>∃ (x5_1:List Int) (x6_1:Int),v6= .int .i64 x6_1∧Aside0 (spec_Words.l0 kq l0 a1 x5_1 x6_1=some r)∧Aside0 (kq≤k)∧Aside0 (Kd.R (Kd.int .i64) 3 w' w.heap.size (fun _=>True) v5 x5_1)∧Aside0 (Below w.heap.size w w'))
 case atStart=>exact⟨(y109),(0),jer,H',⟨zav _⟩,⟨pR HO111.out⟩,⟨bq⟩⟩
 case round=>
  clear H'
  try clear c1
  try clear p2
  obtain⟨x5_1,x6_1,rfl,HA,HK1,HO_5,HB⟩:=hrel
  cases gk with
  | zero=>exact absurd HA.out (by simp [spec_Words.l0])
  | succ k1=>
   have H:=HA.out
   clear HA
   simp only[spec_Words.l0] at H
   by_cases c5:(wrap64 (x6_1+3))<(l0.length:Int)
   ·rw[if_pos c5] at H
    have c5b0:=zab c5
    clear c5
    by_cases c6:a1=true
    ·subst c6
     rw[if_pos rfl] at H
     by_cases c7:0≤x6_1
     ·rw[if_pos c7] at H
      have c7b0:=zab c7
      clear c7
      by_cases c8:x6_1<(l0.length:Int)
      ·rw[if_pos c8] at H
       have c8b0:=zab c8
       clear c8
       obtain⟨ji9,hji9⟩:∃ j_:Int,(wrap64 (x6_1+1))=j_:=⟨_,rfl⟩
       replace H:(if 0≤(ji9) then(if(ji9)<(l0.length:Int) then(if 0≤(wrap64 (x6_1+2)) then(if(wrap64 (x6_1+2))<(l0.length:Int) then(if 0≤(wrap64 (x6_1+3)) then(if x5_1.length<17592186044416 then(spec_Words.l0 k1 l0 true (x5_1++[Go.bits .or .i64 (Go.bits .or .i64 (Go.bits .or .i64 (wrap64 ((wrap64 (rd l0 x6_1))*16777216)) (wrap64 ((wrap64 (rd l0 (ji9)))*65536))) (wrap64 ((wrap64 (rd l0 (wrap64 (x6_1+2))))*256))) (wrap64 (rd l0 (wrap64 (x6_1+3))))]) (wrap64 (x6_1+4))) else(none)) else(none)) else(none)) else(none)) else(none)) else(none))=some r:=by first | (rw[hji9] at H;exact H) | (simp only[hji9] at H ⊢;exact H)
       have hji9w:(IntKind.i64.wrap (x6_1+1))=ji9:=(i64_w _).trans hji9
       by_cases c10:0≤(ji9)
       ·rw[if_pos c10] at H
        have c10b0:=zab c10
        clear c10
        by_cases c11:(ji9)<(l0.length:Int)
        ·rw[if_pos c11] at H
         have c11b0:=zab c11
         clear c11
         obtain⟨ji12,hji12⟩:∃ j_:Int,(wrap64 (x6_1+2))=j_:=⟨_,rfl⟩
         replace H:(if 0≤(ji12) then(if(ji12)<(l0.length:Int) then(if 0≤(wrap64 (x6_1+3)) then(if x5_1.length<17592186044416 then(spec_Words.l0 k1 l0 true (x5_1++[Go.bits .or .i64 (Go.bits .or .i64 (Go.bits .or .i64 (wrap64 ((wrap64 (rd l0 x6_1))*16777216)) (wrap64 ((wrap64 (rd l0 (ji9)))*65536))) (wrap64 ((wrap64 (rd l0 (ji12)))*256))) (wrap64 (rd l0 (wrap64 (x6_1+3))))]) (wrap64 (x6_1+4))) else(none)) else(none)) else(none)) else(none))=some r:=by first | (rw[hji12] at H;exact H) | (simp only[hji12] at H ⊢;exact H)
         have hji12w:(IntKind.i64.wrap (x6_1+2))=ji12:=(i64_w _).trans hji12
         by_cases c13:0≤(ji12)
         ·rw[if_pos c13] at H
          have c13b0:=zab c13
          clear c13
          by_cases c14:(ji12)<(l0.length:Int)
          ·rw[if_pos c14] at H
           have c14b0:=zab c14
           clear c14
           obtain⟨ji15,hji15⟩:∃ j_:Int,(wrap64 (x6_1+3))=j_:=⟨_,rfl⟩
           replace H:(if 0≤(ji15) then(if x5_1.length<17592186044416 then(spec_Words.l0 k1 l0 true (x5_1++[Go.bits .or .i64 (Go.bits .or .i64 (Go.bits .or .i64 (wrap64 ((wrap64 (rd l0 x6_1))*16777216)) (wrap64 ((wrap64 (rd l0 (ji9)))*65536))) (wrap64 ((wrap64 (rd l0 (ji12)))*256))) (wrap64 (rd l0 (ji15)))]) (wrap64 (x6_1+4))) else(none)) else(none))=some r:=by first | (rw[hji15] at H;exact H) | (simp only[hji15] at H ⊢;exact H)
           (try rw[hji15] at c5b0)
           have hji15w:(IntKind.i64.wrap (x6_1+3))=ji15:=(i64_w _).trans hji15
           by_cases c16:0≤(ji15)
           ·rw[if_pos c16] at H
            have c16b0:=zab c16
            clear c16
            by_cases c17:x5_1.length<17592186044416
            ·rw[if_pos c17] at H
             have LMc17:=Aside0.mk c17
             clear c17
             obtain⟨y116,hy116⟩:∃ y_:List Int,y_=(x5_1++[Go.bits .or .i64 (Go.bits .or .i64 (Go.bits .or .i64 (wrap64 ((wrap64 (rd l0 x6_1))*16777216)) (wrap64 ((wrap64 (rd l0 (ji9)))*65536))) (wrap64 ((wrap64 (rd l0 (ji12)))*256))) (wrap64 (rd l0 (ji15)))]):=⟨_,rfl⟩
             replace H:(spec_Words.l0 k1 l0 true y116 (wrap64 (x6_1+4)))=some r:=jrw hy116 H
             have Ny116:=Aside0.mk hy116
             clear hy116
             have H':=Aside0.mk H
             clear H
             try go_wp2
             have n_:=jA2 (zar HO_5.out) (zay HB.out)
             clear HO_5 HB
             obtain⟨HO_5,HB⟩:=n_
             have p112:0≤(x6_1:Int):=zad jab
             have q112:x6_1<(l0.length:Int):=zad jab
             obtain⟨ad112,e112,hx112_0⟩:=zcd HR0.out x6_1 p112 q112
             have hw112_0:=hx112_0
             cases e112
             replace hx112_0:=jcB HB.out hx112_0
             replace p112:=zas p112
             replace q112:=zas q112
             have p113:0≤((ji9):Int):=zad jab
             have q113:(ji9)<(l0.length:Int):=zad jab
             obtain⟨ad113,e113,hx113_0⟩:=zcd HR0.out (ji9) p113 q113
             have hw113_0:=hx113_0
             obtain rfl:ad112=ad113:=(by injection e113)
             replace hx113_0:=jcB HB.out hx113_0
             replace p113:=zas p113
             replace q113:=zas q113
             have p114:0≤((ji12):Int):=zad jab
             have q114:(ji12)<(l0.length:Int):=zad jab
             obtain⟨ad114,e114,hx114_0⟩:=zcd HR0.out (ji12) p114 q114
             have hw114_0:=hx114_0
             obtain rfl:ad112=ad114:=(by injection e114)
             replace hx114_0:=jcB HB.out hx114_0
             replace p114:=zas p114
             replace q114:=zas q114
             have p115:0≤((ji15):Int):=zad jab
             have q115:(ji15)<(l0.length:Int):=zad jab
             obtain⟨ad115,e115,hx115_0⟩:=zcd HR0.out (ji15) p115 q115
             have hw115_0:=hx115_0
             obtain rfl:ad112=ad115:=(by injection e115)
             replace hx115_0:=jcB HB.out hx115_0
             replace p115:=zas p115
             replace q115:=zas q115
             refine start_ (n:=33) (S:=fun w'=>w'.cell? (ad112.add (x6_1).toNat)=some (.int .u8 (rd l0 x6_1))∧w'.cell? (ad112.add ((ji9)).toNat)=some (.int .u8 (rd l0 (ji9)))∧w'.cell? (ad112.add ((ji12)).toNat)=some (.int .u8 (rd l0 (ji12)))∧w'.cell? (ad112.add ((ji15)).toNat)=some (.int .u8 (rd l0 (ji15)))) (ds:=[]) #[false,false,false,false,false,false,false,false,false,false,false,false,false,false,false,false,false,false,false,false,false,false,false,false,false,false,false,false,false,false,false,false,false] (by kernel_rfl) rfl rfl ⟨(jcB HB.out hw112_0:),(jcB HB.out hw113_0:),(jcB HB.out hw114_0:),(jcB HB.out hw115_0:)⟩ (fun hHeld=>?_);refine zgh spec_Words.tab6 spec_Words.bits6 (fun HT_ HW_=>?_)
             generalize wr.drew=w18 at HO_5 HB hx112_0 hx113_0 hx114_0 hx115_0 hHeld ⊢
             refine pu 0 16 HT_.out ?_
             refine pu 1 17 HT_.out ?_
             refine pu 2 18 HT_.out ?_
             refine pu 3 19 HT_.out ?_
             refine pu 7 23 HT_.out ?_
             refine pu 8 24 HT_.out ?_
             refine pu 9 25 HT_.out ?_
             refine pu 10 26 HT_.out ?_
             refine pu 15 31 HT_.out ?_
             refine pu 16 32 HT_.out ?_
             refine pu 17 33 HT_.out ?_
             refine pu 18 34 HT_.out ?_
             refine pu 23 39 HT_.out ?_
             refine pu 24 40 HT_.out ?_
             refine pu 25 41 HT_.out ?_
             refine pu 26 42 HT_.out ?_
             refine tk 4 20 HT_.out HW_.out hHeld ?_
             refine pu 5 21 HT_.out ?_
             refine pu 6 22 HT_.out ?_
             refine tk 11 27 HT_.out HW_.out hHeld ?_
             refine pu 12 28 HT_.out ?_
             refine pu 13 29 HT_.out ?_
             refine pu 14 30 HT_.out ?_
             refine tk 19 35 HT_.out HW_.out hHeld ?_
             refine pu 20 36 HT_.out ?_
             refine pu 21 37 HT_.out ?_
             refine pu 22 38 HT_.out ?_
             refine tk 27 43 HT_.out HW_.out hHeld ?_
             refine pu 28 44 HT_.out ?_
             refine pu 29 45 HT_.out ?_
             refine one_ (i:=30) (N:=some 46) #[true,true,true,true,true,true,true,true,true,true,true,true,true,true,true,true,true,true,true,true,true,true,true,true,true,true,true,true,true,true,true,false,false] rfl rfl (one_of HT_.out (by kernel_rfl)) (by decide) (fun K hK=>?_)
             refine value_ (w1:=?_) (v:=?_) (by rfl) rfl ?_ ?_
             rotate_left 2
             ·go_simp
              constructor
              ·rfl
              rfl
             refine hK.out _ _ ⟨(World.cell?_alloc_lt _ _ _ (World.block_lt_of_cell? _ _ ((jcB HB.out hw112_0:)))).trans ((jcB HB.out hw112_0:)),(World.cell?_alloc_lt _ _ _ (World.block_lt_of_cell? _ _ ((jcB HB.out hw113_0:)))).trans ((jcB HB.out hw113_0:)),(World.cell?_alloc_lt _ _ _ (World.block_lt_of_cell? _ _ ((jcB HB.out hw114_0:)))).trans ((jcB HB.out hw114_0:)),(World.cell?_alloc_lt _ _ _ (World.block_lt_of_cell? _ _ ((jcB HB.out hw115_0:)))).trans ((jcB HB.out hw115_0:))⟩ (fun hHeld=>?_)
             clear hK K
             refine norm_ (a':=?_) ?_ ?_
             rotate_left
             ·show Act.put _ (some 46) _=_
              simp only[Act.put,zaa,zae,zaf,i64_w,i32_w]
              rfl
             refine one_ (i:=31) (N:=some 47) #[true,true,true,true,true,true,true,true,true,true,true,true,true,true,true,true,true,true,true,true,true,true,true,true,true,true,true,true,true,true,true,true,false] rfl rfl (one_of HT_.out (by kernel_rfl)) (by decide) (fun K hK=>?_)
             refine Kd.R_append_step (Kd.int .i64) (w0:=w) w.heap.size (by rfl) (.tmp 16) (.tmp 46) 22 3 (.int .i64 0) 8 rfl Try.underlying22 info3 rfl (by decide) (by omega) u5 x5_1 (Go.bits .or .i64 (Go.bits .or .i64 (Go.bits .or .i64 (wrap64 ((wrap64 (rd l0 x6_1))*16777216)) (wrap64 ((wrap64 (rd l0 (ji9)))*65536))) (wrap64 ((wrap64 (rd l0 (ji12)))*256))) (wrap64 (rd l0 (ji15)))) [.int .i64 (Go.bits .or .i64 (Go.bits .or .i64 (Go.bits .or .i64 (wrap64 ((wrap64 (rd l0 x6_1))*16777216)) (wrap64 ((wrap64 (rd l0 (ji9)))*65536))) (wrap64 ((wrap64 (rd l0 (ji12)))*256))) (wrap64 (rd l0 (ji15))))] (fun _=>True) (fun _=>False) rfl rfl ?aP (fun _ hk=>hk.elim) ?aF ?aO ?aB ?aS ?aL ?_
             (case aP=>exact rfl)
             (case aB=>exact bq)
             (case aF=>exact(fun _ _=>trivial))
             (case aO=>exact(pR HO_5.out))
             (case aS=>exact(zah bq))
             (case aL=>have:=LMc17.out;omega)
             intro v117 w19 ho hb hg hat
             rw[← Ny116.out] at ho
             have n_:=jA2 (hb) (ho)
             clear HB HO_5
             obtain⟨HB,HO118⟩:=n_
             clear ho hb hg hat
             refine hK.out _ _ ⟨(jcB HB.out hw112_0:),(jcB HB.out hw113_0:),(jcB HB.out hw114_0:),(jcB HB.out hw115_0:)⟩ (fun hHeld=>?_)
             clear hK K
             refine norm_ (a':=?_) ?_ ?_
             rotate_left
             ·show Act.put _ (some 47) _=_
              simp only[Act.put,zaa,zae,zaf,i64_w,i32_w]
              rfl
             refine pu 32 5 HT_.out ?_
             refine done_ (done_of HT_.out (by kernel_rfl)) ?_
             try go_wp2
             go_roundg k1
             case measure=>have:=HK1.out;omega
             case rel=>exact⟨(y116),(wrap64 (x6_1+4)),jer,H',⟨by have:=HK1.out;omega⟩,⟨pR HO118.out⟩,⟨bq⟩⟩
            rw[if_neg c17] at H
            exact absurd H (by simp)
           rw[if_neg c16] at H
           exact absurd H (by simp)
          rw[if_neg c14] at H
          exact absurd H (by simp)
         rw[if_neg c13] at H
         exact absurd H (by simp)
        rw[if_neg c11] at H
        exact absurd H (by simp)
       rw[if_neg c10] at H
       exact absurd H (by simp)
      rw[if_neg c8] at H
      exact absurd H (by simp)
     rw[if_neg c7] at H
     exact absurd H (by simp)
    replace c6:=zds.mpr c6
    subst c6
    rw[if_neg (show ¬(false=true) by decide)] at H
    obtain⟨ji20,hji20⟩:∃ j_:Int,(wrap64 (x6_1+3))=j_:=⟨_,rfl⟩
    replace H:(if 0≤(ji20) then(if 0≤(wrap64 (x6_1+2)) then(if(wrap64 (x6_1+2))<(l0.length:Int) then(if 0≤(wrap64 (x6_1+1)) then(if(wrap64 (x6_1+1))<(l0.length:Int) then(if 0≤x6_1 then(if x6_1<(l0.length:Int) then(if x5_1.length<17592186044416 then(spec_Words.l0 k1 l0 false (x5_1++[Go.bits .or .i64 (Go.bits .or .i64 (Go.bits .or .i64 (wrap64 ((wrap64 (rd l0 (ji20)))*16777216)) (wrap64 ((wrap64 (rd l0 (wrap64 (x6_1+2))))*65536))) (wrap64 ((wrap64 (rd l0 (wrap64 (x6_1+1))))*256))) (wrap64 (rd l0 x6_1))]) (wrap64 (x6_1+4))) else(none)) else(none)) else(none)) else(none)) else(none)) else(none)) else(none)) else(none))=some r:=by first | (rw[hji20] at H;exact H) | (simp only[hji20] at H ⊢;exact H)
    (try rw[hji20] at c5b0)
    have hji20w:(IntKind.i64.wrap (x6_1+3))=ji20:=(i64_w _).trans hji20
    by_cases c21:0≤(ji20)
    ·rw[if_pos c21] at H
     have c21b0:=zab c21
     clear c21
     obtain⟨ji22,hji22⟩:∃ j_:Int,(wrap64 (x6_1+2))=j_:=⟨_,rfl⟩
     replace H:(if 0≤(ji22) then(if(ji22)<(l0.length:Int) then(if 0≤(wrap64 (x6_1+1)) then(if(wrap64 (x6_1+1))<(l0.length:Int) then(if 0≤x6_1 then(if x6_1<(l0.length:Int) then(if x5_1.length<17592186044416 then(spec_Words.l0 k1 l0 false (x5_1++[Go.bits .or .i64 (Go.bits .or .i64 (Go.bits .or .i64 (wrap64 ((wrap64 (rd l0 (ji20)))*16777216)) (wrap64 ((wrap64 (rd l0 (ji22)))*65536))) (wrap64 ((wrap64 (rd l0 (wrap64 (x6_1+1))))*256))) (wrap64 (rd l0 x6_1))]) (wrap64 (x6_1+4))) else(none)) else(none)) else(none)) else(none)) else(none)) else(none)) else(none))=some r:=by first | (rw[hji22] at H;exact H) | (simp only[hji22] at H ⊢;exact H)
     have hji22w:(IntKind.i64.wrap (x6_1+2))=ji22:=(i64_w _).trans hji22
     by_cases c23:0≤(ji22)
     ·rw[if_pos c23] at H
      have c23b0:=zab c23
      clear c23
      by_cases c24:(ji22)<(l0.length:Int)
      ·rw[if_pos c24] at H
       have c24b0:=zab c24
       clear c24
       obtain⟨ji25,hji25⟩:∃ j_:Int,(wrap64 (x6_1+1))=j_:=⟨_,rfl⟩
       replace H:(if 0≤(ji25) then(if(ji25)<(l0.length:Int) then(if 0≤x6_1 then(if x6_1<(l0.length:Int) then(if x5_1.length<17592186044416 then(spec_Words.l0 k1 l0 false (x5_1++[Go.bits .or .i64 (Go.bits .or .i64 (Go.bits .or .i64 (wrap64 ((wrap64 (rd l0 (ji20)))*16777216)) (wrap64 ((wrap64 (rd l0 (ji22)))*65536))) (wrap64 ((wrap64 (rd l0 (ji25)))*256))) (wrap64 (rd l0 x6_1))]) (wrap64 (x6_1+4))) else(none)) else(none)) else(none)) else(none)) else(none))=some r:=by first | (rw[hji25] at H;exact H) | (simp only[hji25] at H ⊢;exact H)
       have hji25w:(IntKind.i64.wrap (x6_1+1))=ji25:=(i64_w _).trans hji25
       by_cases c26:0≤(ji25)
       ·rw[if_pos c26] at H
        have c26b0:=zab c26
        clear c26
        by_cases c27:(ji25)<(l0.length:Int)
        ·rw[if_pos c27] at H
         have c27b0:=zab c27
         clear c27
         by_cases c28:0≤x6_1
         ·rw[if_pos c28] at H
          have c28b0:=zab c28
          clear c28
          by_cases c29:x6_1<(l0.length:Int)
          ·rw[if_pos c29] at H
           have c29b0:=zab c29
           clear c29
           by_cases c30:x5_1.length<17592186044416
           ·rw[if_pos c30] at H
            have LMc30:=Aside0.mk c30
            clear c30
            obtain⟨y123,hy123⟩:∃ y_:List Int,y_=(x5_1++[Go.bits .or .i64 (Go.bits .or .i64 (Go.bits .or .i64 (wrap64 ((wrap64 (rd l0 (ji20)))*16777216)) (wrap64 ((wrap64 (rd l0 (ji22)))*65536))) (wrap64 ((wrap64 (rd l0 (ji25)))*256))) (wrap64 (rd l0 x6_1))]):=⟨_,rfl⟩
            replace H:(spec_Words.l0 k1 l0 false y123 (wrap64 (x6_1+4)))=some r:=jrw hy123 H
            have Ny123:=Aside0.mk hy123
            clear hy123
            have H':=Aside0.mk H
            clear H
            try go_wp2
            have n_:=jA2 (zar HO_5.out) (zay HB.out)
            clear HO_5 HB
            obtain⟨HO_5,HB⟩:=n_
            have p119:0≤((ji20):Int):=zad jab
            have q119:(ji20)<(l0.length:Int):=zad jab
            obtain⟨ad119,e119,hx119_0⟩:=zcd HR0.out (ji20) p119 q119
            have hw119_0:=hx119_0
            cases e119
            replace hx119_0:=jcB HB.out hx119_0
            replace p119:=zas p119
            replace q119:=zas q119
            have p120:0≤((ji22):Int):=zad jab
            have q120:(ji22)<(l0.length:Int):=zad jab
            obtain⟨ad120,e120,hx120_0⟩:=zcd HR0.out (ji22) p120 q120
            have hw120_0:=hx120_0
            obtain rfl:ad119=ad120:=(by injection e120)
            replace hx120_0:=jcB HB.out hx120_0
            replace p120:=zas p120
            replace q120:=zas q120
            have p121:0≤((ji25):Int):=zad jab
            have q121:(ji25)<(l0.length:Int):=zad jab
            obtain⟨ad121,e121,hx121_0⟩:=zcd HR0.out (ji25) p121 q121
            have hw121_0:=hx121_0
            obtain rfl:ad119=ad121:=(by injection e121)
            replace hx121_0:=jcB HB.out hx121_0
            replace p121:=zas p121
            replace q121:=zas q121
            have p122:0≤(x6_1:Int):=zad jab
            have q122:x6_1<(l0.length:Int):=zad jab
            obtain⟨ad122,e122,hx122_0⟩:=zcd HR0.out x6_1 p122 q122
            have hw122_0:=hx122_0
            obtain rfl:ad119=ad122:=(by injection e122)
            replace hx122_0:=jcB HB.out hx122_0
            replace p122:=zas p122
            replace q122:=zas q122
            refine start_ (n:=33) (S:=fun w'=>w'.cell? (ad119.add ((ji20)).toNat)=some (.int .u8 (rd l0 (ji20)))∧w'.cell? (ad119.add ((ji22)).toNat)=some (.int .u8 (rd l0 (ji22)))∧w'.cell? (ad119.add ((ji25)).toNat)=some (.int .u8 (rd l0 (ji25)))∧w'.cell? (ad119.add (x6_1).toNat)=some (.int .u8 (rd l0 x6_1))) (ds:=[]) #[false,false,false,false,false,false,false,false,false,false,false,false,false,false,false,false,false,false,false,false,false,false,false,false,false,false,false,false,false,false,false,false,false] (by kernel_rfl) rfl rfl ⟨(jcB HB.out hw119_0:),(jcB HB.out hw120_0:),(jcB HB.out hw121_0:),(jcB HB.out hw122_0:)⟩ (fun hHeld=>?_);refine zgh spec_Words.tab7 spec_Words.bits7 (fun HT_ HW_=>?_)
            generalize wr.drew=w31 at HO_5 HB hx119_0 hx120_0 hx121_0 hx122_0 hHeld ⊢
            refine pu 0 48 HT_.out ?_
            refine pu 1 49 HT_.out ?_
            refine pu 2 50 HT_.out ?_
            refine pu 3 51 HT_.out ?_
            refine pu 4 52 HT_.out ?_
            refine pu 8 56 HT_.out ?_
            refine pu 9 57 HT_.out ?_
            refine pu 10 58 HT_.out ?_
            refine pu 11 59 HT_.out ?_
            refine pu 16 64 HT_.out ?_
            refine pu 17 65 HT_.out ?_
            refine pu 18 66 HT_.out ?_
            refine pu 19 67 HT_.out ?_
            refine pu 24 72 HT_.out ?_
            refine pu 25 73 HT_.out ?_
            refine pu 26 74 HT_.out ?_
            refine tk 5 53 HT_.out HW_.out hHeld ?_
            refine pu 6 54 HT_.out ?_
            refine pu 7 55 HT_.out ?_
            refine tk 12 60 HT_.out HW_.out hHeld ?_
            refine pu 13 61 HT_.out ?_
            refine pu 14 62 HT_.out ?_
            refine pu 15 63 HT_.out ?_
            refine tk 20 68 HT_.out HW_.out hHeld ?_
            refine pu 21 69 HT_.out ?_
            refine pu 22 70 HT_.out ?_
            refine pu 23 71 HT_.out ?_
            refine tk 27 75 HT_.out HW_.out hHeld ?_
            refine pu 28 76 HT_.out ?_
            refine pu 29 77 HT_.out ?_
            refine one_ (i:=30) (N:=some 78) #[true,true,true,true,true,true,true,true,true,true,true,true,true,true,true,true,true,true,true,true,true,true,true,true,true,true,true,true,true,true,true,false,false] rfl rfl (one_of HT_.out (by kernel_rfl)) (by decide) (fun K hK=>?_)
            refine value_ (w1:=?_) (v:=?_) (by rfl) rfl ?_ ?_
            rotate_left 2
            ·go_simp
             constructor
             ·rfl
             rfl
            refine hK.out _ _ ⟨(World.cell?_alloc_lt _ _ _ (World.block_lt_of_cell? _ _ ((jcB HB.out hw119_0:)))).trans ((jcB HB.out hw119_0:)),(World.cell?_alloc_lt _ _ _ (World.block_lt_of_cell? _ _ ((jcB HB.out hw120_0:)))).trans ((jcB HB.out hw120_0:)),(World.cell?_alloc_lt _ _ _ (World.block_lt_of_cell? _ _ ((jcB HB.out hw121_0:)))).trans ((jcB HB.out hw121_0:)),(World.cell?_alloc_lt _ _ _ (World.block_lt_of_cell? _ _ ((jcB HB.out hw122_0:)))).trans ((jcB HB.out hw122_0:))⟩ (fun hHeld=>?_)
            clear hK K
            refine norm_ (a':=?_) ?_ ?_
            rotate_left
            ·show Act.put _ (some 78) _=_
             simp only[Act.put,zaa,zae,zaf,i64_w,i32_w]
             rfl
            refine one_ (i:=31) (N:=some 79) #[true,true,true,true,true,true,true,true,true,true,true,true,true,true,true,true,true,true,true,true,true,true,true,true,true,true,true,true,true,true,true,true,false] rfl rfl (one_of HT_.out (by kernel_rfl)) (by decide) (fun K hK=>?_)
            refine Kd.R_append_step (Kd.int .i64) (w0:=w) w.heap.size (by rfl) (.tmp 48) (.tmp 78) 22 3 (.int .i64 0) 8 rfl Try.underlying22 info3 rfl (by decide) (by omega) u5 x5_1 (Go.bits .or .i64 (Go.bits .or .i64 (Go.bits .or .i64 (wrap64 ((wrap64 (rd l0 (ji20)))*16777216)) (wrap64 ((wrap64 (rd l0 (ji22)))*65536))) (wrap64 ((wrap64 (rd l0 (ji25)))*256))) (wrap64 (rd l0 x6_1))) [.int .i64 (Go.bits .or .i64 (Go.bits .or .i64 (Go.bits .or .i64 (wrap64 ((wrap64 (rd l0 (ji20)))*16777216)) (wrap64 ((wrap64 (rd l0 (ji22)))*65536))) (wrap64 ((wrap64 (rd l0 (ji25)))*256))) (wrap64 (rd l0 x6_1)))] (fun _=>True) (fun _=>False) rfl rfl ?aP (fun _ hk=>hk.elim) ?aF ?aO ?aB ?aS ?aL ?_
            (case aP=>exact rfl)
            (case aB=>exact bq)
            (case aF=>exact(fun _ _=>trivial))
            (case aO=>exact(pR HO_5.out))
            (case aS=>exact(zah bq))
            (case aL=>have:=LMc30.out;omega)
            intro v124 w32 ho hb hg hat
            rw[← Ny123.out] at ho
            have n_:=jA2 (hb) (ho)
            clear HB HO_5
            obtain⟨HB,HO125⟩:=n_
            clear ho hb hg hat
            refine hK.out _ _ ⟨(jcB HB.out hw119_0:),(jcB HB.out hw120_0:),(jcB HB.out hw121_0:),(jcB HB.out hw122_0:)⟩ (fun hHeld=>?_)
            clear hK K
            refine norm_ (a':=?_) ?_ ?_
            rotate_left
            ·show Act.put _ (some 79) _=_
             simp only[Act.put,zaa,zae,zaf,i64_w,i32_w]
             rfl
            refine pu 32 5 HT_.out ?_
            refine done_ (done_of HT_.out (by kernel_rfl)) ?_
            try go_wp2
            go_roundg k1
            case measure=>have:=HK1.out;omega
            case rel=>exact⟨(y123),(wrap64 (x6_1+4)),jer,H',⟨by have:=HK1.out;omega⟩,⟨pR HO125.out⟩,⟨bq⟩⟩
           rw[if_neg c30] at H
           exact absurd H (by simp)
          rw[if_neg c29] at H
          exact absurd H (by simp)
         rw[if_neg c28] at H
         exact absurd H (by simp)
        rw[if_neg c27] at H
        exact absurd H (by simp)
       rw[if_neg c26] at H
       exact absurd H (by simp)
      rw[if_neg c24] at H
      exact absurd H (by simp)
     rw[if_neg c23] at H
     exact absurd H (by simp)
    rw[if_neg c21] at H
    exact absurd H (by simp)
   rw[if_neg c5] at H
   have c5b0:=zbj c5
   clear c5
   obtain rfl:=Option.some.inj H
   go_wp2
   go_ret
   exact⟨_,jex,by(with_reducible repeat(first | apply zat | apply zau | apply zar));exact HO_5.out,bq⟩
end Go.Proofs.Ytienlgcjohpphaa.P
