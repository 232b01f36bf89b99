import Derived.Test.Ytlalkldjpniakaabk6
namespace Go.Proofs.Ytlalkldjpniakaa.P
open Go.RowKit Go.Proofs.YtlalkldjpniakaaW.PrintWords Go.Proofs.YtlalkldjpniakaaW.PrintLast Go.Proofs.YtlalkldjpniakaaW.PrintMore
attribute [local go_sem] zck zcl zdl zdm zbz zca zcm zcn -- for this text's walks alone
set_option linter.unusedVariables false
set_option linter.unusedSimpArgs false

def spec_Words.l0:Nat→List Int→Bool→List Int→Int→Option (List Int)
 | 0,_,_,_,_=>none
 | k+1,x0,x1,x5,x6=>if(wrap64 (x6+3))<(x0.length:Int) then(if x1=true then(if 0≤x6 then(if x6<(x0.length:Int) then(if 0≤(wrap64 (x6+1)) then(if(wrap64 (x6+1))<(x0.length:Int) then(if 0≤(wrap64 (x6+2)) then(if(wrap64 (x6+2))<(x0.length:Int) then(if 0≤(wrap64 (x6+3)) then(if x5.length<17592186044416 then(spec_Words.l0 k x0 x1 (x5++[Go.bits .or .i64 (Go.bits .or .i64 (Go.bits .or .i64 (wrap64 ((wrap64 (rd x0 x6))*16777216)) (wrap64 ((wrap64 (rd x0 (wrap64 (x6+1))))*65536))) (wrap64 ((wrap64 (rd x0 (wrap64 (x6+2))))*256))) (wrap64 (rd x0 (wrap64 (x6+3))))]) (wrap64 (x6+4))) else(none)) else(none)) else(none)) else(none)) else(none)) else(none)) else(none)) else(none)) else(if 0≤(wrap64 (x6+3)) then(if 0≤(wrap64 (x6+2)) then(if(wrap64 (x6+2))<(x0.length:Int) then(if 0≤(wrap64 (x6+1)) then(if(wrap64 (x6+1))<(x0.length:Int) then(if 0≤x6 then(if x6<(x0.length:Int) then(if x5.length<17592186044416 then(spec_Words.l0 k x0 x1 (x5++[Go.bits .or .i64 (Go.bits .or .i64 (Go.bits .or .i64 (wrap64 ((wrap64 (rd x0 (wrap64 (x6+3))))*16777216)) (wrap64 ((wrap64 (rd x0 (wrap64 (x6+2))))*65536))) (wrap64 ((wrap64 (rd x0 (wrap64 (x6+1))))*256))) (wrap64 (rd x0 x6))]) (wrap64 (x6+4))) else(none)) else(none)) else(none)) else(none)) else(none)) else(none)) else(none)) else(none))) else(some x5)
def spec_Words.f (k:Nat) (l0:List Int) (a1:Bool):Option (List Int):=spec_Words.l0 k l0 a1 (([]:List Int)) 0
theorem spec_Words.mono_l:∀ k,(∀ y0 y1 y2 y3,LeO (spec_Words.l0 k y0 y1 y2 y3) (spec_Words.l0 (k+1) y0 y1 y2 y3))
 | 0=>fun _ _ _ _ r h=>by simp [spec_Words.l0] at h
 | k+1=>by
  have ih0:=spec_Words.mono_l k
  intro y0 y1 y2 y3
  unfold spec_Words.l0
  exact mt
theorem spec_Words.mono:∀ a0 a1 k,LeO (spec_Words.f k a0 a1) (spec_Words.f (k+1) a0 a1):=by
 intro a0 a1 k
 have ih0:=spec_Words.mono_l k
 unfold spec_Words.f
 exact mt
def spec_Words.T6:Bool×List (List Nat×List Nat):=(true,[([],[]),([],[]),([],[]),([1,2],[1,2]),([3],[3]),([4],[4]),([5],[5]),([],[]),([],[]),([8],[8]),([7,9],[7,9]),([10],[10]),([11],[11]),([12],[12]),([6,13],[6,13]),([],[]),([],[]),([16],[16]),([15,17],[15,17]),([18],[18]),([19],[19]),([20],[20]),([14,21],[14,21]),([],[]),([],[]),([24],[24]),([23,25],[23,25]),([26],[26]),([27],[27]),([22,28],[22,28]),([29],[29]),([0,30],[0,30]),([31,31,0,1,2,3,4,5,6,7,8,9,10,11,12,13,14,15,16,17,18,19,20,21,22,23,24,25,26,27,28,29,30,31],[0,31])])
def spec_Words.B6:List Nat:=[0,0,0,6,14,30,62,0,0,256,896,1920,3968,8064,16382,0,0,65536,229376,491520,1015808,2064384,4194302,0,0,16777216,58720256,125829120,260046848,536870910,1073741822,2147483647,4294967295]
theorem spec_Words.tab6:rtab .any (opsOf Try.f111 6)=spec_Words.T6:=by kernel_rfl
theorem spec_Words.bits6:waitsOk spec_Words.T6.2 spec_Words.B6=true:=by kernel_rfl
def spec_Words.T7:Bool×List (List Nat×List Nat):=(true,[([],[]),([],[]),([],[]),([2],[2]),([1,3],[1,3]),([4],[4]),([5],[5]),([6],[6]),([],[]),([],[]),([9],[9]),([8,10],[8,10]),([11],[11]),([12],[12]),([13],[13]),([7,14],[7,14]),([],[]),([],[]),([17],[17]),([16,18],[16,18]),([19],[19]),([20],[20]),([21],[21]),([15,22],[15,22]),([],[]),([],[]),([24,25],[24,25]),([26],[26]),([27],[27]),([23,28],[23,28]),([29],[29]),([0,30],[0,30]),([31,31,0,1,2,3,4,5,6,7,8,9,10,11,12,13,14,15,16,17,18,19,20,21,22,23,24,25,26,27,28,29,30,31],[0,31])])
def spec_Words.B7:List Nat:=[0,0,0,4,14,30,62,126,0,0,512,1792,3840,7936,16128,32766,0,0,131072,458752,983040,2031616,4128768,8388606,0,0,50331648,117440512,251658240,536870910,1073741822,2147483647,4294967295]
theorem spec_Words.tab7:rtab .any (opsOf Try.f111 7)=spec_Words.T7:=by kernel_rfl
theorem spec_Words.bits7:waitsOk spec_Words.T7.2 spec_Words.B7=true:=by kernel_rfl
set_option maxHeartbeats 8000000 in
set_option maxRecDepth 100000 in
theorem spec_Words.calls (k:Nat) (A0:Option Addr) (c0:Nat) (l0:List Int) (a1:Bool) (r:List Int) (w:World) (hr0:Kd.C (Kd.int .u8) w A0 l0.length l0) (hc0:l0.length≤c0) (h:spec_Words.f k l0 a1=some r):
  Calls Try.prog 111 #[.slice A0 l0.length c0, .bool a1] w fun e w'=>∃ v0_:Value,e= .returned (v0_)∧Kd.R (Kd.int .i64) 3 w' w.heap.size (fun _=>True) v0_ r∧Below w.heap.size w w':=by
 have HR0:=Aside0.mk hr0
 have R3:=Aside0.mk hc0
 clear hr0 hc0
 have HB:=Aside0.mk (zbo w.heap.size w)
 have H:(spec_Words.l0 k l0 a1 (([]:List Int)) 0)=some r:=h
 clear h
 obtain⟨S1,V0⟩:∃ y_:List Int,y_=(([]:List Int)):=⟨_,rfl⟩
 replace H:(spec_Words.l0 k l0 a1 S1 0)=some r:=jrw V0 H
 have Y0:=Aside0.mk V0
 clear V0
 have H':=Aside0.mk H
 clear H
 go_enter Try.func111,Try.ntmps111
 go_wp2_with (first | (refine jgd 7 ?_;refine jlt 7 (Kd.int .i64) 3 ?_;intro v642 w3 U1 hb;have xb_:=below_ofs bq hb;(first | rw[← Y0.out] at U1 | (simp only[Int.reduceToNat] at U1;rw[← Y0.out] at U1));have n_:=jA2 (zax U1 (zal xb_)) (zac xb_ hb);clear HB;obtain⟨V1,HB⟩:=n_;clear xb_ hb U1))
 go_loopg [5,6] k (fun kq v5 v6 w'=>∃ (B0:List Int) (o0:Int),v6= .int .i64 o0∧Aside0 (spec_Words.l0 kq l0 a1 B0 o0=some r)∧Aside0 (kq≤k)∧Aside0 (Kd.R (Kd.int .i64) 3 w' w.heap.size (fun _=>True) v5 B0)∧Aside0 (Below w.heap.size w w'))
 case atStart=>exact⟨(S1),(0),jer,H',⟨zaf _⟩,⟨pR V1.out⟩,⟨bq⟩⟩
 case round=>
  clear H'
  try clear c1
  try clear p2
  obtain⟨B0,o0,rfl,HA,J2,C0,HB⟩:=hrel
  cases gk with
  | zero=>exact absurd HA.out (by simp [spec_Words.l0])
  | succ k1=>
   have H:=HA.out
   clear HA
   simp only[spec_Words.l0] at H
   by_cases c5:(wrap64 (o0+3))<(l0.length:Int)
   ·rw[if_pos c5] at H
    have Z0:=zae c5
    clear c5
    by_cases c6:a1=true
    ·subst c6
     rw[if_pos rfl] at H
     by_cases c7:0≤o0
     ·rw[if_pos c7] at H
      have P3:=zae c7
      clear c7
      by_cases c8:o0<(l0.length:Int)
      ·rw[if_pos c8] at H
       have Q3:=zae c8
       clear c8
       obtain⟨ji9,hji9⟩:∃ j_:Int,(wrap64 (o0+1))=j_:=⟨_,rfl⟩
       replace H:(if 0≤(ji9) then(if(ji9)<(l0.length:Int) then(if 0≤(wrap64 (o0+2)) then(if(wrap64 (o0+2))<(l0.length:Int) then(if 0≤(wrap64 (o0+3)) then(if B0.length<17592186044416 then(spec_Words.l0 k1 l0 true (B0++[Go.bits .or .i64 (Go.bits .or .i64 (Go.bits .or .i64 (wrap64 ((wrap64 (rd l0 o0))*16777216)) (wrap64 ((wrap64 (rd l0 (ji9)))*65536))) (wrap64 ((wrap64 (rd l0 (wrap64 (o0+2))))*256))) (wrap64 (rd l0 (wrap64 (o0+3))))]) (wrap64 (o0+4))) else(none)) else(none)) else(none)) else(none)) else(none)) else(none))=some r:=by first | (rw[hji9] at H;exact H) | (simp only[hji9] at H ⊢;exact H)
       have hji9w:(IntKind.i64.wrap (o0+1))=ji9:=(i64_w _).trans hji9
       by_cases c10:0≤(ji9)
       ·rw[if_pos c10] at H
        have D3:=zae c10
        clear c10
        by_cases K2:(ji9)<(l0.length:Int)
        ·rw[if_pos K2] at H
         have E3:=zae K2
         clear K2
         obtain⟨ji12,hji12⟩:∃ j_:Int,(wrap64 (o0+2))=j_:=⟨_,rfl⟩
         replace H:(if 0≤(ji12) then(if(ji12)<(l0.length:Int) then(if 0≤(wrap64 (o0+3)) then(if B0.length<17592186044416 then(spec_Words.l0 k1 l0 true (B0++[Go.bits .or .i64 (Go.bits .or .i64 (Go.bits .or .i64 (wrap64 ((wrap64 (rd l0 o0))*16777216)) (wrap64 ((wrap64 (rd l0 (ji9)))*65536))) (wrap64 ((wrap64 (rd l0 (ji12)))*256))) (wrap64 (rd l0 (wrap64 (o0+3))))]) (wrap64 (o0+4))) else(none)) else(none)) else(none)) else(none))=some r:=by first | (rw[hji12] at H;exact H) | (simp only[hji12] at H ⊢;exact H)
         have hji12w:(IntKind.i64.wrap (o0+2))=ji12:=(i64_w _).trans hji12
         by_cases c13:0≤(ji12)
         ·rw[if_pos c13] at H
          have F3:=zae c13
          clear c13
          by_cases M2:(ji12)<(l0.length:Int)
          ·rw[if_pos M2] at H
           have G3:=zae M2
           clear M2
           obtain⟨ji15,hji15⟩:∃ j_:Int,(wrap64 (o0+3))=j_:=⟨_,rfl⟩
           replace H:(if 0≤(ji15) then(if B0.length<17592186044416 then(spec_Words.l0 k1 l0 true (B0++[Go.bits .or .i64 (Go.bits .or .i64 (Go.bits .or .i64 (wrap64 ((wrap64 (rd l0 o0))*16777216)) (wrap64 ((wrap64 (rd l0 (ji9)))*65536))) (wrap64 ((wrap64 (rd l0 (ji12)))*256))) (wrap64 (rd l0 (ji15)))]) (wrap64 (o0+4))) else(none)) else(none))=some r:=by first | (rw[hji15] at H;exact H) | (simp only[hji15] at H ⊢;exact H)
           (try rw[hji15] at Z0)
           have hji15w:(IntKind.i64.wrap (o0+3))=ji15:=(i64_w _).trans hji15
           by_cases N2:0≤(ji15)
           ·rw[if_pos N2] at H
            have H3:=zae N2
            clear N2
            by_cases O2:B0.length<17592186044416
            ·rw[if_pos O2] at H
             have X1:=Aside0.mk O2
             clear O2
             obtain⟨Y1,W0⟩:∃ y_:List Int,y_=(B0++[Go.bits .or .i64 (Go.bits .or .i64 (Go.bits .or .i64 (wrap64 ((wrap64 (rd l0 o0))*16777216)) (wrap64 ((wrap64 (rd l0 (ji9)))*65536))) (wrap64 ((wrap64 (rd l0 (ji12)))*256))) (wrap64 (rd l0 (ji15)))]):=⟨_,rfl⟩
             replace H:(spec_Words.l0 k1 l0 true Y1 (wrap64 (o0+4)))=some r:=jrw W0 H
             have Z1:=Aside0.mk W0
             clear W0
             have H':=Aside0.mk H
             clear H
             try go_wp2
             have n_:=jA2 (zbs C0.out) (zba HB.out)
             clear C0 HB
             obtain⟨C0,HB⟩:=n_
             have n1:0≤(o0:Int):=zad jab
             have C1:o0<(l0.length:Int):=zad jab
             obtain⟨T0,Z2,D0⟩:=zfk HR0.out o0 n1 C1
             have E0:=D0
             cases Z2
             replace D0:=jcB HB.out D0
             replace n1:=zbr n1
             replace C1:=zbr C1
             have D1:0≤((ji9):Int):=zad jab
             have E1:(ji9)<(l0.length:Int):=zad jab
             obtain⟨j2,j3,F0⟩:=zfk HR0.out (ji9) D1 E1
             have G0:=F0
             obtain rfl:T0=j2:=(by injection j3)
             replace F0:=jcB HB.out F0
             replace D1:=zbr D1
             replace E1:=zbr E1
             have F1:0≤((ji12):Int):=zad jab
             have G1:(ji12)<(l0.length:Int):=zad jab
             obtain⟨k2,k3,H0⟩:=zfk HR0.out (ji12) F1 G1
             have I0:=H0
             obtain rfl:T0=k2:=(by injection k3)
             replace H0:=jcB HB.out H0
             replace F1:=zbr F1
             replace G1:=zbr G1
             have H1:0≤((ji15):Int):=zad jab
             have I1:(ji15)<(l0.length:Int):=zad jab
             obtain⟨n2,n3,J0⟩:=zfk HR0.out (ji15) H1 I1
             have K0:=J0
             obtain rfl:T0=n2:=(by injection n3)
             replace J0:=jcB HB.out J0
             replace H1:=zbr H1
             replace I1:=zbr I1
             refine start_ (n:=33) (S:=fun w'=>w'.cell? (T0.add (o0).toNat)=some (.int .u8 (rd l0 o0))∧w'.cell? (T0.add ((ji9)).toNat)=some (.int .u8 (rd l0 (ji9)))∧w'.cell? (T0.add ((ji12)).toNat)=some (.int .u8 (rd l0 (ji12)))∧w'.cell? (T0.add ((ji15)).toNat)=some (.int .u8 (rd l0 (ji15)))) (ds:=[]) #[false,false,false,false,false,false,false,false,false,false,false,false,false,false,false,false,false,false,false,false,false,false,false,false,false,false,false,false,false,false,false,false,false] (by kernel_rfl) rfl rfl ⟨(jcB HB.out E0:),(jcB HB.out G0:),(jcB HB.out I0:),(jcB HB.out K0:)⟩ (fun hHeld=>?_);refine with_tabW spec_Words.tab6 spec_Words.bits6 (fun HT_ HW_=>?_)
             generalize wr.drew=w18 at C0 HB D0 F0 H0 J0 hHeld ⊢
             refine pu 0 16 HT_.out ?_
             refine pu 1 17 HT_.out ?_
             refine pu 2 18 HT_.out ?_
             refine pu 3 19 HT_.out ?_
             refine pu 7 23 HT_.out ?_
             refine pu 8 24 HT_.out ?_
             refine pu 9 25 HT_.out ?_
             refine pu 10 26 HT_.out ?_
             refine pu 15 31 HT_.out ?_
             refine pu 16 32 HT_.out ?_
             refine pu 17 33 HT_.out ?_
             refine pu 18 34 HT_.out ?_
             refine pu 23 39 HT_.out ?_
             refine pu 24 40 HT_.out ?_
             refine pu 25 41 HT_.out ?_
             refine pu 26 42 HT_.out ?_
             refine tk 4 20 HT_.out HW_.out hHeld ?_
             refine pu 5 21 HT_.out ?_
             refine pu 6 22 HT_.out ?_
             refine tk 11 27 HT_.out HW_.out hHeld ?_
             refine pu 12 28 HT_.out ?_
             refine pu 13 29 HT_.out ?_
             refine pu 14 30 HT_.out ?_
             refine tk 19 35 HT_.out HW_.out hHeld ?_
             refine pu 20 36 HT_.out ?_
             refine pu 21 37 HT_.out ?_
             refine pu 22 38 HT_.out ?_
             refine tk 27 43 HT_.out HW_.out hHeld ?_
             refine pu 28 44 HT_.out ?_
             refine pu 29 45 HT_.out ?_
             refine one_ (i:=30) (N:=some 46) #[true,true,true,true,true,true,true,true,true,true,true,true,true,true,true,true,true,true,true,true,true,true,true,true,true,true,true,true,true,true,true,false,false] rfl rfl (one_of HT_.out (by kernel_rfl)) (by decide) (fun K hK=>?_)
             refine value_ (w1:=?_) (v:=?_) (by rfl) rfl ?_ ?_
             rotate_left 2
             ·go_simp
              constructor
              ·rfl
              rfl
             refine hK.out _ _ ⟨(World.cell?_alloc_lt _ _ _ (World.block_lt_of_cell? _ _ ((jcB HB.out E0:)))).trans ((jcB HB.out E0:)),(World.cell?_alloc_lt _ _ _ (World.block_lt_of_cell? _ _ ((jcB HB.out G0:)))).trans ((jcB HB.out G0:)),(World.cell?_alloc_lt _ _ _ (World.block_lt_of_cell? _ _ ((jcB HB.out I0:)))).trans ((jcB HB.out I0:)),(World.cell?_alloc_lt _ _ _ (World.block_lt_of_cell? _ _ ((jcB HB.out K0:)))).trans ((jcB HB.out K0:))⟩ (fun hHeld=>?_)
             clear hK K
             refine norm_ (a':=?_) ?_ ?_
             rotate_left
             ·show Act.put _ (some 46) _=_
              simp only[Act.put,zaq,zbj,zbk,i64_w,i32_w]
              rfl
             refine one_ (i:=31) (N:=some 47) #[true,true,true,true,true,true,true,true,true,true,true,true,true,true,true,true,true,true,true,true,true,true,true,true,true,true,true,true,true,true,true,true,false] rfl rfl (one_of HT_.out (by kernel_rfl)) (by decide) (fun K hK=>?_)
             refine Kd.R_append_step (Kd.int .i64) (w0:=w) w.heap.size (by rfl) (.tmp 16) (.tmp 46) 110 3 (.int .i64 0) 8 rfl Try.underlying110 info3 rfl (by decide) (by omega) u5 B0 (Go.bits .or .i64 (Go.bits .or .i64 (Go.bits .or .i64 (wrap64 ((wrap64 (rd l0 o0))*16777216)) (wrap64 ((wrap64 (rd l0 (ji9)))*65536))) (wrap64 ((wrap64 (rd l0 (ji12)))*256))) (wrap64 (rd l0 (ji15)))) [.int .i64 (Go.bits .or .i64 (Go.bits .or .i64 (Go.bits .or .i64 (wrap64 ((wrap64 (rd l0 o0))*16777216)) (wrap64 ((wrap64 (rd l0 (ji9)))*65536))) (wrap64 ((wrap64 (rd l0 (ji12)))*256))) (wrap64 (rd l0 (ji15))))] (fun _=>True) (fun _=>False) rfl rfl ?aP (fun _ hk=>hk.elim) ?aF ?aO ?aB ?aS ?aL ?_
             (case aP=>exact rfl)
             (case aB=>exact bq)
             (case aF=>exact(fun _ _=>trivial))
             (case aO=>exact(pR C0.out))
             (case aS=>exact(zal bq))
             (case aL=>have:=X1.out;omega)
             intro v649 w19 ho hb hg hat
             rw[← Z1.out] at ho
             have n_:=jA2 (hb) (ho)
             clear HB C0
             obtain⟨HB,B2⟩:=n_
             clear ho hb hg hat
             refine hK.out _ _ ⟨(jcB HB.out E0:),(jcB HB.out G0:),(jcB HB.out I0:),(jcB HB.out K0:)⟩ (fun hHeld=>?_)
             clear hK K
             refine norm_ (a':=?_) ?_ ?_
             rotate_left
             ·show Act.put _ (some 47) _=_
              simp only[Act.put,zaq,zbj,zbk,i64_w,i32_w]
              rfl
             refine pu 32 5 HT_.out ?_
             refine done_ (done_of HT_.out (by kernel_rfl)) ?_
             try go_wp2
             go_roundg k1
             case measure=>have:=J2.out;omega
             case rel=>exact⟨(Y1),(wrap64 (o0+4)),jer,H',⟨by have:=J2.out;omega⟩,⟨pR B2.out⟩,⟨bq⟩⟩
            rw[if_neg O2] at H
            exact absurd H (by simp)
           rw[if_neg N2] at H
           exact absurd H (by simp)
          rw[if_neg M2] at H
          exact absurd H (by simp)
         rw[if_neg c13] at H
         exact absurd H (by simp)
        rw[if_neg K2] at H
        exact absurd H (by simp)
       rw[if_neg c10] at H
       exact absurd H (by simp)
      rw[if_neg c8] at H
      exact absurd H (by simp)
     rw[if_neg c7] at H
     exact absurd H (by simp)
    replace c6:=zcp.mpr c6
    subst c6
    rw[if_neg (show ¬(false=true) by decide)] at H
    obtain⟨ji20,hji20⟩:∃ j_:Int,(wrap64 (o0+3))=j_:=⟨_,rfl⟩
    replace H:(if 0≤(ji20) then(if 0≤(wrap64 (o0+2)) then(if(wrap64 (o0+2))<(l0.length:Int) then(if 0≤(wrap64 (o0+1)) then(if(wrap64 (o0+1))<(l0.length:Int) then(if 0≤o0 then(if o0<(l0.length:Int) then(if B0.length<17592186044416 then(spec_Words.l0 k1 l0 false (B0++[Go.bits .or .i64 (Go.bits .or .i64 (Go.bits .or .i64 (wrap64 ((wrap64 (rd l0 (ji20)))*16777216)) (wrap64 ((wrap64 (rd l0 (wrap64 (o0+2))))*65536))) (wrap64 ((wrap64 (rd l0 (wrap64 (o0+1))))*256))) (wrap64 (rd l0 o0))]) (wrap64 (o0+4))) else(none)) else(none)) else(none)) else(none)) else(none)) else(none)) else(none)) else(none))=some r:=by first | (rw[hji20] at H;exact H) | (simp only[hji20] at H ⊢;exact H)
    (try rw[hji20] at Z0)
    have hji20w:(IntKind.i64.wrap (o0+3))=ji20:=(i64_w _).trans hji20
    by_cases P2:0≤(ji20)
    ·rw[if_pos P2] at H
     have I3:=zae P2
     clear P2
     obtain⟨ji22,hji22⟩:∃ j_:Int,(wrap64 (o0+2))=j_:=⟨_,rfl⟩
     replace H:(if 0≤(ji22) then(if(ji22)<(l0.length:Int) then(if 0≤(wrap64 (o0+1)) then(if(wrap64 (o0+1))<(l0.length:Int) then(if 0≤o0 then(if o0<(l0.length:Int) then(if B0.length<17592186044416 then(spec_Words.l0 k1 l0 false (B0++[Go.bits .or .i64 (Go.bits .or .i64 (Go.bits .or .i64 (wrap64 ((wrap64 (rd l0 (ji20)))*16777216)) (wrap64 ((wrap64 (rd l0 (ji22)))*65536))) (wrap64 ((wrap64 (rd l0 (wrap64 (o0+1))))*256))) (wrap64 (rd l0 o0))]) (wrap64 (o0+4))) else(none)) else(none)) else(none)) else(none)) else(none)) else(none)) else(none))=some r:=by first | (rw[hji22] at H;exact H) | (simp only[hji22] at H ⊢;exact H)
     have hji22w:(IntKind.i64.wrap (o0+2))=ji22:=(i64_w _).trans hji22
     by_cases Q2:0≤(ji22)
     ·rw[if_pos Q2] at H
      have J3:=zae Q2
      clear Q2
      by_cases R2:(ji22)<(l0.length:Int)
      ·rw[if_pos R2] at H
       have K3:=zae R2
       clear R2
       obtain⟨ji25,hji25⟩:∃ j_:Int,(wrap64 (o0+1))=j_:=⟨_,rfl⟩
       replace H:(if 0≤(ji25) then(if(ji25)<(l0.length:Int) then(if 0≤o0 then(if o0<(l0.length:Int) then(if B0.length<17592186044416 then(spec_Words.l0 k1 l0 false (B0++[Go.bits .or .i64 (Go.bits .or .i64 (Go.bits .or .i64 (wrap64 ((wrap64 (rd l0 (ji20)))*16777216)) (wrap64 ((wrap64 (rd l0 (ji22)))*65536))) (wrap64 ((wrap64 (rd l0 (ji25)))*256))) (wrap64 (rd l0 o0))]) (wrap64 (o0+4))) else(none)) else(none)) else(none)) else(none)) else(none))=some r:=by first | (rw[hji25] at H;exact H) | (simp only[hji25] at H ⊢;exact H)
       have hji25w:(IntKind.i64.wrap (o0+1))=ji25:=(i64_w _).trans hji25
       by_cases T2:0≤(ji25)
       ·rw[if_pos T2] at H
        have L3:=zae T2
        clear T2
        by_cases U2:(ji25)<(l0.length:Int)
        ·rw[if_pos U2] at H
         have M3:=zae U2
         clear U2
         by_cases V2:0≤o0
         ·rw[if_pos V2] at H
          have N3:=zae V2
          clear V2
          by_cases X2:o0<(l0.length:Int)
          ·rw[if_pos X2] at H
           have O3:=zae X2
           clear X2
           by_cases Y2:B0.length<17592186044416
           ·rw[if_pos Y2] at H
            have C2:=Aside0.mk Y2
            clear Y2
            obtain⟨D2,X0⟩:∃ y_:List Int,y_=(B0++[Go.bits .or .i64 (Go.bits .or .i64 (Go.bits .or .i64 (wrap64 ((wrap64 (rd l0 (ji20)))*16777216)) (wrap64 ((wrap64 (rd l0 (ji22)))*65536))) (wrap64 ((wrap64 (rd l0 (ji25)))*256))) (wrap64 (rd l0 o0))]):=⟨_,rfl⟩
            replace H:(spec_Words.l0 k1 l0 false D2 (wrap64 (o0+4)))=some r:=jrw X0 H
            have E2:=Aside0.mk X0
            clear X0
            have H':=Aside0.mk H
            clear H
            try go_wp2
            have n_:=jA2 (zbs C0.out) (zba HB.out)
            clear C0 HB
            obtain⟨C0,HB⟩:=n_
            have J1:0≤((ji20):Int):=zad jab
            have K1:(ji20)<(l0.length:Int):=zad jab
            obtain⟨U0,o3,L0⟩:=zfk HR0.out (ji20) J1 K1
            have M0:=L0
            cases o3
            replace L0:=jcB HB.out L0
            replace J1:=zbr J1
            replace K1:=zbr K1
            have M1:0≤((ji22):Int):=zad jab
            have N1:(ji22)<(l0.length:Int):=zad jab
            obtain⟨F2,t3,N0⟩:=zfk HR0.out (ji22) M1 N1
            have O0:=N0
            obtain rfl:U0=F2:=(by injection t3)
            replace N0:=jcB HB.out N0
            replace M1:=zbr M1
            replace N1:=zbr N1
            have O1:0≤((ji25):Int):=zad jab
            have P1:(ji25)<(l0.length:Int):=zad jab
            obtain⟨G2,B3,P0⟩:=zfk HR0.out (ji25) O1 P1
            have Q0:=P0
            obtain rfl:U0=G2:=(by injection B3)
            replace P0:=jcB HB.out P0
            replace O1:=zbr O1
            replace P1:=zbr P1
            have Q1:0≤(o0:Int):=zad jab
            have R1:o0<(l0.length:Int):=zad jab
            obtain⟨H2,C3,R0⟩:=zfk HR0.out o0 Q1 R1
            have S0:=R0
            obtain rfl:U0=H2:=(by injection C3)
            replace R0:=jcB HB.out R0
            replace Q1:=zbr Q1
            replace R1:=zbr R1
            refine start_ (n:=33) (S:=fun w'=>w'.cell? (U0.add ((ji20)).toNat)=some (.int .u8 (rd l0 (ji20)))∧w'.cell? (U0.add ((ji22)).toNat)=some (.int .u8 (rd l0 (ji22)))∧w'.cell? (U0.add ((ji25)).toNat)=some (.int .u8 (rd l0 (ji25)))∧w'.cell? (U0.add (o0).toNat)=some (.int .u8 (rd l0 o0))) (ds:=[]) #[false,false,false,false,false,false,false,false,false,false,false,false,false,false,false,false,false,false,false,false,false,false,false,false,false,false,false,false,false,false,false,false,false] (by kernel_rfl) rfl rfl ⟨(jcB HB.out M0:),(jcB HB.out O0:),(jcB HB.out Q0:),(jcB HB.out S0:)⟩ (fun hHeld=>?_);refine with_tabW spec_Words.tab7 spec_Words.bits7 (fun HT_ HW_=>?_)
            generalize wr.drew=w31 at C0 HB L0 N0 P0 R0 hHeld ⊢
            refine pu 0 48 HT_.out ?_
            refine pu 1 49 HT_.out ?_
            refine pu 2 50 HT_.out ?_
            refine pu 3 51 HT_.out ?_
            refine pu 4 52 HT_.out ?_
            refine pu 8 56 HT_.out ?_
            refine pu 9 57 HT_.out ?_
            refine pu 10 58 HT_.out ?_
            refine pu 11 59 HT_.out ?_
            refine pu 16 64 HT_.out ?_
            refine pu 17 65 HT_.out ?_
            refine pu 18 66 HT_.out ?_
            refine pu 19 67 HT_.out ?_
            refine pu 24 72 HT_.out ?_
            refine pu 25 73 HT_.out ?_
            refine pu 26 74 HT_.out ?_
            refine tk 5 53 HT_.out HW_.out hHeld ?_
            refine pu 6 54 HT_.out ?_
            refine pu 7 55 HT_.out ?_
            refine tk 12 60 HT_.out HW_.out hHeld ?_
            refine pu 13 61 HT_.out ?_
            refine pu 14 62 HT_.out ?_
            refine pu 15 63 HT_.out ?_
            refine tk 20 68 HT_.out HW_.out hHeld ?_
            refine pu 21 69 HT_.out ?_
            refine pu 22 70 HT_.out ?_
            refine pu 23 71 HT_.out ?_
            refine tk 27 75 HT_.out HW_.out hHeld ?_
            refine pu 28 76 HT_.out ?_
            refine pu 29 77 HT_.out ?_
            refine one_ (i:=30) (N:=some 78) #[true,true,true,true,true,true,true,true,true,true,true,true,true,true,true,true,true,true,true,true,true,true,true,true,true,true,true,true,true,true,true,false,false] rfl rfl (one_of HT_.out (by kernel_rfl)) (by decide) (fun K hK=>?_)
            refine value_ (w1:=?_) (v:=?_) (by rfl) rfl ?_ ?_
            rotate_left 2
            ·go_simp
             constructor
             ·rfl
             rfl
            refine hK.out _ _ ⟨(World.cell?_alloc_lt _ _ _ (World.block_lt_of_cell? _ _ ((jcB HB.out M0:)))).trans ((jcB HB.out M0:)),(World.cell?_alloc_lt _ _ _ (World.block_lt_of_cell? _ _ ((jcB HB.out O0:)))).trans ((jcB HB.out O0:)),(World.cell?_alloc_lt _ _ _ (World.block_lt_of_cell? _ _ ((jcB HB.out Q0:)))).trans ((jcB HB.out Q0:)),(World.cell?_alloc_lt _ _ _ (World.block_lt_of_cell? _ _ ((jcB HB.out S0:)))).trans ((jcB HB.out S0:))⟩ (fun hHeld=>?_)
            clear hK K
            refine norm_ (a':=?_) ?_ ?_
            rotate_left
            ·show Act.put _ (some 78) _=_
             simp only[Act.put,zaq,zbj,zbk,i64_w,i32_w]
             rfl
            refine one_ (i:=31) (N:=some 79) #[true,true,true,true,true,true,true,true,true,true,true,true,true,true,true,true,true,true,true,true,true,true,true,true,true,true,true,true,true,true,true,true,false] rfl rfl (one_of HT_.out (by kernel_rfl)) (by decide) (fun K hK=>?_)
            refine Kd.R_append_step (Kd.int .i64) (w0:=w) w.heap.size (by rfl) (.tmp 48) (.tmp 78) 110 3 (.int .i64 0) 8 rfl Try.underlying110 info3 rfl (by decide) (by omega) u5 B0 (Go.bits .or .i64 (Go.bits .or .i64 (Go.bits .or .i64 (wrap64 ((wrap64 (rd l0 (ji20)))*16777216)) (wrap64 ((wrap64 (rd l0 (ji22)))*65536))) (wrap64 ((wrap64 (rd l0 (ji25)))*256))) (wrap64 (rd l0 o0))) [.int .i64 (Go.bits .or .i64 (Go.bits .or .i64 (Go.bits .or .i64 (wrap64 ((wrap64 (rd l0 (ji20)))*16777216)) (wrap64 ((wrap64 (rd l0 (ji22)))*65536))) (wrap64 ((wrap64 (rd l0 (ji25)))*256))) (wrap64 (rd l0 o0)))] (fun _=>True) (fun _=>False) rfl rfl ?aP (fun _ hk=>hk.elim) ?aF ?aO ?aB ?aS ?aL ?_
            (case aP=>exact rfl)
            (case aB=>exact bq)
            (case aF=>exact(fun _ _=>trivial))
            (case aO=>exact(pR C0.out))
            (case aS=>exact(zal bq))
            (case aL=>have:=C2.out;omega)
            intro v656 w32 ho hb hg hat
            rw[← E2.out] at ho
            have n_:=jA2 (hb) (ho)
            clear HB C0
            obtain⟨HB,I2⟩:=n_
            clear ho hb hg hat
            refine hK.out _ _ ⟨(jcB HB.out M0:),(jcB HB.out O0:),(jcB HB.out Q0:),(jcB HB.out S0:)⟩ (fun hHeld=>?_)
            clear hK K
            refine norm_ (a':=?_) ?_ ?_
            rotate_left
            ·show Act.put _ (some 79) _=_
             simp only[Act.put,zaq,zbj,zbk,i64_w,i32_w]
             rfl
            refine pu 32 5 HT_.out ?_
            refine done_ (done_of HT_.out (by kernel_rfl)) ?_
            try go_wp2
            go_roundg k1
            case measure=>have:=J2.out;omega
            case rel=>exact⟨(D2),(wrap64 (o0+4)),jer,H',⟨by have:=J2.out;omega⟩,⟨pR I2.out⟩,⟨bq⟩⟩
           rw[if_neg Y2] at H
           exact absurd H (by simp)
          rw[if_neg X2] at H
          exact absurd H (by simp)
         rw[if_neg V2] at H
         exact absurd H (by simp)
        rw[if_neg U2] at H
        exact absurd H (by simp)
       rw[if_neg T2] at H
       exact absurd H (by simp)
      rw[if_neg R2] at H
      exact absurd H (by simp)
     rw[if_neg Q2] at H
     exact absurd H (by simp)
    rw[if_neg P2] at H
    exact absurd H (by simp)
   rw[if_neg c5] at H
   have Z0:=zbf c5
   clear c5
   obtain rfl:=Option.some.inj H
   go_wp2
   go_ret
   exact⟨_,jex,by(with_reducible repeat(first | apply zbl | apply zbm | apply zbs));exact C0.out,bq⟩
end Go.Proofs.Ytlalkldjpniakaa.P
