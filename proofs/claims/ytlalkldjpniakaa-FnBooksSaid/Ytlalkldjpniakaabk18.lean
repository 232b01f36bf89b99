import Derived.Test.Ytlalkldjpniakaabk6
namespace Go.Proofs.Ytlalkldjpniakaa.P
open Go.RowKit Go.Proofs.YtlalkldjpniakaaW.PrintWords Go.Proofs.YtlalkldjpniakaaW.PrintLast Go.Proofs.YtlalkldjpniakaaW.PrintMore
attribute [local go_sem] zck zcl zdl zdm zbz zca zcm zcn -- for this text's walks alone
set_option linter.unusedVariables false
set_option linter.unusedSimpArgs false
set_option maxHeartbeats 8000000
set_option maxRecDepth 100000

def spec_Hex.l0:Nat→List Int→ByteArray→List Int→Int→Option (ByteArray)
 | 0,_,_,_,_=>none
 | k+1,x0,x3,x4,x5=>if x5<(x0.length:Int) then(if 0≤x5 then(if 0≤((rd x0 x5) / 16) then(if((rd x0 x5) / 16)<(x3.size:Int) then(if 0≤(Go.bits .and .u8 (rd x0 x5) 15) then(if(Go.bits .and .u8 (rd x0 x5) 15)<(x3.size:Int) then((some (([bt x3 ((rd x0 x5) / 16),bt x3 (Go.bits .and .u8 (rd x0 x5) 15)]:List Int):List Int)).bind fun y663=>(if x4.length+y663.length<140737488355328 then(spec_Hex.l0 k x0 x3 (x4++y663) (wrap64 (x5+1))) else(none))) else(none)) else(none)) else(none)) else(none)) else(none)) else(some (strOfNums x4))
def spec_Hex.f (k:Nat) (l0:List Int):Option (ByteArray):=spec_Hex.l0 k l0 (⟨#[48,49,50,51,52,53,54,55,56,57,97,98,99,100,101,102]⟩:ByteArray) (([]:List Int)) 0
theorem spec_Hex.mono_l:∀ k,(∀ y0 y1 y2 y3,LeO (spec_Hex.l0 k y0 y1 y2 y3) (spec_Hex.l0 (k+1) y0 y1 y2 y3))
 | 0=>fun _ _ _ _ r h=>by simp [spec_Hex.l0] at h
 | k+1=>by
  have ih0:=spec_Hex.mono_l k
  intro y0 y1 y2 y3
  unfold spec_Hex.l0
  exact mt
theorem spec_Hex.mono:∀ a0 k,LeO (spec_Hex.f k a0) (spec_Hex.f (k+1) a0):=by
 intro a0 k
 have ih0:=spec_Hex.mono_l k
 unfold spec_Hex.f
 exact mt
def spec_Hex.T6:Bool×List (List Nat×List Nat):=(true,[([],[]),([],[]),([],[]),([],[]),([2,3],[2,3]),([4],[4]),([5],[5]),([1,6],[1,6]),([],[]),([],[]),([],[]),([9,10],[9,10]),([11],[11]),([12],[12]),([8,13],[8,13]),([7,14],[7,14]),([0,15],[0,15]),([16,16,0,1,2,3,4,5,6,7,8,9,10,11,12,13,14,15,16],[0,16])])
def spec_Hex.B6:List Nat:=[0,0,0,0,12,28,60,126,0,0,0,1536,3584,7680,16128,32766,65535,131071]
theorem spec_Hex.tab6:rtab .any (opsOf Try.f112 6)=spec_Hex.T6:=by kernel_rfl
theorem spec_Hex.bits6:waitsOk spec_Hex.T6.2 spec_Hex.B6=true:=by kernel_rfl
theorem spec_Hex.calls (k:Nat) (A0:Option Addr) (c0:Nat) (l0:List Int) (r:ByteArray) (w:World) (hr0:Kd.C (Kd.int .u8) w A0 l0.length l0) (hc0:l0.length≤c0) (h:spec_Hex.f k l0=some r):
  Calls Try.prog 112 #[.slice A0 l0.length c0] w fun e w'=>e= .returned (.string r)∧Below w.heap.size w w':=by
 have HR0:=Aside0.mk hr0
 have S1:=Aside0.mk hc0
 clear hr0 hc0
 have HB:=Aside0.mk (zbo w.heap.size w)
 have H:(spec_Hex.l0 k l0 (⟨#[48,49,50,51,52,53,54,55,56,57,97,98,99,100,101,102]⟩:ByteArray) (([]:List Int)) 0)=some r:=h
 clear h
 obtain⟨U0,K0⟩:∃ y_:List Int,y_=(([]:List Int)):=⟨_,rfl⟩
 replace H:(spec_Hex.l0 k l0 (⟨#[48,49,50,51,52,53,54,55,56,57,97,98,99,100,101,102]⟩:ByteArray) U0 0)=some r:=jrw K0 H
 have O0:=Aside0.mk K0
 clear K0
 have H':=Aside0.mk H
 clear H
 go_enter Try.func112,Try.ntmps112
 go_wp2_with (first | (refine jgd 6 ?_;refine jlt 6 (Kd.int .u8) 5 ?_;intro v659 w2 V0 hb;have xb_:=below_ofs bq hb;(first | rw[← O0.out] at V0 | (simp only[Int.reduceToNat] at V0;rw[← O0.out] at V0));have n_:=jA2 (zax V0 (zal xb_)) (zac xb_ hb);clear HB;obtain⟨W0,HB⟩:=n_;clear xb_ hb V0))
 go_loopg [4,5] k (fun kq v4 v5 w'=>∃ (H0:List Int) (o0:Int),v5= .int .i64 o0∧Aside0 (spec_Hex.l0 kq l0 (⟨#[48,49,50,51,52,53,54,55,56,57,97,98,99,100,101,102]⟩:ByteArray) H0 o0=some r)∧Aside0 (kq≤k)∧Aside0 (Kd.R (Kd.int .u8) 5 w' w.heap.size (fun _=>True) v4 H0)∧Aside0 (Below w.heap.size w w'))
 case atStart=>exact⟨(U0),(0),jer,H',⟨zaf _⟩,⟨pR W0.out⟩,⟨bq⟩⟩
 case round=>
  clear H'
  try clear c1
  try clear p2
  obtain⟨H0,o0,rfl,HA,J1,D0,HB⟩:=hrel
  cases gk with
  | zero=>exact absurd HA.out (by simp [spec_Hex.l0])
  | succ k1=>
   have H:=HA.out
   clear HA
   simp only[spec_Hex.l0] at H
   by_cases c4:o0<(l0.length:Int)
   ·rw[if_pos c4] at H
    have E1:=zae c4
    clear c4
    by_cases c5:0≤o0
    ·rw[if_pos c5] at H
     have O1:=zae c5
     clear c5
     obtain⟨ji6,hji6⟩:∃ j_:Int,((rd l0 o0) / 16)=j_:=⟨_,rfl⟩
     replace H:(if 0≤(ji6) then(if(ji6)<((⟨#[48,49,50,51,52,53,54,55,56,57,97,98,99,100,101,102]⟩:ByteArray).size:Int) then(if 0≤(Go.bits .and .u8 (rd l0 o0) 15) then(if(Go.bits .and .u8 (rd l0 o0) 15)<((⟨#[48,49,50,51,52,53,54,55,56,57,97,98,99,100,101,102]⟩:ByteArray).size:Int) then((some (([bt (⟨#[48,49,50,51,52,53,54,55,56,57,97,98,99,100,101,102]⟩:ByteArray) (ji6),bt (⟨#[48,49,50,51,52,53,54,55,56,57,97,98,99,100,101,102]⟩:ByteArray) (Go.bits .and .u8 (rd l0 o0) 15)]:List Int):List Int)).bind fun I0=>(if H0.length+I0.length<140737488355328 then(spec_Hex.l0 k1 l0 (⟨#[48,49,50,51,52,53,54,55,56,57,97,98,99,100,101,102]⟩:ByteArray) (H0++I0) (wrap64 (o0+1))) else(none))) else(none)) else(none)) else(none)) else(none))=some r:=by first | (rw[hji6] at H;exact H) | (simp only[hji6] at H ⊢;exact H)
     by_cases c7:0≤(ji6)
     ·rw[if_pos c7] at H
      have P1:=zae c7
      clear c7
      by_cases c8:(ji6)<((⟨#[48,49,50,51,52,53,54,55,56,57,97,98,99,100,101,102]⟩:ByteArray).size:Int)
      ·rw[if_pos c8] at H
       have Q1:=zae c8
       clear c8
       by_cases c10:0≤(Go.bits .and .u8 (rd l0 o0) 15)
       ·rw[if_pos c10] at H
        have K1:=zae c10
        clear c10
        by_cases D1:(Go.bits .and .u8 (rd l0 o0) 15)<((⟨#[48,49,50,51,52,53,54,55,56,57,97,98,99,100,101,102]⟩:ByteArray).size:Int)
        ·rw[if_pos D1] at H
         have M1:=zae D1
         clear D1
         obtain⟨I0,L0⟩:∃ y_:List Int,y_=(([bt (⟨#[48,49,50,51,52,53,54,55,56,57,97,98,99,100,101,102]⟩:ByteArray) (ji6),bt (⟨#[48,49,50,51,52,53,54,55,56,57,97,98,99,100,101,102]⟩:ByteArray) (Go.bits .and .u8 (rd l0 o0) 15)]:List Int)):=⟨_,rfl⟩
         replace H:=bto L0 H
         have P0:=Aside0.mk L0
         clear L0
         by_cases c13:H0.length+I0.length<140737488355328
         ·rw[if_pos c13] at H
          have LMc13:=Aside0.mk c13
          clear c13
          obtain⟨X0,M0⟩:∃ y_:List Int,y_=(H0++I0):=⟨_,rfl⟩
          replace H:(spec_Hex.l0 k1 l0 (⟨#[48,49,50,51,52,53,54,55,56,57,97,98,99,100,101,102]⟩:ByteArray) X0 (wrap64 (o0+1)))=some r:=jrw M0 H
          have Y0:=Aside0.mk M0
          clear M0
          have H':=Aside0.mk H
          clear H
          try go_wp2
          have n_:=jA2 (zbs D0.out) (zba HB.out)
          clear D0 HB
          obtain⟨D0,HB⟩:=n_
          have Q0:0≤(o0:Int):=zad jab
          have R0:o0<(l0.length:Int):=zad jab
          obtain⟨N0,F1,B0⟩:=zfk HR0.out o0 Q0 R0
          have F0:=B0
          cases F1
          replace B0:=jcB HB.out B0
          replace Q0:=zbr Q0
          replace R0:=zbr R0
          have p9:0≤((ji6):Int):=zad jab
          have q9:(ji6)<(16:Int):=zad jab
          have U1:=bt_at (⟨#[48,49,50,51,52,53,54,55,56,57,97,98,99,100,101,102]⟩:ByteArray) (ji6)
          replace p9:=zbr p9
          replace q9:=zbr q9
          have S0:0≤(o0:Int):=zad jab
          have T0:o0<(l0.length:Int):=zad jab
          obtain⟨Z0,G1,C0⟩:=zfk HR0.out o0 S0 T0
          have G0:=C0
          obtain rfl:N0=Z0:=(by injection G1)
          replace C0:=jcB HB.out C0
          replace S0:=zbr S0
          replace T0:=zbr T0
          have p12:0≤((Go.bits .and .u8 (rd l0 o0) 15):Int):=zad jab
          have N1:(Go.bits .and .u8 (rd l0 o0) 15)<(16:Int):=zad jab
          have R1:=bt_at (⟨#[48,49,50,51,52,53,54,55,56,57,97,98,99,100,101,102]⟩:ByteArray) (Go.bits .and .u8 (rd l0 o0) 15)
          replace p12:=zbr p12
          replace N1:=zbr N1
          refine start_ (n:=18) (S:=fun w'=>w'.cell? (N0.add (o0).toNat)=some (.int .u8 (rd l0 o0))∧w'.cell? (N0.add (o0).toNat)=some (.int .u8 (rd l0 o0))) (ds:=[]) #[false,false,false,false,false,false,false,false,false,false,false,false,false,false,false,false,false,false] (by kernel_rfl) rfl rfl ⟨(jcB HB.out F0:),(jcB HB.out G0:)⟩ (fun hHeld=>?_);refine with_tabW spec_Hex.tab6 spec_Hex.bits6 (fun HT_ HW_=>?_)
          generalize wr.drew=w14 at D0 HB B0 C0 hHeld ⊢
          refine pu 0 13 HT_.out ?_
          refine pu 1 14 HT_.out ?_
          refine pu 2 15 HT_.out ?_
          refine pu 3 16 HT_.out ?_
          refine pu 4 17 HT_.out ?_
          refine pu 8 21 HT_.out ?_
          refine pu 9 22 HT_.out ?_
          refine pu 10 23 HT_.out ?_
          refine pu 11 24 HT_.out ?_
          refine tk 5 18 HT_.out HW_.out hHeld ?_
          refine pu 6 19 HT_.out ?_
          refine tk 7 20 HT_.out HW_.out hHeld ?_
          refine tk 12 25 HT_.out HW_.out hHeld ?_
          refine pu 13 26 HT_.out ?_
          refine tk 14 27 HT_.out HW_.out hHeld ?_
          refine one_ (i:=15) (N:=some 28) #[true,true,true,true,true,true,true,true,true,true,true,true,true,true,true,true,false,false] rfl rfl (one_of HT_.out (by kernel_rfl)) (by decide) (fun K hK=>?_)
          refine Kd.R_lit_step (Kd.int .u8) _ 5 ?hg (N:=28) ?hd (xs:=([bt (⟨#[48,49,50,51,52,53,54,55,56,57,97,98,99,100,101,102]⟩:ByteArray) (ji6),bt (⟨#[48,49,50,51,52,53,54,55,56,57,97,98,99,100,101,102]⟩:ByteArray) (Go.bits .and .u8 (rd l0 o0) 15)]:List Int)) (inner:=[.int .u8 (bt (⟨#[48,49,50,51,52,53,54,55,56,57,97,98,99,100,101,102]⟩:ByteArray) (ji6)), .int .u8 (bt (⟨#[48,49,50,51,52,53,54,55,56,57,97,98,99,100,101,102]⟩:ByteArray) (Go.bits .and .u8 (rd l0 o0) 15))]) (ok:=fun _=>True) (okp:=fun _=>True) ?hr ?hp (fun _ hk=>hk) trivial (zbo _ _) (zaf _) (by simp) ?_;(case hd=>rfl);(case hg=>rfl);(case hr=>first | (go_simp;done) | (go_simp;rfl));(case hp=>exact(zdx (show Kd.M (Kd.int .u8) _ _ _ (bt (⟨#[48,49,50,51,52,53,54,55,56,57,97,98,99,100,101,102]⟩:ByteArray) (ji6)) [.int .u8 (bt (⟨#[48,49,50,51,52,53,54,55,56,57,97,98,99,100,101,102]⟩:ByteArray) (ji6))] from rfl) (zdx (show Kd.M (Kd.int .u8) _ _ _ (bt (⟨#[48,49,50,51,52,53,54,55,56,57,97,98,99,100,101,102]⟩:ByteArray) (Go.bits .and .u8 (rd l0 o0) 15)) [.int .u8 (bt (⟨#[48,49,50,51,52,53,54,55,56,57,97,98,99,100,101,102]⟩:ByteArray) (Go.bits .and .u8 (rd l0 o0) 15))] from rfl) (zfq _ _))))
          intro v664 w15 J0 hb hg_ hnew_
          clear hg_ hnew_
          (first | rw[← P0.out] at J0 | (simp only[Int.reduceToNat] at J0;rw[← P0.out] at J0))
          have n_:=jA3 (zbx (pR D0.out) (zbg J0) hb) (zax (zdg J0 (zce (pR D0.out))) (zal bq)) (zac bq hb)
          clear D0 HB
          obtain⟨D0,E0,HB⟩:=n_
          clear hb J0
          obtain⟨H1,I1,n1⟩:=zbd E0.out
          (first | subst n1 | (injection n1 with f1_ f2_ f3_;have f4_:=f1_.symm;have f5_:=f3_.symm;clear f1_ f2_ f3_;subst f4_;subst f5_))
          refine hK.out _ _ ⟨(jcB HB.out F0:),(jcB HB.out G0:)⟩ (fun hHeld=>?_)
          clear hK K
          refine norm_ (a':=?_) ?_ ?_
          rotate_left
          ·show Act.put _ (some 28) _=_
           simp only[Act.put,zaq,zbj,zbk,i64_w,i32_w]
           rfl
          refine one_ (i:=16) (N:=some 29) #[true,true,true,true,true,true,true,true,true,true,true,true,true,true,true,true,true,false] rfl rfl (one_of HT_.out (by kernel_rfl)) (by decide) (fun K hK=>?_)
          refine Kd.R_append_rows_step (Kd.int .u8) (w0:=w) w.heap.size (by rfl) (.tmp 13) (.tmp 28) 29 5 (.int .u8 0) 1 rfl Try.underlying29 info5 rfl (by decide) (by omega) u4 H0 I0 _ _ _ (fun k_=>some k_≠(.slice H1 I0.length I1:Value).ownBlock) (fun _=>False) rfl rfl ?aO ?aR (fun _ _ h=>h) (fun _ h=>h.elim) ?aF ?aB ?aS ?aL ?_
          (case aR=>repeat(first | exact(zbp E0.out).2.2 | (with_reducible refine zdd ?_ _) | (with_reducible refine zdq ?_ _) | (with_reducible refine zeb ?_)))
          (case aB=>exact bq)
          (case aF=>exact(fun k_ hk=>zdu (zce (pR E0.out)) k_ hk))
          (case aO=>exact(by(with_reducible repeat(first | apply zbl | apply zbm | apply zbs));exact zam D0.out (fun _ hk=>hk.2)))
          (case aS=>exact(zal bq))
          (case aL=>have:=LMc13.out;omega)
          intro v667 w17 ho hb hg hat
          rw[← Y0.out] at ho
          have n_:=jA3 (zdo (ok:=(fun _=>True)) (pR E0.out) hg hat) (hb) (ho)
          clear E0 HB D0
          obtain⟨E0,HB,C1⟩:=n_
          clear ho hb hg hat
          refine hK.out _ _ ⟨(jcB HB.out F0:),(jcB HB.out G0:)⟩ (fun hHeld=>?_)
          clear hK K
          refine norm_ (a':=?_) ?_ ?_
          rotate_left
          ·show Act.put _ (some 29) _=_
           simp only[Act.put,zaq,zbj,zbk,i64_w,i32_w]
           rfl
          refine pu 17 4 HT_.out ?_
          refine done_ (done_of HT_.out (by kernel_rfl)) ?_
          try go_wp2
          go_roundg k1
          case measure=>have:=J1.out;omega
          case rel=>exact⟨(X0),(wrap64 (o0+1)),jer,H',⟨by have:=J1.out;omega⟩,⟨tqR C1.out⟩,⟨bq⟩⟩
         rw[if_neg c13] at H
         exact absurd H (by simp)
        rw[if_neg D1] at H
        exact absurd H (by simp)
       rw[if_neg c10] at H
       exact absurd H (by simp)
      rw[if_neg c8] at H
      exact absurd H (by simp)
     rw[if_neg c7] at H
     exact absurd H (by simp)
    rw[if_neg c5] at H
    exact absurd H (by simp)
   rw[if_neg c4] at H
   have E1:=zbf c4
   clear c4
   obtain rfl:=Option.some.inj H
   have hcv19:=own_string (P:=Try.prog) Try.underlying29 Try.underlying5 Try.underlying9 (Kd.own_of_R D0.out)
   go_wp2
   go_ret
   exact⟨jex,bq⟩
def spec_Same.f (l0:List Int) (l1:List Int):Option (Bool):=some ((strOfNums l0).toList==(strOfNums l1).toList)
theorem spec_Same.calls (A0:Option Addr) (c0:Nat) (l0:List Int) (A1:Option Addr) (c1:Nat) (l1:List Int) (r:Bool) (w:World) (hr0:Kd.C (Kd.int .u8) w A0 l0.length l0) (hc0:l0.length≤c0) (hr1:Kd.C (Kd.int .u8) w A1 l1.length l1) (hc1:l1.length≤c1) (h:spec_Same.f l0 l1=some r):
  Calls Try.prog 113 #[.slice A0 l0.length c0, .slice A1 l1.length c1] w fun e w'=>e= .returned (.bool r)∧Drawn0 w w':=by
 have HR0:=Aside0.mk hr0
 have B0:=Aside0.mk hc0
 clear hr0 hc0
 have o0:=Aside0.mk hr1
 have C0:=Aside0.mk hc1
 clear hr1 hc1
 have H:(some ((strOfNums l0).toList==(strOfNums l1).toList))=some r:=h
 clear h
 obtain rfl:=Option.some.inj H
 have hcv3:=Kd.C_string (P:=Try.prog) (A:=A0) (c:=c0) Try.underlying29 Try.underlying5 Try.underlying9 HR0.out
 have hcv4:=Kd.C_string (P:=Try.prog) (A:=A1) (c:=c1) Try.underlying29 Try.underlying5 Try.underlying9 o0.out
 go_enter Try.func113,Try.ntmps113
 go_wp2
 go_ret
 exact⟨by first | rfl | (simp;done) | (simp [*];done),by repeat(first | exact Drawn0.refl _ | apply Drawn0.step)⟩
end Go.Proofs.Ytlalkldjpniakaa.P
