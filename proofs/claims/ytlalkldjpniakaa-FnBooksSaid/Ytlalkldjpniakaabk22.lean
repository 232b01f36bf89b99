import Derived.Test.Ytlalkldjpniakaabk6
namespace Go.Proofs.Ytlalkldjpniakaa.P
open Go.RowKit Go.Proofs.YtlalkldjpniakaaW.PrintWords Go.Proofs.YtlalkldjpniakaaW.PrintLast Go.Proofs.YtlalkldjpniakaaW.PrintMore
attribute [local go_sem] zck zcl zdl zdm zbz zca zcm zcn -- for this text's walks alone
set_option linter.unusedVariables false
set_option linter.unusedSimpArgs false
set_option maxHeartbeats 8000000
set_option maxRecDepth 100000

def laws_big.f (l0:List Int):Option (Bool):=some (decide ((l0.length:Int)>1048576))
theorem laws_big.calls (A0:Option Addr) (c0:Nat) (l0:List Int) (r:Bool) (w:World) (hr0:Kd.C (Kd.int .u8) w A0 l0.length l0) (hc0:l0.length≤c0) (h:laws_big.f l0=some r):
  Calls Try.prog 58 #[.slice A0 l0.length c0] w fun e w'=>e= .returned (.bool r)∧Drawn0 w w':=by
 have HR0:=Aside0.mk hr0
 have o0:=Aside0.mk hc0
 clear hr0 hc0
 have H:(some (decide ((l0.length:Int)>1048576)))=some r:=h
 clear h
 obtain rfl:=Option.some.inj H
 go_enter Try.func58,Try.ntmps58
 go_wp2
 go_ret
 exact⟨by first | rfl | (simp;done) | (simp [*];done),by repeat(first | exact Drawn0.refl _ | apply Drawn0.step)⟩
def laws_sameItem.f (a0_0:ByteArray) (a0_1:Int) (a0_2:Int) (l0_3:List Int) (a1_0:ByteArray) (a1_1:Int) (a1_2:Int) (l1_3:List Int):Option (Bool):=if a0_0.toList=a1_0.toList then(if a0_1=a1_1 then(if a0_2=a1_2 then(some ((strOfNums l0_3).toList==(strOfNums l1_3).toList)) else(some false)) else(some false)) else(some false)
theorem laws_sameItem.wk {P:Prop} (h:P:=by
 go_enter Try.func68,Try.ntmps68
 go_wp2_with (first | (refine jgd 2 ?_;refine bx 2 (#[.string a0_0, .int .i64 a0_1, .int .i64 a0_2, .slice A0_3 l0_3.length c0_3]) 34 ?_;intro gb987 hg w_ hbox hb;have xb_:=below_ofs bq hb;have n_:=jA4 (zac xb_ hb) (hbox) (ge0 hg xb_:w.heap.size≤gb987) (ge0 hg xb_:w.heap.size≤gb987);clear HB;obtain⟨HB,BK987,GW987,GE987⟩:=n_;clear xb_ hb hbox hg) | (refine jgd 3 ?_;refine bx 3 (#[.string a1_0, .int .i64 a1_1, .int .i64 a1_2, .slice A1_3 l1_3.length c1_3]) 34 ?_;intro gb988 hg w_ hbox hb;have n_:=jA7 (jbb BK987.out hb) (zac (bs1 GE987.out) hb) (hbox) (ge0 hg (bs1 GE987.out):w.heap.size≤gb988) (ge0 hg (bs1 GE987.out):w.heap.size≤gb988) (nl hg (pB BK987.out):gb987≠gb988) (ng hg (pB BK987.out):gb988≠gb987);clear BK987 HB;obtain⟨BK987,HB,BK988,GW988,GE988,NB987_988,NB988_987⟩:=n_;clear hb hbox hg;have hnb_:=NB987_988.out;have hnc_:=NB988_987.out;obtain⟨c0,c1,c2,c3,z0,z1,z2,z3⟩:=cz4 BK987.out;obtain⟨c0,c1,c2,c3,z0,z1,z2,z3⟩:=cz4 BK988.out;have hcv11:=Kd.C_string (P:=Try.prog) (A:=A0_3) (c:=c0_3) Try.underlying29 Try.underlying5 Try.underlying9 (zbc HR0_3.out HB.out);have hcv12:=Kd.C_string (P:=Try.prog) (A:=A1_3) (c:=c1_3) Try.underlying29 Try.underlying5 Try.underlying9 (zbc HR1_3.out HB.out)) | (refine jgd 3 ?_;refine bx 3 (#[.string a1_0, .int .i64 a1_1, .int .i64 a1_2, .slice A1_3 l1_3.length c1_3]) 34 ?_;intro gb988 hg w_ hbox hb;have n_:=jA7 (jbb BK987.out hb) (zac (bs1 GE987.out) hb) (hbox) (ge0 hg (bs1 GE987.out):w.heap.size≤gb988) (ge0 hg (bs1 GE987.out):w.heap.size≤gb988) (nl hg (pB BK987.out):gb987≠gb988) (ng hg (pB BK987.out):gb988≠gb987);clear BK987 HB;obtain⟨BK987,HB,BK988,GW988,GE988,NB987_988,NB988_987⟩:=n_;clear hb hbox hg;have hnb_:=NB987_988.out;have hnc_:=NB988_987.out;obtain⟨c0,c1,c2,c3,z0,z1,z2,z3⟩:=cz4 BK987.out;obtain⟨c0,c1,c2,c3,z0,z1,z2,z3⟩:=cz4 BK988.out))
 go_ret
 exact⟨jex,(bs2 GE987.out GE988.out)⟩):P:=h
theorem laws_sameItem.calls (a0_0:ByteArray) (a0_1:Int) (a0_2:Int) (A0_3:Option Addr) (c0_3:Nat) (l0_3:List Int) (a1_0:ByteArray) (a1_1:Int) (a1_2:Int) (A1_3:Option Addr) (c1_3:Nat) (l1_3:List Int) (r:Bool) (w:World) (hr0_3:Kd.C (Kd.int .u8) w A0_3 l0_3.length l0_3) (hc0_3:l0_3.length≤c0_3) (hr1_3:Kd.C (Kd.int .u8) w A1_3 l1_3.length l1_3) (hc1_3:l1_3.length≤c1_3) (h:laws_sameItem.f a0_0 a0_1 a0_2 l0_3 a1_0 a1_1 a1_2 l1_3=some r):
  Calls Try.prog 68 #[.agg #[.string a0_0, .int .i64 a0_1, .int .i64 a0_2, .slice A0_3 l0_3.length c0_3], .agg #[.string a1_0, .int .i64 a1_1, .int .i64 a1_2, .slice A1_3 l1_3.length c1_3]] w fun e w'=>e= .returned (.bool r)∧Below w.heap.size w w':=by
 have hu34:=Try.underlying34
 have HR0_3:=Aside0.mk hr0_3
 have G0:=Aside0.mk hc0_3
 clear hr0_3 hc0_3
 have HR1_3:=Aside0.mk hr1_3
 have H0:=Aside0.mk hc1_3
 clear hr1_3 hc1_3
 have HB:=Aside0.mk (zbo w.heap.size w)
 have H:(if a0_0.toList=a1_0.toList then(if a0_1=a1_1 then(if a0_2=a1_2 then(some ((strOfNums l0_3).toList==(strOfNums l1_3).toList)) else(some false)) else(some false)) else(some false))=some r:=h
 clear h
 by_cases c3:a0_0.toList=a1_0.toList
 ·rw[if_pos c3] at H
  have o0:=beqT c3
  have B0:=zbb.mpr c3
  clear c3
  by_cases c4:a0_1=a1_1
  ·rw[if_pos c4] at H
   have C0:=beqT c4
   have D0:=zbb.mpr c4
   clear c4
   by_cases c5:a0_2=a1_2
   ·rw[if_pos c5] at H
    have E0:=beqT c5
    have F0:=zbb.mpr c5
    clear c5
    obtain rfl:=Option.some.inj H
    exact laws_sameItem.wk
   rw[if_neg c5] at H
   have E0:=zau.mpr c5
   have F0:=zcz.mpr c5
   obtain rfl:=Option.some.inj H
   exact laws_sameItem.wk
  rw[if_neg c4] at H
  have C0:=zau.mpr c4
  have D0:=zcz.mpr c4
  obtain rfl:=Option.some.inj H
  exact laws_sameItem.wk
 rw[if_neg c3] at H
 have o0:=zau.mpr c3
 have B0:=zcz.mpr c3
 obtain rfl:=Option.some.inj H
 exact laws_sameItem.wk
def laws_sameItems.l0:Nat→List (S34)→List (S34)→Int→Option (Bool)
 | 0,_,_,_=>none
 | k+1,x0,x1,x5=>if x5<(x0.length:Int) then(if 0≤x5 then(if x5<(x1.length:Int) then((laws_sameItem.f ((rd_T34 x0 x5).f0) ((rd_T34 x0 x5).f1) ((rd_T34 x0 x5).f2) ((rd_T34 x0 x5).f3) ((rd_T34 x1 x5).f0) ((rd_T34 x1 x5).f1) ((rd_T34 x1 x5).f2) ((rd_T34 x1 x5).f3)).bind fun t991=>(if t991=true then(laws_sameItems.l0 k x0 x1 (wrap64 (x5+1))) else(some false))) else(none)) else(none)) else(some true)
def laws_sameItems.f (k:Nat) (l0:List (S34)) (l1:List (S34)):Option (Bool):=if(l0.length:Int)=(l1.length:Int) then(laws_sameItems.l0 k l0 l1 0) else(some false)
theorem laws_sameItems.mono_l:∀ k,(∀ y0 y1 y2,LeO (laws_sameItems.l0 k y0 y1 y2) (laws_sameItems.l0 (k+1) y0 y1 y2))
 | 0=>fun _ _ _ r h=>by simp [laws_sameItems.l0] at h
 | k+1=>by
  have ih0:=laws_sameItems.mono_l k
  intro y0 y1 y2
  unfold laws_sameItems.l0
  exact mt
theorem laws_sameItems.mono:∀ a0 a1 k,LeO (laws_sameItems.f k a0 a1) (laws_sameItems.f (k+1) a0 a1):=by
 intro a0 a1 k
 have ih0:=laws_sameItems.mono_l k
 unfold laws_sameItems.f
 exact mt
def laws_sameItems.T6:Bool×List (List Nat×List Nat):=(true,[([],[]),([],[]),([0,1],[0,1]),([2],[2]),([],[]),([],[]),([4,5],[4,5]),([6],[6]),([3,7],[3,7]),([8],[8])])
def laws_sameItems.B6:List Nat:=[0,0,3,7,0,0,48,112,255,511]
theorem laws_sameItems.tab6:rtab .any (opsOf Try.f67 6)=laws_sameItems.T6:=by kernel_rfl
theorem laws_sameItems.bits6:waitsOk laws_sameItems.T6.2 laws_sameItems.B6=true:=by kernel_rfl
theorem laws_sameItems.calls (k:Nat) (A0:Option Addr) (c0:Nat) (l0:List (S34)) (A1:Option Addr) (c1:Nat) (l1:List (S34)) (r:Bool) (w:World) (hr0:Kd.C k34 w A0 l0.length l0) (hc0:l0.length≤c0) (hr1:Kd.C k34 w A1 l1.length l1) (hc1:l1.length≤c1) (h:laws_sameItems.f k l0 l1=some r):
  Calls Try.prog 67 #[.slice A0 l0.length c0, .slice A1 l1.length c1] w fun e w'=>e= .returned (.bool r)∧Below w.heap.size w w':=by
 have hu34:=Try.underlying34
 have HR0:=Aside0.mk hr0
 have S1:=Aside0.mk hc0
 clear hr0 hc0
 have O1:=Aside0.mk hr1
 have U1:=Aside0.mk hc1
 clear hr1 hc1
 have HB:=Aside0.mk (zbo w.heap.size w)
 have H:(if(l0.length:Int)=(l1.length:Int) then(laws_sameItems.l0 k l0 l1 0) else(some false))=some r:=h
 clear h
 by_cases c3:(l0.length:Int)=(l1.length:Int)
 ·rw[if_pos c3] at H
  have E1:=beqT c3
  have F1:=zbb.mpr c3
  have G1:(l0.length==l1.length)=true:=by first | simpa using c3 | (simp at c3 ⊢;omega)
  clear c3
  have H':=Aside0.mk H
  clear H
  go_enter Try.func67,Try.ntmps67
  go_wp2
  go_loopg [5] k (fun kq v5 w'=>∃ (o0:Int),v5= .int .i64 o0∧Aside0 (laws_sameItems.l0 kq l0 l1 o0=some r)∧Aside0 (kq≤k)∧Aside0 (Below w.heap.size w w'))
  case atStart=>exact⟨(0),jer,H',⟨zaf _⟩,⟨bq⟩⟩
  case round=>
   clear H'
   try clear c1
   try clear p2
   try clear c3
   try clear E1
   try clear F1
   try clear G1
   obtain⟨o0,rfl,HA,P1,HB⟩:=hrel
   cases gk with
   | zero=>exact absurd HA.out (by simp [laws_sameItems.l0])
   | succ k1=>
    have H:=HA.out
    clear HA
    simp only[laws_sameItems.l0] at H
    by_cases c4:o0<(l0.length:Int)
    ·rw[if_pos c4] at H
     have H1:=zae c4
     clear c4
     by_cases c5:0≤o0
     ·rw[if_pos c5] at H
      have Q1:=zae c5
      clear c5
      by_cases c6:o0<(l1.length:Int)
      ·rw[if_pos c6] at H
       have R1:=zae c6
       clear c6
       obtain⟨I1,A7,H⟩:=bnd H
       by_cases c8:I1=true
       ·subst c8
        rw[if_pos rfl] at H
        have H':=Aside0.mk H
        clear H
        try go_wp2
        replace HB:=Aside0.mk (zba HB.out)
        obtain⟨J1,K1,B0,N0,O0,C1,D0,E0,F0,G0,R0,S0,T0,U0,V0,H0⟩:=jelw HR0.out HB.out o0
        cases C1
        obtain⟨M1,N1,C0,P0,Q0,D1,I0,J0,K0,L0,W0,X0,Y0,Z0,n1,M0⟩:=jelw O1.out HB.out o0
        cases D1
        refine start_ (n:=10) (S:=fun w'=>w'.cell? (B0.add ((o0).toNat*4))=some (.string ((rd_T34 l0 o0).f0))∧w'.cell? ⟨(B0.add ((o0).toNat*4)).block,(B0.add ((o0).toNat*4)).off+1,none⟩=some (.int .i64 ((rd_T34 l0 o0).f1))∧w'.cell? ⟨(B0.add ((o0).toNat*4)).block,(B0.add ((o0).toNat*4)).off+2,none⟩=some (.int .i64 ((rd_T34 l0 o0).f2))∧w'.cell? ⟨(B0.add ((o0).toNat*4)).block,(B0.add ((o0).toNat*4)).off+3,none⟩=some (.slice N0 ((rd_T34 l0 o0).f3).length O0)∧w'.cell? (C0.add ((o0).toNat*4))=some (.string ((rd_T34 l1 o0).f0))∧w'.cell? ⟨(C0.add ((o0).toNat*4)).block,(C0.add ((o0).toNat*4)).off+1,none⟩=some (.int .i64 ((rd_T34 l1 o0).f1))∧w'.cell? ⟨(C0.add ((o0).toNat*4)).block,(C0.add ((o0).toNat*4)).off+2,none⟩=some (.int .i64 ((rd_T34 l1 o0).f2))∧w'.cell? ⟨(C0.add ((o0).toNat*4)).block,(C0.add ((o0).toNat*4)).off+3,none⟩=some (.slice P0 ((rd_T34 l1 o0).f3).length Q0)) (ds:=[]) #[false,false,false,false,false,false,false,false,false,false] (by kernel_rfl) rfl rfl ⟨(jcB HB.out D0:),(jcB HB.out E0:),(jcB HB.out F0:),(jcB HB.out G0:),(jcB HB.out I0:),(jcB HB.out J0:),(jcB HB.out K0:),(jcB HB.out L0:)⟩ (fun hHeld=>?_);refine with_tabW laws_sameItems.tab6 laws_sameItems.bits6 (fun HT_ HW_=>?_)
        generalize wr.drew=w9 at HB H0 M0 R0 S0 T0 U0 W0 X0 Y0 Z0 hHeld ⊢
        refine pu 0 17 HT_.out ?_
        refine pu 1 18 HT_.out ?_
        refine pu 2 19 HT_.out ?_
        refine pu 4 21 HT_.out ?_
        refine pu 5 22 HT_.out ?_
        refine pu 6 23 HT_.out ?_
        refine tk 3 20 HT_.out HW_.out hHeld ?_
        refine tk 7 24 HT_.out HW_.out hHeld ?_
        refine one_ (i:=8) (N:=some 25) #[true,true,true,true,true,true,true,true,true,false] rfl rfl (one_of HT_.out (by kernel_rfl)) (by decide) (fun K hK=>?_)
        refine goes_ Try.func68 (by kernel_rfl) rfl #[.agg #[.string ((rd_T34 l0 o0).f0), .int .i64 ((rd_T34 l0 o0).f1), .int .i64 ((rd_T34 l0 o0).f2), .slice N0 ((rd_T34 l0 o0).f3).length O0], .agg #[.string ((rd_T34 l1 o0).f0), .int .i64 ((rd_T34 l1 o0).f1), .int .i64 ((rd_T34 l1 o0).f2), .slice P0 ((rd_T34 l1 o0).f3).length Q0]] (by rfl) rfl rfl jhl ?_
        with_reducible refine(laws_sameItem.calls ((rd_T34 l0 o0).f0) ((rd_T34 l0 o0).f1) ((rd_T34 l0 o0).f2) _ _ ((rd_T34 l0 o0).f3) ((rd_T34 l1 o0).f0) ((rd_T34 l1 o0).f1) ((rd_T34 l1 o0).f2) _ _ ((rd_T34 l1 o0).f3) true _ ?side1 ?side2 ?side3 ?side4 A7.out).mono ?_
        (case side1=>exact jcs H0.out)
        (case side2=>exact V0.out)
        (case side3=>exact jcs M0.out)
        (case side4=>exact n1.out)
        rintro e w10 ⟨rfl,hb⟩
        refine⟨_,rfl,?_⟩
        replace HB:=Aside0.mk (zac bq hb)
        (try clear hb)
        (try clear hb2)
        (try clear hk)
        (try clear hi)
        refine hK.out _ _ ⟨(jcB HB.out D0:),(jcB HB.out E0:),(jcB HB.out F0:),(jcB HB.out G0:),(jcB HB.out I0:),(jcB HB.out J0:),(jcB HB.out K0:),(jcB HB.out L0:)⟩ (fun hHeld=>?_)
        clear hK K
        refine norm_ (a':=?_) ?_ ?_
        rotate_left
        ·show Act.put _ (some 25) _=_
         simp only[Act.put,zaq,zbj,zbk,i64_w,i32_w]
         rfl
        refine pu 9 26 HT_.out ?_
        refine done_ (done_of HT_.out (by kernel_rfl)) ?_
        try go_wp2
        go_roundg k1
        case measure=>have:=P1.out;omega
        case rel=>exact⟨(wrap64 (o0+1)),jer,H',⟨by have:=P1.out;omega⟩,⟨bq⟩⟩
       replace c8:=zcp.mpr c8
       subst c8
       rw[if_neg (show ¬(false=true) by decide)] at H
       obtain rfl:=Option.some.inj H
       try go_wp2
       replace HB:=Aside0.mk (zba HB.out)
       obtain⟨J1,K1,B0,N0,O0,C1,D0,E0,F0,G0,R0,S0,T0,U0,V0,H0⟩:=jelw HR0.out HB.out o0
       cases C1
       obtain⟨M1,N1,C0,P0,Q0,D1,I0,J0,K0,L0,W0,X0,Y0,Z0,n1,M0⟩:=jelw O1.out HB.out o0
       cases D1
       refine start_ (n:=10) (S:=fun w'=>w'.cell? (B0.add ((o0).toNat*4))=some (.string ((rd_T34 l0 o0).f0))∧w'.cell? ⟨(B0.add ((o0).toNat*4)).block,(B0.add ((o0).toNat*4)).off+1,none⟩=some (.int .i64 ((rd_T34 l0 o0).f1))∧w'.cell? ⟨(B0.add ((o0).toNat*4)).block,(B0.add ((o0).toNat*4)).off+2,none⟩=some (.int .i64 ((rd_T34 l0 o0).f2))∧w'.cell? ⟨(B0.add ((o0).toNat*4)).block,(B0.add ((o0).toNat*4)).off+3,none⟩=some (.slice N0 ((rd_T34 l0 o0).f3).length O0)∧w'.cell? (C0.add ((o0).toNat*4))=some (.string ((rd_T34 l1 o0).f0))∧w'.cell? ⟨(C0.add ((o0).toNat*4)).block,(C0.add ((o0).toNat*4)).off+1,none⟩=some (.int .i64 ((rd_T34 l1 o0).f1))∧w'.cell? ⟨(C0.add ((o0).toNat*4)).block,(C0.add ((o0).toNat*4)).off+2,none⟩=some (.int .i64 ((rd_T34 l1 o0).f2))∧w'.cell? ⟨(C0.add ((o0).toNat*4)).block,(C0.add ((o0).toNat*4)).off+3,none⟩=some (.slice P0 ((rd_T34 l1 o0).f3).length Q0)) (ds:=[]) #[false,false,false,false,false,false,false,false,false,false] (by kernel_rfl) rfl rfl ⟨(jcB HB.out D0:),(jcB HB.out E0:),(jcB HB.out F0:),(jcB HB.out G0:),(jcB HB.out I0:),(jcB HB.out J0:),(jcB HB.out K0:),(jcB HB.out L0:)⟩ (fun hHeld=>?_);refine with_tabW laws_sameItems.tab6 laws_sameItems.bits6 (fun HT_ HW_=>?_)
       generalize wr.drew=w11 at HB H0 M0 R0 S0 T0 U0 W0 X0 Y0 Z0 hHeld ⊢
       refine pu 0 17 HT_.out ?_
       refine pu 1 18 HT_.out ?_
       refine pu 2 19 HT_.out ?_
       refine pu 4 21 HT_.out ?_
       refine pu 5 22 HT_.out ?_
       refine pu 6 23 HT_.out ?_
       refine tk 3 20 HT_.out HW_.out hHeld ?_
       refine tk 7 24 HT_.out HW_.out hHeld ?_
       refine one_ (i:=8) (N:=some 25) #[true,true,true,true,true,true,true,true,true,false] rfl rfl (one_of HT_.out (by kernel_rfl)) (by decide) (fun K hK=>?_)
       refine goes_ Try.func68 (by kernel_rfl) rfl #[.agg #[.string ((rd_T34 l0 o0).f0), .int .i64 ((rd_T34 l0 o0).f1), .int .i64 ((rd_T34 l0 o0).f2), .slice N0 ((rd_T34 l0 o0).f3).length O0], .agg #[.string ((rd_T34 l1 o0).f0), .int .i64 ((rd_T34 l1 o0).f1), .int .i64 ((rd_T34 l1 o0).f2), .slice P0 ((rd_T34 l1 o0).f3).length Q0]] (by rfl) rfl rfl jhl ?_
       with_reducible refine(laws_sameItem.calls ((rd_T34 l0 o0).f0) ((rd_T34 l0 o0).f1) ((rd_T34 l0 o0).f2) _ _ ((rd_T34 l0 o0).f3) ((rd_T34 l1 o0).f0) ((rd_T34 l1 o0).f1) ((rd_T34 l1 o0).f2) _ _ ((rd_T34 l1 o0).f3) false _ ?side1 ?side2 ?side3 ?side4 A7.out).mono ?_
       (case side1=>exact jcs H0.out)
       (case side2=>exact V0.out)
       (case side3=>exact jcs M0.out)
       (case side4=>exact n1.out)
       rintro e w12 ⟨rfl,hb⟩
       refine⟨_,rfl,?_⟩
       replace HB:=Aside0.mk (zac bq hb)
       (try clear hb)
       (try clear hb2)
       (try clear hk)
       (try clear hi)
       refine hK.out _ _ ⟨(jcB HB.out D0:),(jcB HB.out E0:),(jcB HB.out F0:),(jcB HB.out G0:),(jcB HB.out I0:),(jcB HB.out J0:),(jcB HB.out K0:),(jcB HB.out L0:)⟩ (fun hHeld=>?_)
       clear hK K
       refine norm_ (a':=?_) ?_ ?_
       rotate_left
       ·show Act.put _ (some 25) _=_
        simp only[Act.put,zaq,zbj,zbk,i64_w,i32_w]
        rfl
       refine pu 9 26 HT_.out ?_
       refine done_ (done_of HT_.out (by kernel_rfl)) ?_
       try go_wp2
       go_ret
       exact⟨jex,bq⟩
      rw[if_neg c6] at H
      exact absurd H (by simp)
     rw[if_neg c5] at H
     exact absurd H (by simp)
    rw[if_neg c4] at H
    have H1:=zbf c4
    clear c4
    obtain rfl:=Option.some.inj H
    go_wp2
    go_ret
    exact⟨jex,bq⟩
 rw[if_neg c3] at H
 have E1:=zau.mpr c3
 have F1:=zcz.mpr c3
 have G1:(l0.length==l1.length)=false:=by first | simpa using c3 | (simp at c3 ⊢;omega)
 obtain rfl:=Option.some.inj H
 go_enter Try.func67,Try.ntmps67
 go_wp2
 go_ret
 exact⟨jex,bq⟩
def spec_l13Item.f (a0_0:ByteArray) (a0_1:Int) (a0_2:Int) (l0_3:List Int):Option (ByteArray×Int×Int×List Int):=(some (([]:List Int):List Int)).bind fun y340=>(if y340.length+l0_3.length<140737488355328 then(some (a0_0,a0_1,a0_2,(y340++l0_3))) else(none))
theorem spec_l13Item.calls (a0_0:ByteArray) (a0_1:Int) (a0_2:Int) (A0_3:Option Addr) (c0_3:Nat) (l0_3:List Int) (r1:ByteArray) (r2:Int) (r3:Int) (r4:List Int) (w:World) (hr0_3:Kd.C (Kd.int .u8) w A0_3 l0_3.length l0_3) (hc0_3:l0_3.length≤c0_3) (h:spec_l13Item.f a0_0 a0_1 a0_2 l0_3=some (r1,r2,r3,r4)):
  Calls Try.prog 94 #[.agg #[.string a0_0, .int .i64 a0_1, .int .i64 a0_2, .slice A0_3 l0_3.length c0_3]] w fun e w'=>∃ v3_:Value,e= .returned (.agg #[.string r1, .int .i64 r2, .int .i64 r3,v3_])∧Kd.R (Kd.int .u8) 5 w' w.heap.size (fun _=>True) v3_ r4∧Below w.heap.size w w':=by
 have hu34:=Try.underlying34
 have HR0_3:=Aside0.mk hr0_3
 have V1:=Aside0.mk hc0_3
 clear hr0_3 hc0_3
 have HB:=Aside0.mk (zbo w.heap.size w)
 have H:((some (([]:List Int):List Int)).bind fun y340=>(if y340.length+l0_3.length<140737488355328 then(some (a0_0,a0_1,a0_2,(y340++l0_3))) else(none)))=some (r1,r2,r3,r4):=h
 clear h
 obtain⟨y340,J0⟩:∃ y_:List Int,y_=(([]:List Int)):=⟨_,rfl⟩
 replace H:=bto J0 H
 have M0:=Aside0.mk J0
 clear J0
 by_cases c2:y340.length+l0_3.length<140737488355328
 ·rw[if_pos c2] at H
  have J1:=Aside0.mk c2
  clear c2
  obtain⟨L0,K0⟩:∃ y_:List Int,y_=(y340++l0_3):=⟨_,rfl⟩
  replace H:(some (a0_0,a0_1,a0_2,L0))=some (r1,r2,r3,r4):=jrw K0 H
  have Q0:=Aside0.mk K0
  clear K0
  simp only[zaz,zbn] at H
  obtain⟨rfl,rfl,rfl,rfl⟩:=H
  go_enter Try.func94,Try.ntmps94
  go_wp2_with (first | (refine jgd 1 ?_;refine bx 1 (#[.string a0_0, .int .i64 a0_1, .int .i64 a0_2, .slice A0_3 l0_3.length c0_3]) 34 ?_;intro F0 hg w3 hbox hb;have xb_:=below_ofs bq hb;have n_:=jA4 (zac xb_ hb) (hbox) (ge0 hg xb_:w.heap.size≤F0) (ge0 hg xb_:w.heap.size≤F0);clear HB;obtain⟨HB,o0,X1,D0⟩:=n_;clear xb_ hb hbox hg) | (refine jgd 2 ?_;refine bx 2 (#[.string (⟨#[]⟩:ByteArray), .int .i64 0, .int .i64 0, .slice none 0 0]) 34 ?_;intro C0 hg w4 hbox hb;have n_:=jA7 (jbb o0.out hb) (zac (bs1 D0.out) hb) (hbox) (ge0 hg (bs1 D0.out):w.heap.size≤C0) (ge0 hg (bs1 D0.out):w.heap.size≤C0) (nl hg (pB o0.out):F0≠C0) (ng hg (pB o0.out):C0≠F0);clear o0 HB;obtain⟨o0,HB,B0,Y1,G0,I0,E0⟩:=n_;clear hb hbox hg) | (refine jgd 3 ?_;refine jlt 3 (Kd.int .u8) 5 ?_;intro v341 w5 R0 hb;(first | rw[← M0.out] at R0 | (simp only[Int.reduceToNat] at R0;rw[← M0.out] at R0));have n_:=jA4 (zax R0 (zal (bs2 D0.out G0.out))) (jbb o0.out hb) (jbb B0.out hb) (zac (bs2 D0.out G0.out) hb);clear o0 B0 HB;obtain⟨H0,o0,B0,HB⟩:=n_;clear hb R0;have Z1:=I0.out;have j2:=E0.out;obtain⟨K1,M1,N1,O1,P1,Q1,R1,S1⟩:=cz4 o0.out) | ((with_reducible refine zcd (b:= .append) (xs:= #[.tmp 3, .tmp 5]) rfl ?_);at_builtin;refine zej (Kd.int .u8) (w0:=w) w.heap.size rfl (.tmp 3) (.tmp 5) 29 5 (.int .u8 0) 1 rfl Try.underlying29 info5 rfl (by decide) (by omega) v341 y340 l0_3 _ _ _ (fun _=>True) (fun _=>False) rfl rfl ?aO ?aR (fun _ _ h=>h) (fun _ h=>h.elim) ?aF ?aB ?aS ?aL ?_;(case aR=>exact jcs HR0_3.out);(case aB=>exact(bs2 D0.out G0.out));(case aF=>exact(fun _ _=>trivial));(case aO=>exact(pR H0.out));(case aS=>exact(zal (bs2 D0.out G0.out)));(case aL=>have:=J1.out;omega);intro v344 w9 ho hb hg hat;rw[← Q0.out] at ho;have n_:=jA4 (zeq (pB o0.out) hg (zgk H0.out o0.out (by decide))) (zeq (pB B0.out) hg (zgk H0.out B0.out (by decide))) (hb) (ho);clear o0 B0 HB H0;obtain⟨o0,B0,HB,N0⟩:=n_;clear ho hb hg hat;obtain⟨O0,P0,U1⟩:=zbd N0.out;subst U1;obtain⟨S0,T0,U0,V0,W0,X0,Y0,Z0⟩:=cz4 o0.out;obtain⟨n1,C1,D1,E1,F1,G1,H1,I1⟩:=cz4 B0.out))
  refine zdp (zes rfl _ _ C0 34 #[.string a0_0, .int .i64 a0_1, .int .i64 a0_2, .slice O0 L0.length P0] (0,0) _ rfl (by(with_reducible repeat(first | refine zaj ?_ _ | refine zan ?_ | refine zak ?_ _));refine zbw (cs:= #[.string a0_0, .int .i64 a0_1, .int .i64 a0_2, .slice none 0 0]) ?_ 3 _ rfl;(with_reducible repeat(first | refine zaj ?_ _ | refine zan ?_ | refine zak ?_ _));refine zbw (cs:= #[.string a0_0, .int .i64 a0_1, .int .i64 0, .slice none 0 0]) ?_ 2 _ rfl;(with_reducible repeat(first | refine zaj ?_ _ | refine zan ?_ | refine zak ?_ _));refine zbw (cs:= #[.string a0_0, .int .i64 0, .int .i64 0, .slice none 0 0]) ?_ 1 _ rfl;(with_reducible repeat(first | refine zaj ?_ _ | refine zan ?_ | refine zak ?_ _));refine zbw (cs:= #[.string (⟨#[]⟩:ByteArray), .int .i64 0, .int .i64 0, .slice none 0 0]) ?_ 0 _ rfl;(with_reducible repeat(first | refine zaj ?_ _ | refine zan ?_ | refine zak ?_ _));refine zff ?_ E0.out _;(with_reducible repeat(first | refine zaj ?_ _ | refine zan ?_ | refine zak ?_ _));exact B0.out) Try.underlying34 rfl (by kernel_rfl)) rfl ?_
  exact⟨_,jex,by(with_reducible repeat(first | apply zbl | apply zbm | apply zbs));exact zam (zcx (p:=⟨C0,3,none⟩) (zcx (p:=⟨C0,2,none⟩) (zcx (p:=⟨C0,1,none⟩) (zcx (p:=⟨C0,0,none⟩) (zcx (p:=⟨F0,3,none⟩) (zdc (zdc N0.out o0.out (by decide)) B0.out (by decide)) (fun _ hk=>hk.1.2) (.slice O0 L0.length P0)) (fun _ hk=>hk.2) (.string a0_0)) (fun _ hk=>hk.2) (.int .i64 a0_1)) (fun _ hk=>hk.2) (.int .i64 a0_2)) (fun _ hk=>hk.2) (.slice O0 L0.length P0)) (fun _ hk=>trivial),(bs2 D0.out G0.out)⟩
 rw[if_neg c2] at H
 exact absurd H (by simp)
def spec_Due.l0:Nat→List (S34)→Int→List (S34)→Int→Option ((List (S34)))
 | 0,_,_,_,_=>none
 | k+1,x0,x1,x5,x6=>if x6<(x0.length:Int) then(if 0≤x6 then(if((rd_T34 x0 x6).f2)≥x1 then((spec_l13Item.f ((rd_T34 x0 x6).f0) ((rd_T34 x0 x6).f1) ((rd_T34 x0 x6).f2) ((rd_T34 x0 x6).f3)).bind fun bt351=>(if x5.length<2513169434916 then(spec_Due.l0 k x0 x1 (x5++[(⟨bt351.1,bt351.2.1,bt351.2.2.1,bt351.2.2.2⟩:S34)]) (wrap64 (x6+1))) else(none))) else(spec_Due.l0 k x0 x1 x5 (wrap64 (x6+1)))) else(none)) else(some x5)
def spec_Due.f (k:Nat) (l0:List (S34)) (a1:Int):Option ((List (S34))):=spec_Due.l0 k l0 a1 (([]:List (S34))) 0
theorem spec_Due.mono_l:∀ k,(∀ y0 y1 y2 y3,LeO (spec_Due.l0 k y0 y1 y2 y3) (spec_Due.l0 (k+1) y0 y1 y2 y3))
 | 0=>fun _ _ _ _ r h=>by simp [spec_Due.l0] at h
 | k+1=>by
  have ih0:=spec_Due.mono_l k
  intro y0 y1 y2 y3
  unfold spec_Due.l0
  exact mt
theorem spec_Due.mono:∀ a0 a1 k,LeO (spec_Due.f k a0 a1) (spec_Due.f (k+1) a0 a1):=by
 intro a0 a1 k
 have ih0:=spec_Due.mono_l k
 unfold spec_Due.f
 exact mt
theorem spec_Due.calls (k:Nat) (A0:Option Addr) (c0:Nat) (l0:List (S34)) (a1:Int) (r:List (S34)) (w:World) (hr0:Kd.C k34 w A0 l0.length l0) (hc0:l0.length≤c0) (h:spec_Due.f k l0 a1=some r):
  Calls Try.prog 38 #[.slice A0 l0.length c0, .int .i64 a1] w fun e w'=>∃ v0_:Value,e= .returned (v0_)∧Kd.S k34 34 w' w.heap.size (fun _=>True) v0_ r∧Below w.heap.size w w':=by
 have hu34:=Try.underlying34
 have HR0:=Aside0.mk hr0
 have k2:=Aside0.mk hc0
 clear hr0 hc0
 have HB:=Aside0.mk (zbo w.heap.size w)
 have H:(spec_Due.l0 k l0 a1 (([]:List (S34))) 0)=some r:=h
 clear h
 obtain⟨Y0,G0⟩:∃ y_:List (S34),y_=(([]:List (S34))):=⟨_,rfl⟩
 replace H:(spec_Due.l0 k l0 a1 Y0 0)=some r:=jrw G0 H
 have V0:=Aside0.mk G0
 clear G0
 have H':=Aside0.mk H
 clear H
 go_enter Try.func38,Try.ntmps38
 go_wp2_with (first | (refine jgd 7 ?_;refine Kd.S_lit k34 _ 34 ?hg (N:=7) ?hd (xs:=([]:List (S34))) (inner:=[]) (ok:=fun _=>True) (okp:=fun _=>True) ?hr ?hp (fun _ hk=>hk) trivial (zbo _ _) (zaf _) (by simp) ?_;(case hd=>rfl);(case hg=>rfl);(case hr=>first | (go_simp;done) | (go_simp;rfl));(case hp=>exact(zfq _ _));intro v347 w3 Z0 hb hg_ hnew_;have xb_:=below_ofs bq hb;clear hg_ hnew_;(first | rw[← V0.out] at Z0 | (simp only[Int.reduceToNat] at Z0;rw[← V0.out] at Z0));have n_:=jA2 (zfz Z0 (zal xb_)) (zac xb_ hb);clear HB;obtain⟨n1,HB⟩:=n_;clear xb_ hb Z0))
 go_loopg [5,6] k (fun kq v5 v6 w'=>∃ (C0:List (S34)) (o0:Int),v6= .int .i64 o0∧Aside0 (spec_Due.l0 kq l0 a1 C0 o0=some r)∧Aside0 (kq≤k)∧Aside0 (Kd.S k34 34 w' w.heap.size (fun _=>True) v5 C0)∧Aside0 (Below w.heap.size w w'))
 case atStart=>exact⟨(Y0),(0),jer,H',⟨zaf _⟩,⟨pS n1.out⟩,⟨bq⟩⟩
 case round=>
  clear H'
  try clear p2
  try clear c3
  obtain⟨C0,o0,rfl,HA,I1,B0,HB⟩:=hrel
  cases gk with
  | zero=>exact absurd HA.out (by simp [spec_Due.l0])
  | succ k1=>
   have H:=HA.out
   clear HA
   simp only[spec_Due.l0] at H
   by_cases c5:o0<(l0.length:Int)
   ·rw[if_pos c5] at H
    have N1:=zae c5
    clear c5
    by_cases c6:0≤o0
    ·rw[if_pos c6] at H
     have Y1:=zae c6
     clear c6
     by_cases c7:((rd_T34 l0 o0).f2)≥a1
     ·rw[if_pos c7] at H
      have O1:=zae c7
      clear c7
      obtain⟨⟨H0,I0,J0,F0⟩,A8,H⟩:=bnd H
      try dsimp only at H
      by_cases c9:C0.length<2513169434916
      ·rw[if_pos c9] at H
       have P1:=Aside0.mk c9
       clear c9
       obtain⟨C1,K0⟩:∃ y_:List (S34),y_=(C0++[(⟨H0,I0,J0,F0⟩:S34)]):=⟨_,rfl⟩
       replace H:(spec_Due.l0 k1 l0 a1 C1 (wrap64 (o0+1)))=some r:=jrw K0 H
       have D1:=Aside0.mk K0
       clear K0
       have H':=Aside0.mk H
       clear H
       obtain⟨Q1,R1,W0,L0,M0,X0,N0,O0,P0,D0,Q0,R0⟩:=jel HR0.out HB.out o0
       cases X0
       obtain⟨Z1,j2,E1,S1,U1,V1,J1,K1,M1,S0,T0,U0⟩:=jel HR0.out HB.out o0
       obtain rfl:W0=E1:=(by injection V1)
       have ea_:=Option.some.inj (D0.symm.trans S0)
       injection ea_ with ea_ en_ ec_
       subst ea_
       subst ec_
       clear en_
       go_wp2_with (first | (refine jgc 94 ?_;refine jgs 26 Try.func94 #[.agg #[.string ((rd_T34 l0 o0).f0), .int .i64 ((rd_T34 l0 o0).f1), .int .i64 ((rd_T34 l0 o0).f2), .slice L0 ((rd_T34 l0 o0).f3).length M0]] ?_;(with_reducible refine(spec_l13Item.calls ((rd_T34 l0 o0).f0) ((rd_T34 l0 o0).f1) ((rd_T34 l0 o0).f2) _ _ ((rd_T34 l0 o0).f3) H0 I0 J0 F0 _ ?side1 ?side2 A8.out).mono ?_);(case side1=>exact jcs U0.out);(case side2=>exact T0.out);rintro e w10 ⟨v355,rfl,ho0,hb⟩;refine⟨_,rfl,?_⟩;have xb_:=below_ofs bq hb;have n_:=jA3 (zen (pS B0.out) (zbg ho0) hb) (zax ho0 (zal xb_)) (zac xb_ hb);clear B0 HB;obtain⟨B0,E0,HB⟩:=n_;clear xb_ hb ho0;obtain⟨F1,G1,X1⟩:=zbd E0.out;subst X1) | ((with_reducible refine zcd (b:= .append) (xs:= #[.tmp 21, .tmp 27]) rfl ?_);at_builtin;refine zfm k34 (w0:=w) w.heap.size rfl (.tmp 21) (.tmp 27) 25 34 (.agg #[(.string ⟨#[]⟩),(.int .i64 0),(.int .i64 0),(.slice none 0 0)]) 56 rfl Try.underlying25 info34 rfl (by decide) (by omega) u5 C0 (⟨H0,I0,J0,F0⟩:S34) [.string H0, .int .i64 I0, .int .i64 J0, .slice F1 F0.length G1] (fun _=>True) (fun k_=>some k_=(.slice F1 F0.length G1:Value).ownBlock) rfl rfl ?aP (fun k_ hk_=>((zam (ok':=fun k_=>((fun _=>True)) k_∧some k_≠(u5:Value).ownBlock) (zee (E0.out) (zel B0.out) (by decide)) (fun k_ hk=>⟨trivial,hk.2⟩))).1 k_ hk_.symm) ?aF ?aO ?aB ?aS ?aL ?_;(case aP=>exact k34_mkM _ _ _ (⟨H0,I0,J0,F0⟩:S34) (zam (zfv rfl (zam (ok':=fun k_=>((fun _=>True)) k_∧some k_≠(u5:Value).ownBlock) (zee (E0.out) (zel B0.out) (by decide)) (fun k_ hk=>⟨trivial,hk.2⟩))) (fun _ h_=>h_)));(case aB=>exact bq);(case aF=>exact(fun _ _=>trivial));(case aO=>exact(by(with_reducible repeat(first | apply zeh | apply zei | apply zeu));exact zdw B0.out (fun k_ hk=>⟨trivial,fun e_=>hk.2 e_⟩)));(case aS=>exact(zal bq));(case aL=>have:=P1.out;omega);intro v358 w11 ho hb hg hat;rw[← D1.out] at ho;have n_:=jA2 (hb) (ho);clear HB B0 E0;obtain⟨HB,H1⟩:=n_;clear ho hb hg hat))
       go_roundg k1
       case measure=>have:=I1.out;omega
       case rel=>exact⟨(C1),(wrap64 (o0+1)),jer,H',⟨by have:=I1.out;omega⟩,⟨pS H1.out⟩,⟨bq⟩⟩
      rw[if_neg c9] at H
      exact absurd H (by simp)
     rw[if_neg c7] at H
     have O1:=zbf c7
     clear c7
     have H':=Aside0.mk H
     clear H
     obtain⟨Q1,R1,W0,L0,M0,X0,N0,O0,P0,D0,Q0,R0⟩:=jel HR0.out HB.out o0
     cases X0
     go_wp2
     go_roundg k1
     case measure=>have:=I1.out;omega
     case rel=>exact⟨(C0),(wrap64 (o0+1)),jer,H',⟨by have:=I1.out;omega⟩,⟨pS B0.out⟩,⟨bq⟩⟩
    rw[if_neg c6] at H
    exact absurd H (by simp)
   rw[if_neg c5] at H
   have N1:=zbf c5
   clear c5
   obtain rfl:=Option.some.inj H
   go_wp2
   go_ret
   exact⟨_,jex,by(with_reducible repeat(first | apply zeh | apply zei | apply zeu));exact B0.out,bq⟩
end Go.Proofs.Ytlalkldjpniakaa.P
