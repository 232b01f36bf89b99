import Derived.Test.Ytlalkldjpniakaabk6
namespace Go.Proofs.Ytlalkldjpniakaa.P
open Go.RowKit Go.Proofs.YtlalkldjpniakaaW.PrintWords Go.Proofs.YtlalkldjpniakaaW.PrintLast Go.Proofs.YtlalkldjpniakaaW.PrintMore
attribute [local go_sem] zck zcl zdl zdm zbz zca zcm zcn -- for this text's walks alone
set_option linter.unusedVariables false
set_option linter.unusedSimpArgs false
set_option maxHeartbeats 8000000
set_option maxRecDepth 100000

def bytes_Equal.f (l0:List Int) (l1:List Int):Option (Bool):=some ((strOfNums l0).toList==(strOfNums l1).toList)
theorem bytes_Equal.calls (A0:Option Addr) (c0:Nat) (l0:List Int) (A1:Option Addr) (c1:Nat) (l1:List Int) (r:Bool) (w:World) (hr0:Kd.C (Kd.int .u8) w A0 l0.length l0) (hc0:l0.length≤c0) (hr1:Kd.C (Kd.int .u8) w A1 l1.length l1) (hc1:l1.length≤c1) (h:bytes_Equal.f l0 l1=some r):
  Calls Try.prog 127 #[.slice A0 l0.length c0, .slice A1 l1.length c1] w fun e w'=>e= .returned (.bool r)∧Drawn0 w w':=by
 have HR0:=Aside0.mk hr0
 have B0:=Aside0.mk hc0
 clear hr0 hc0
 have o0:=Aside0.mk hr1
 have C0:=Aside0.mk hc1
 clear hr1 hc1
 have H:(some ((strOfNums l0).toList==(strOfNums l1).toList))=some r:=h
 clear h
 obtain rfl:=Option.some.inj H
 have hcv3:=Kd.C_string (P:=Try.prog) (A:=A0) (c:=c0) Try.underlying29 Try.underlying5 Try.underlying9 HR0.out
 have hcv4:=Kd.C_string (P:=Try.prog) (A:=A1) (c:=c1) Try.underlying29 Try.underlying5 Try.underlying9 o0.out
 go_enter Try.func127,Try.ntmps127
 go_wp2
 go_ret
 exact⟨by first | rfl | (simp;done) | (simp [*];done),by repeat(first | exact Drawn0.refl _ | apply Drawn0.step)⟩
def impl_Same.f (l0:List Int) (l1:List Int):Option (Bool):=(bytes_Equal.f l0 l1).bind fun t669=>(some t669)
theorem impl_Same.calls (A0:Option Addr) (c0:Nat) (l0:List Int) (A1:Option Addr) (c1:Nat) (l1:List Int) (r:Bool) (w:World) (hr0:Kd.C (Kd.int .u8) w A0 l0.length l0) (hc0:l0.length≤c0) (hr1:Kd.C (Kd.int .u8) w A1 l1.length l1) (hc1:l1.length≤c1) (h:impl_Same.f l0 l1=some r):
  Calls Try.prog 75 #[.slice A0 l0.length c0, .slice A1 l1.length c1] w fun e w'=>e= .returned (.bool r)∧Drawn0 w w':=by
 have HR0:=Aside0.mk hr0
 have o0:=Aside0.mk hc0
 clear hr0 hc0
 have B0:=Aside0.mk hr1
 have C0:=Aside0.mk hc1
 clear hr1 hc1
 have H:((bytes_Equal.f l0 l1).bind fun t669=>(some t669))=some r:=h
 clear h
 obtain⟨t669,A3,H⟩:=bnd H
 obtain rfl:=Option.some.inj H
 go_enter Try.func75,Try.ntmps75
 go_wp2_with (first | (refine jgc 127 ?_;refine jgs 7 Try.func127 #[.slice A0 l0.length c0, .slice A1 l1.length c1] ?_;(with_reducible refine(bytes_Equal.calls _ _ l0 _ _ l1 t669 _ ?side1 ?side2 ?side3 ?side4 A3.out).mono ?_);(case side1=>repeat(first | exact HR0.out | (with_reducible first | apply zdd | apply zdq | apply zeb)));(case side2=>exact o0.out);(case side3=>repeat(first | exact B0.out | (with_reducible first | apply zdd | apply zdq | apply zeb)));(case side4=>exact C0.out);rintro e w' ⟨rfl,⟨nd,rfl⟩⟩;refine⟨_,rfl,?_⟩))
 go_ret
 exact⟨by first | rfl | (simp;done) | (simp [*];done),by repeat(first | exact Drawn0.refl _ | apply Drawn0.step)⟩
def impl_Hex.l0:Nat→List Int→List Int→Int→Int→Option (ByteArray)
 | 0,_,_,_,_=>none
 | k+1,x3,x7,x8,x9=>if x9<x8 then(if 0≤x9 then(if x9<(x7.length:Int) then(if 0≤((rd x7 x9) / 16) then(if((rd x7 x9) / 16)<16 then(if 0≤(Go.bits .and .u8 (rd x7 x9) 15) then(if(Go.bits .and .u8 (rd x7 x9) 15)<16 then((some (([bt (⟨#[48,49,50,51,52,53,54,55,56,57,97,98,99,100,101,102]⟩:ByteArray) ((rd x7 x9) / 16),bt (⟨#[48,49,50,51,52,53,54,55,56,57,97,98,99,100,101,102]⟩:ByteArray) (Go.bits .and .u8 (rd x7 x9) 15)]:List Int):List Int)).bind fun y674=>(if x3.length+y674.length<140737488355328 then(impl_Hex.l0 k (x3++y674) x7 x8 (wrap64 (x9+1))) else(none))) else(none)) else(none)) else(none)) else(none)) else(none)) else(none)) else(some (strOfNums x3))
def impl_Hex.f (k:Nat) (l0:List Int):Option (ByteArray):=impl_Hex.l0 k (([]:List Int)) l0 (l0.length:Int) 0
theorem impl_Hex.mono_l:∀ k,(∀ y0 y1 y2 y3,LeO (impl_Hex.l0 k y0 y1 y2 y3) (impl_Hex.l0 (k+1) y0 y1 y2 y3))
 | 0=>fun _ _ _ _ r h=>by simp [impl_Hex.l0] at h
 | k+1=>by
  have ih0:=impl_Hex.mono_l k
  intro y0 y1 y2 y3
  unfold impl_Hex.l0
  exact mt
theorem impl_Hex.mono:∀ a0 k,LeO (impl_Hex.f k a0) (impl_Hex.f (k+1) a0):=by
 intro a0 k
 have ih0:=impl_Hex.mono_l k
 unfold impl_Hex.f
 exact mt
def impl_Hex.T5:Bool×List (List Nat×List Nat):=(true,[([],[]),([],[]),([1],[1]),([2],[2]),([],[]),([4],[4]),([5],[5]),([3,6],[3,6]),([0,7],[0,7]),([8,8,0,1,2,3,4,5,6,7,8],[0,8])])
def impl_Hex.B5:List Nat:=[0,0,2,6,0,16,48,126,255,511]
theorem impl_Hex.tab5:rtab .any (opsOf Try.f114 5)=impl_Hex.T5:=by kernel_rfl
theorem impl_Hex.bits5:waitsOk impl_Hex.T5.2 impl_Hex.B5=true:=by kernel_rfl
theorem impl_Hex.calls (k:Nat) (A0:Option Addr) (c0:Nat) (l0:List Int) (r:ByteArray) (w:World) (hr0:Kd.C (Kd.int .u8) w A0 l0.length l0) (hc0:l0.length≤c0) (h:impl_Hex.f k l0=some r):
  Calls Try.prog 114 #[.slice A0 l0.length c0] w fun e w'=>e= .returned (.string r)∧Below w.heap.size w w':=by
 have HR0:=Aside0.mk hr0
 have R1:=Aside0.mk hc0
 clear hr0 hc0
 have HB:=Aside0.mk (zbo w.heap.size w)
 have H:(impl_Hex.l0 k (([]:List Int)) l0 (l0.length:Int) 0)=some r:=h
 clear h
 obtain⟨O0,H0⟩:∃ y_:List Int,y_=(([]:List Int)):=⟨_,rfl⟩
 replace H:(impl_Hex.l0 k O0 l0 (l0.length:Int) 0)=some r:=jrw H0 H
 have K0:=Aside0.mk H0
 clear H0
 have H':=Aside0.mk H
 clear H
 go_enter Try.func114,Try.ntmps114
 go_wp2_with (first | (refine jgd 6 ?_;refine jlt 6 (Kd.int .u8) 5 ?_;intro v671 w2 P0 hb;have xb_:=below_ofs bq hb;(first | rw[← K0.out] at P0 | (simp only[Int.reduceToNat] at P0;rw[← K0.out] at P0));have n_:=jA2 (zax P0 (zal xb_)) (zac xb_ hb);clear HB;obtain⟨Q0,HB⟩:=n_;clear xb_ hb P0))
 go_loopg [3,9] k (fun kq v3 v9 w'=>∃ (D0:List Int) (o0:Int),v9= .int .i64 o0∧Aside0 (impl_Hex.l0 kq D0 l0 (l0.length:Int) o0=some r)∧Aside0 (kq≤k)∧Aside0 (Kd.R (Kd.int .u8) 5 w' w.heap.size (fun _=>True) v3 D0)∧Aside0 (Below w.heap.size w w'))
 case atStart=>exact⟨(O0),(0),jer,H',⟨zaf _⟩,⟨pR Q0.out⟩,⟨bq⟩⟩
 case round=>
  clear H'
  try clear c1
  try clear p2
  obtain⟨D0,o0,rfl,HA,D1,B0,HB⟩:=hrel
  cases gk with
  | zero=>exact absurd HA.out (by simp [impl_Hex.l0])
  | succ k1=>
   have H:=HA.out
   clear HA
   simp only[impl_Hex.l0] at H
   by_cases c4:o0<(l0.length:Int)
   ·rw[if_pos c4] at H
    have Y0:=zae c4
    clear c4
    by_cases c5:0≤o0
    ·rw[if_pos c5] at H
     have K1:=zae c5
     clear c5
     by_cases c6:o0<(l0.length:Int)
     ·rw[if_pos c6] at H
      have M1:=zae c6
      clear c6
      obtain⟨ji7,hji7⟩:∃ j_:Int,((rd l0 o0) / 16)=j_:=⟨_,rfl⟩
      replace H:(if 0≤(ji7) then(if(ji7)<16 then(if 0≤(Go.bits .and .u8 (rd l0 o0) 15) then(if(Go.bits .and .u8 (rd l0 o0) 15)<16 then((some (([bt (⟨#[48,49,50,51,52,53,54,55,56,57,97,98,99,100,101,102]⟩:ByteArray) (ji7),bt (⟨#[48,49,50,51,52,53,54,55,56,57,97,98,99,100,101,102]⟩:ByteArray) (Go.bits .and .u8 (rd l0 o0) 15)]:List Int):List Int)).bind fun E0=>(if D0.length+E0.length<140737488355328 then(impl_Hex.l0 k1 (D0++E0) l0 (l0.length:Int) (wrap64 (o0+1))) else(none))) else(none)) else(none)) else(none)) else(none))=some r:=by first | (rw[hji7] at H;exact H) | (simp only[hji7] at H ⊢;exact H)
      by_cases c8:0≤(ji7)
      ·rw[if_pos c8] at H
       have N1:=zae c8
       clear c8
       by_cases c9:(ji7)<16
       ·rw[if_pos c9] at H
        have O1:=zae c9
        clear c9
        by_cases W0:0≤(Go.bits .and .u8 (rd l0 o0) 15)
        ·rw[if_pos W0] at H
         have E1:=zae W0
         clear W0
         by_cases c12:(Go.bits .and .u8 (rd l0 o0) 15)<16
         ·rw[if_pos c12] at H
          have F1:=zae c12
          clear c12
          obtain⟨E0,I0⟩:∃ y_:List Int,y_=(([bt (⟨#[48,49,50,51,52,53,54,55,56,57,97,98,99,100,101,102]⟩:ByteArray) (ji7),bt (⟨#[48,49,50,51,52,53,54,55,56,57,97,98,99,100,101,102]⟩:ByteArray) (Go.bits .and .u8 (rd l0 o0) 15)]:List Int)):=⟨_,rfl⟩
          replace H:=bto I0 H
          have L0:=Aside0.mk I0
          clear I0
          by_cases X0:D0.length+E0.length<140737488355328
          ·rw[if_pos X0] at H
           have R0:=Aside0.mk X0
           clear X0
           obtain⟨S0,J0⟩:∃ y_:List Int,y_=(D0++E0):=⟨_,rfl⟩
           replace H:(impl_Hex.l0 k1 S0 l0 (l0.length:Int) (wrap64 (o0+1)))=some r:=jrw J0 H
           have T0:=Aside0.mk J0
           clear J0
           have H':=Aside0.mk H
           clear H
           have M0:0≤(o0:Int):=zad jab
           have N0:o0<(l0.length:Int):=zad jab
           obtain⟨G1,Z0,F0⟩:=zfk HR0.out o0 M0 N0
           cases Z0
           replace F0:=jcB HB.out F0
           replace M0:=zbr M0
           replace N0:=zbr N0
           try go_wp2
           have n_:=jA2 (zbs B0.out) (zba HB.out)
           clear B0 HB
           obtain⟨B0,HB⟩:=n_
           have p10:0≤((ji7):Int):=zad jab
           have H1:(ji7)<(16:Int):=zad jab
           have P1:=bt_at (⟨#[48,49,50,51,52,53,54,55,56,57,97,98,99,100,101,102]⟩:ByteArray) (ji7)
           replace p10:=zbr p10
           replace H1:=zbr H1
           have I1:0≤((Go.bits .and .u8 (rd l0 o0) 15):Int):=zad jab
           have J1:(Go.bits .and .u8 (rd l0 o0) 15)<(16:Int):=zad jab
           have Q1:=bt_at (⟨#[48,49,50,51,52,53,54,55,56,57,97,98,99,100,101,102]⟩:ByteArray) (Go.bits .and .u8 (rd l0 o0) 15)
           replace I1:=zbr I1
           replace J1:=zbr J1
           refine start_ (n:=10) (S:=fun w'=>True) (ds:=[]) #[false,false,false,false,false,false,false,false,false,false] (by kernel_rfl) rfl rfl trivial (fun hHeld=>?_);refine with_tabW impl_Hex.tab5 impl_Hex.bits5 (fun HT_ HW_=>?_)
           generalize wr.drew=w15 at B0 HB hHeld ⊢
           refine pu 0 13 HT_.out ?_
           refine pu 1 14 HT_.out ?_
           refine pu 2 15 HT_.out ?_
           refine pu 4 17 HT_.out ?_
           refine pu 5 18 HT_.out ?_
           refine tk 3 16 HT_.out HW_.out hHeld ?_
           refine tk 6 19 HT_.out HW_.out hHeld ?_
           refine one_ (i:=7) (N:=some 20) #[true,true,true,true,true,true,true,true,false,false] rfl rfl (one_of HT_.out (by kernel_rfl)) (by decide) (fun K hK=>?_)
           refine Kd.R_lit_step (Kd.int .u8) _ 5 ?hg (N:=20) ?hd (xs:=([bt (⟨#[48,49,50,51,52,53,54,55,56,57,97,98,99,100,101,102]⟩:ByteArray) (ji7),bt (⟨#[48,49,50,51,52,53,54,55,56,57,97,98,99,100,101,102]⟩:ByteArray) (Go.bits .and .u8 (rd l0 o0) 15)]:List Int)) (inner:=[.int .u8 (bt (⟨#[48,49,50,51,52,53,54,55,56,57,97,98,99,100,101,102]⟩:ByteArray) (ji7)), .int .u8 (bt (⟨#[48,49,50,51,52,53,54,55,56,57,97,98,99,100,101,102]⟩:ByteArray) (Go.bits .and .u8 (rd l0 o0) 15))]) (ok:=fun _=>True) (okp:=fun _=>True) ?hr ?hp (fun _ hk=>hk) trivial (zbo _ _) (zaf _) (by simp) ?_;(case hd=>rfl);(case hg=>rfl);(case hr=>first | (go_simp;done) | (go_simp;rfl));(case hp=>exact(zdx (show Kd.M (Kd.int .u8) _ _ _ (bt (⟨#[48,49,50,51,52,53,54,55,56,57,97,98,99,100,101,102]⟩:ByteArray) (ji7)) [.int .u8 (bt (⟨#[48,49,50,51,52,53,54,55,56,57,97,98,99,100,101,102]⟩:ByteArray) (ji7))] from rfl) (zdx (show Kd.M (Kd.int .u8) _ _ _ (bt (⟨#[48,49,50,51,52,53,54,55,56,57,97,98,99,100,101,102]⟩:ByteArray) (Go.bits .and .u8 (rd l0 o0) 15)) [.int .u8 (bt (⟨#[48,49,50,51,52,53,54,55,56,57,97,98,99,100,101,102]⟩:ByteArray) (Go.bits .and .u8 (rd l0 o0) 15))] from rfl) (zfq _ _))))
           intro v675 w16 G0 hb hg_ hnew_
           clear hg_ hnew_
           (first | rw[← L0.out] at G0 | (simp only[Int.reduceToNat] at G0;rw[← L0.out] at G0))
           have n_:=jA3 (zbx (pR B0.out) (zbg G0) hb) (zax (zdg G0 (zce (pR B0.out))) (zal bq)) (zac bq hb)
           clear B0 HB
           obtain⟨B0,C0,HB⟩:=n_
           clear hb G0
           obtain⟨n1,C1,U0⟩:=zbd C0.out
           (first | subst U0 | (injection U0 with f1_ f2_ f3_;have f4_:=f1_.symm;have f5_:=f3_.symm;clear f1_ f2_ f3_;subst f4_;subst f5_))
           refine hK.out _ _ trivial (fun hHeld=>?_)
           clear hK K
           refine norm_ (a':=?_) ?_ ?_
           rotate_left
           ·show Act.put _ (some 20) _=_
            simp only[Act.put,zaq,zbj,zbk,i64_w,i32_w]
            rfl
           refine one_ (i:=8) (N:=some 21) #[true,true,true,true,true,true,true,true,true,false] rfl rfl (one_of HT_.out (by kernel_rfl)) (by decide) (fun K hK=>?_)
           refine Kd.R_append_rows_step (Kd.int .u8) (w0:=w) w.heap.size (by rfl) (.tmp 13) (.tmp 20) 29 5 (.int .u8 0) 1 rfl Try.underlying29 info5 rfl (by decide) (by omega) u3 D0 E0 _ _ _ (fun k_=>some k_≠(.slice n1 E0.length C1:Value).ownBlock) (fun _=>False) rfl rfl ?aO ?aR (fun _ _ h=>h) (fun _ h=>h.elim) ?aF ?aB ?aS ?aL ?_
           (case aR=>repeat(first | exact(zbp C0.out).2.2 | (with_reducible refine zdd ?_ _) | (with_reducible refine zdq ?_ _) | (with_reducible refine zeb ?_)))
           (case aB=>exact bq)
           (case aF=>exact(fun k_ hk=>zdu (zce (pR C0.out)) k_ hk))
           (case aO=>exact(by(with_reducible repeat(first | apply zbl | apply zbm | apply zbs));exact zam B0.out (fun _ hk=>hk.2)))
           (case aS=>exact(zal bq))
           (case aL=>have:=R0.out;omega)
           intro v678 w18 ho hb hg hat
           rw[← T0.out] at ho
           have n_:=jA3 (zdo (ok:=(fun _=>True)) (pR C0.out) hg hat) (hb) (ho)
           clear C0 HB B0
           obtain⟨C0,HB,V0⟩:=n_
           clear ho hb hg hat
           refine hK.out _ _ trivial (fun hHeld=>?_)
           clear hK K
           refine norm_ (a':=?_) ?_ ?_
           rotate_left
           ·show Act.put _ (some 21) _=_
            simp only[Act.put,zaq,zbj,zbk,i64_w,i32_w]
            rfl
           refine pu 9 3 HT_.out ?_
           refine done_ (done_of HT_.out (by kernel_rfl)) ?_
           try go_wp2
           go_roundg k1
           case measure=>have:=D1.out;omega
           case rel=>exact⟨(S0),(wrap64 (o0+1)),jer,H',⟨by have:=D1.out;omega⟩,⟨tqR V0.out⟩,⟨bq⟩⟩
          rw[if_neg X0] at H
          exact absurd H (by simp)
         rw[if_neg c12] at H
         exact absurd H (by simp)
        rw[if_neg W0] at H
        exact absurd H (by simp)
       rw[if_neg c9] at H
       exact absurd H (by simp)
      rw[if_neg c8] at H
      exact absurd H (by simp)
     rw[if_neg c6] at H
     exact absurd H (by simp)
    rw[if_neg c5] at H
    exact absurd H (by simp)
   rw[if_neg c4] at H
   have Y0:=zbf c4
   clear c4
   obtain rfl:=Option.some.inj H
   have hcv20:=own_string (P:=Try.prog) Try.underlying29 Try.underlying5 Try.underlying9 (Kd.own_of_R B0.out)
   go_wp2
   go_ret
   exact⟨jex,bq⟩
def impl_wordOf.f (l0:List Int) (a1:Bool):Option (Int):=if a1=true then(if 0<(l0.length:Int) then(if 1<(l0.length:Int) then(if 2<(l0.length:Int) then(if 3<(l0.length:Int) then(some (Go.bits .or .i64 (Go.bits .or .i64 (Go.bits .or .i64 (wrap64 ((wrap64 (rd l0 0))*16777216)) (wrap64 ((wrap64 (rd l0 1))*65536))) (wrap64 ((wrap64 (rd l0 2))*256))) (wrap64 (rd l0 3)))) else(none)) else(none)) else(none)) else(none)) else(if 3<(l0.length:Int) then(if 2<(l0.length:Int) then(if 1<(l0.length:Int) then(if 0<(l0.length:Int) then(some (Go.bits .or .i64 (Go.bits .or .i64 (Go.bits .or .i64 (wrap64 ((wrap64 (rd l0 3))*16777216)) (wrap64 ((wrap64 (rd l0 2))*65536))) (wrap64 ((wrap64 (rd l0 1))*256))) (wrap64 (rd l0 0)))) else(none)) else(none)) else(none)) else(none))
theorem impl_wordOf.calls (A0:Option Addr) (c0:Nat) (l0:List Int) (a1:Bool) (r:Int) (w:World) (hr0:Kd.C (Kd.int .u8) w A0 l0.length l0) (hc0:l0.length≤c0) (h:impl_wordOf.f l0 a1=some r):
  Calls Try.prog 115 #[.slice A0 l0.length c0, .bool a1] w fun e w'=>e= .returned (.int .i64 r)∧Drawn0 w w':=by
 have HR0:=Aside0.mk hr0
 have H2:=Aside0.mk hc0
 clear hr0 hc0
 have H:(if a1=true then(if 0<(l0.length:Int) then(if 1<(l0.length:Int) then(if 2<(l0.length:Int) then(if 3<(l0.length:Int) then(some (Go.bits .or .i64 (Go.bits .or .i64 (Go.bits .or .i64 (wrap64 ((wrap64 (rd l0 0))*16777216)) (wrap64 ((wrap64 (rd l0 1))*65536))) (wrap64 ((wrap64 (rd l0 2))*256))) (wrap64 (rd l0 3)))) else(none)) else(none)) else(none)) else(none)) else(if 3<(l0.length:Int) then(if 2<(l0.length:Int) then(if 1<(l0.length:Int) then(if 0<(l0.length:Int) then(some (Go.bits .or .i64 (Go.bits .or .i64 (Go.bits .or .i64 (wrap64 ((wrap64 (rd l0 3))*16777216)) (wrap64 ((wrap64 (rd l0 2))*65536))) (wrap64 ((wrap64 (rd l0 1))*256))) (wrap64 (rd l0 0)))) else(none)) else(none)) else(none)) else(none)))=some r:=h
 clear h
 by_cases c3:a1=true
 ·subst c3
  rw[if_pos rfl] at H
  by_cases c4:0<(l0.length:Int)
  ·rw[if_pos c4] at H
   have X1:=zae c4
   have Y1:decide (0<l0.length)=true:=zae (by omega)
   clear c4
   by_cases c5:1<(l0.length:Int)
   ·rw[if_pos c5] at H
    have Z1:=zae c5
    have j2:decide (1<l0.length)=true:=zae (by omega)
    clear c5
    by_cases c6:2<(l0.length:Int)
    ·rw[if_pos c6] at H
     have k2:=zae c6
     have n2:decide (2<l0.length)=true:=zae (by omega)
     clear c6
     by_cases c7:3<(l0.length:Int)
     ·rw[if_pos c7] at H
      have B2:=zae c7
      have C2:decide (3<l0.length)=true:=zae (by omega)
      clear c7
      obtain rfl:=Option.some.inj H
      have K0:0≤(0:Int):=(by omega)
      have L0:0<(l0.length:Int):=zad jab
      obtain⟨I0,I1,o0⟩:=zfk HR0.out 0 K0 L0
      cases I1
      have qi680:(0<l0.length)=True:=zbr (by omega)
      (try rw[show((0:Int)).toNat=0 from rfl] at o0)
      (try rw[Addr.add_zero'] at o0)
      replace K0:=zbr K0
      replace L0:=zbr L0
      have M0:0≤(1:Int):=(by omega)
      have N0:1<(l0.length:Int):=zad jab
      obtain⟨n1,J1,B0⟩:=zfk HR0.out 1 M0 N0
      obtain rfl:I0=n1:=(by injection J1)
      (try simp only[show(1:Int).toNat=1 from rfl,Nat.reduceMul,Nat.reduceEqDiff,Go.Addr.add, ↓reduceIte] at B0)
      have qi681:(1<l0.length)=True:=zbr (by omega)
      (try rw[show((1:Int)).toNat=1 from rfl] at B0)
      replace M0:=zbr M0
      replace N0:=zbr N0
      have O0:0≤(2:Int):=(by omega)
      have P0:2<(l0.length:Int):=zad jab
      obtain⟨C1,K1,C0⟩:=zfk HR0.out 2 O0 P0
      obtain rfl:I0=C1:=(by injection K1)
      (try simp only[show(2:Int).toNat=2 from rfl,Nat.reduceMul,Nat.reduceEqDiff,Go.Addr.add, ↓reduceIte] at C0)
      have qi682:(2<l0.length)=True:=zbr (by omega)
      (try rw[show((2:Int)).toNat=2 from rfl] at C0)
      replace O0:=zbr O0
      replace P0:=zbr P0
      have Q0:0≤(3:Int):=(by omega)
      have R0:3<(l0.length:Int):=zad jab
      obtain⟨D1,M1,D0⟩:=zfk HR0.out 3 Q0 R0
      obtain rfl:I0=D1:=(by injection M1)
      (try simp only[show(3:Int).toNat=3 from rfl,Nat.reduceMul,Nat.reduceEqDiff,Go.Addr.add, ↓reduceIte] at D0)
      have qi683:(3<l0.length)=True:=zbr (by omega)
      (try rw[show((3:Int)).toNat=3 from rfl] at D0)
      replace Q0:=zbr Q0
      replace R0:=zbr R0
      go_enter Try.func115,Try.ntmps115
      go_wp2
      repeat(go_quiet (fail);try go_wp2)
      go_ret
      exact⟨by first | rfl | (simp;done) | (simp [*];done),by repeat(first | exact Drawn0.refl _ | apply Drawn0.step)⟩
     rw[if_neg c7] at H
     exact absurd H (by simp)
    rw[if_neg c6] at H
    exact absurd H (by simp)
   rw[if_neg c5] at H
   exact absurd H (by simp)
  rw[if_neg c4] at H
  exact absurd H (by simp)
 replace c3:=zcp.mpr c3
 subst c3
 rw[if_neg (show ¬(false=true) by decide)] at H
 by_cases c8:3<(l0.length:Int)
 ·rw[if_pos c8] at H
  have D2:=zae c8
  have E2:decide (3<l0.length)=true:=zae (by omega)
  clear c8
  by_cases c9:2<(l0.length:Int)
  ·rw[if_pos c9] at H
   have F2:=zae c9
   have G2:decide (2<l0.length)=true:=zae (by omega)
   clear c9
   by_cases c10:1<(l0.length:Int)
   ·rw[if_pos c10] at H
    have R1:=zae c10
    have S1:decide (1<l0.length)=true:=zae (by omega)
    clear c10
    by_cases H1:0<(l0.length:Int)
    ·rw[if_pos H1] at H
     have U1:=zae H1
     have V1:decide (0<l0.length)=true:=zae (by omega)
     clear H1
     obtain rfl:=Option.some.inj H
     have S0:0≤(3:Int):=(by omega)
     have T0:3<(l0.length:Int):=zad jab
     obtain⟨J0,N1,E0⟩:=zfk HR0.out 3 S0 T0
     cases N1
     (try simp only[show(3:Int).toNat=3 from rfl,Nat.reduceMul,Nat.reduceEqDiff,Go.Addr.add, ↓reduceIte] at E0)
     have qi684:(3<l0.length)=True:=zbr (by omega)
     (try rw[show((3:Int)).toNat=3 from rfl] at E0)
     replace S0:=zbr S0
     replace T0:=zbr T0
     have U0:0≤(2:Int):=(by omega)
     have V0:2<(l0.length:Int):=zad jab
     obtain⟨E1,O1,F0⟩:=zfk HR0.out 2 U0 V0
     obtain rfl:J0=E1:=(by injection O1)
     (try simp only[show(2:Int).toNat=2 from rfl,Nat.reduceMul,Nat.reduceEqDiff,Go.Addr.add, ↓reduceIte] at F0)
     have qi685:(2<l0.length)=True:=zbr (by omega)
     (try rw[show((2:Int)).toNat=2 from rfl] at F0)
     replace U0:=zbr U0
     replace V0:=zbr V0
     have W0:0≤(1:Int):=(by omega)
     have X0:1<(l0.length:Int):=zad jab
     obtain⟨F1,P1,G0⟩:=zfk HR0.out 1 W0 X0
     obtain rfl:J0=F1:=(by injection P1)
     (try simp only[show(1:Int).toNat=1 from rfl,Nat.reduceMul,Nat.reduceEqDiff,Go.Addr.add, ↓reduceIte] at G0)
     have qi686:(1<l0.length)=True:=zbr (by omega)
     (try rw[show((1:Int)).toNat=1 from rfl] at G0)
     replace W0:=zbr W0
     replace X0:=zbr X0
     have Y0:0≤(0:Int):=(by omega)
     have Z0:0<(l0.length:Int):=zad jab
     obtain⟨G1,Q1,H0⟩:=zfk HR0.out 0 Y0 Z0
     obtain rfl:J0=G1:=(by injection Q1)
     have qi687:(0<l0.length)=True:=zbr (by omega)
     (try rw[show((0:Int)).toNat=0 from rfl] at H0)
     (try rw[Addr.add_zero'] at H0)
     replace Y0:=zbr Y0
     replace Z0:=zbr Z0
     go_enter Try.func115,Try.ntmps115
     go_wp2
     repeat(go_quiet (fail);try go_wp2)
     go_ret
     exact⟨by first | rfl | (simp;done) | (simp [*];done),by repeat(first | exact Drawn0.refl _ | apply Drawn0.step)⟩
    rw[if_neg H1] at H
    exact absurd H (by simp)
   rw[if_neg c10] at H
   exact absurd H (by simp)
  rw[if_neg c9] at H
  exact absurd H (by simp)
 rw[if_neg c8] at H
 exact absurd H (by simp)
end Go.Proofs.Ytlalkldjpniakaa.P
