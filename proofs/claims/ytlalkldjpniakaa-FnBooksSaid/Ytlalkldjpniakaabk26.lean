import Derived.Test.Ytlalkldjpniakaabk25
import Derived.Test.Ytlalkldjpniakaabk19
import Derived.Test.Ytlalkldjpniakaabk10
namespace Go.Proofs.Ytlalkldjpniakaa.P
open Go.RowKit Go.Proofs.YtlalkldjpniakaaW.PrintWords Go.Proofs.YtlalkldjpniakaaW.PrintLast Go.Proofs.YtlalkldjpniakaaW.PrintMore
attribute [local go_sem] zck zcl zdl zdm zbz zca zcm zcn -- for this text's walks alone
set_option linter.unusedVariables false
set_option linter.unusedSimpArgs false
set_option maxHeartbeats 8000000
set_option maxRecDepth 100000

def spec_l14Play.f (k:Nat) (l0:List (S34)) (a1:Int) (a2_0:Int) (a2_1:ByteArray) (a2_2:Int) (a2_3:Int) (l2_4:List Int):Option ((List (S34))×Int):=if a2_0=1 then((spec_l14Item.f a2_0 a2_1 a2_2 a2_3 l2_4).bind fun bt1082=>((spec_Put.f k l0 bt1082.1 bt1082.2.1 bt1082.2.2.1 bt1082.2.2.2).bind fun bt1088=>(some (bt1088.1,a1)))) else(if a2_0=2 then((spec_Take.f k l0 a2_1).bind fun bt1092=>(some (bt1092.2.2.2.2.1,a1))) else(if a2_0=3 then(if a2_3≥a1 then((spec_Due.f k l0 a2_3).bind fun t1102=>(some (t1102,a2_3))) else(some (l0,a1))) else(some (l0,a1))))
theorem spec_l14Play.mono:∀ a0 a1 a2 a3 a4 a5 a6 k,LeO (spec_l14Play.f k a0 a1 a2 a3 a4 a5 a6) (spec_l14Play.f (k+1) a0 a1 a2 a3 a4 a5 a6):=by
 intro a0 a1 a2 a3 a4 a5 a6 k
 unfold spec_l14Play.f
 have m0:=@spec_Due.mono
 have m1:=@spec_Put.mono
 have m2:=@spec_Take.mono
 exact mt
def spec_l14Play.T8:Bool×List (List Nat×List Nat):=(true,[([],[]),([],[]),([1],[1]),([0,2],[0,2]),([],[]),([4],[4]),([3,3,0,1,2,3],[3]),([5,6,0,1,2,3,4,5,6],[5])])
def spec_l14Play.B8:List Nat:=[0,0,2,7,0,16,15,127]
theorem spec_l14Play.tab8:rtab .any (opsOf Try.f123 8)=spec_l14Play.T8:=by kernel_rfl
theorem spec_l14Play.bits8:waitsOk spec_l14Play.T8.2 spec_l14Play.B8=true:=by kernel_rfl
theorem spec_l14Play.calls (k:Nat) (P0_:Nat→Prop) (A0:Option Addr) (c0:Nat) (l0:List (S34)) (a1:Int) (a2_0:Int) (a2_1:ByteArray) (a2_2:Int) (a2_3:Int) (A2_4:Option Addr) (c2_4:Nat) (l2_4:List Int) (r1:List (S34)) (r2:Int) (w:World) (hs0:Kd.V k34 34 w w.heap.size (fun k_=>P0_ k_) (.slice A0 l0.length c0) l0) (hr2_4:Kd.C (Kd.int .u8) w A2_4 l2_4.length l2_4) (hc2_4:l2_4.length≤c2_4) (h:spec_l14Play.f k l0 a1 a2_0 a2_1 a2_2 a2_3 l2_4=some (r1,r2)):
  Calls Try.prog 123 #[.slice A0 l0.length c0, .int .i64 a1, .agg #[.int .i64 a2_0, .string a2_1, .int .i64 a2_2, .int .i64 a2_3, .slice A2_4 l2_4.length c2_4]] w fun e w'=>∃ v0_:Value,e= .returned (.tuple #[v0_, .int .i64 r2])∧Kd.V k34 34 w' w.heap.size (fun k_=>(P0_ k_∨w.heap.size≤k_)) v0_ r1∧Below w.heap.size w w':=by
 have hu48:=Try.underlying48
 have D0:=Aside0.mk (show Kd.V k34 34 w w.heap.size (fun k_=>(P0_ k_∨w.heap.size≤k_)) (.slice A0 l0.length c0) l0 from zgs hs0 (fun k_ hk=> .inl hk))
 have P0:=Aside0.mk hr2_4
 have Q0:=Aside0.mk hc2_4
 clear hr2_4 hc2_4
 have HB:=Aside0.mk (zbo w.heap.size w)
 have H:(if a2_0=1 then((spec_l14Item.f a2_0 a2_1 a2_2 a2_3 l2_4).bind fun bt1082=>((spec_Put.f k l0 bt1082.1 bt1082.2.1 bt1082.2.2.1 bt1082.2.2.2).bind fun bt1088=>(some (bt1088.1,a1)))) else(if a2_0=2 then((spec_Take.f k l0 a2_1).bind fun bt1092=>(some (bt1092.2.2.2.2.1,a1))) else(if a2_0=3 then(if a2_3≥a1 then((spec_Due.f k l0 a2_3).bind fun t1102=>(some (t1102,a2_3))) else(some (l0,a1))) else(some (l0,a1)))))=some (r1,r2):=h
 clear h
 by_cases c4:a2_0=1
 ·rw[if_pos c4] at H
  have Z2:=beqT c4
  have j3:=zbb.mpr c4
  clear c4
  obtain⟨⟨H0,I0,J0,G0⟩,A5,H⟩:=bnd H
  try dsimp only at H
  obtain⟨⟨R0,S0⟩,A6,H⟩:=bnd H
  try dsimp only at H
  simp only[zaz,zbn] at H
  obtain⟨rfl,rfl⟩:=H
  go_enter Try.func123,Try.ntmps123
  go_wp2_with (first | (refine jgd 5 ?_;refine bx 5 (#[.int .i64 a2_0, .string a2_1, .int .i64 a2_2, .int .i64 a2_3, .slice A2_4 l2_4.length c2_4]) 48 ?_;intro B0 hg w7 hbox hb;have xb_:=below_ofs bq hb;have n_:=jA5 (zhh (Kd.V_elderB (pV D0.out) B0 (zev hg.symm)) hb) (zac xb_ hb) (hbox) (ge0 hg xb_:w.heap.size≤B0) (ge0 hg xb_:w.heap.size≤B0);clear D0 HB;obtain⟨D0,HB,o0,F0,C0⟩:=n_;clear xb_ hb hbox hg;obtain⟨k3,n3,o3,t3,B3,C3,D3,E3,F3,G3⟩:=cz5 o0.out) | (refine jgc 92 ?_;refine jgs 15 Try.func92 #[.agg #[.int .i64 a2_0, .string a2_1, .int .i64 a2_2, .int .i64 a2_3, .slice A2_4 l2_4.length c2_4]] ?_;(with_reducible refine(spec_l14Item.calls a2_0 a2_1 a2_2 a2_3 _ _ l2_4 H0 I0 J0 G0 _ ?side1 ?side2 A5.out).mono ?_);(case side1=>exact jcs P0.out);(case side2=>exact Q0.out);rintro e w9 ⟨v1086,rfl,ho0,hb⟩;refine⟨_,rfl,?_⟩;have n_:=jA4 (zgm (pV D0.out) (zbg ho0) hb) (zax (Kd.R_newM (M:=fun k_=>(w.heap.size≤k_)) ho0 (zal (bs1 C0.out)) (fun k_ h_=>h_)) (zal (bs1 C0.out))) (jbb o0.out hb) (zac (bs1 C0.out) hb);clear D0 o0 HB;obtain⟨D0,E0,o0,HB⟩:=n_;clear hb ho0;obtain⟨T0,U0,H3⟩:=zbd E0.out;subst H3) | (refine jgc 61 ?_;refine jgs 16 Try.func61 #[.slice A0 l0.length c0, .agg #[.string H0, .int .i64 I0, .int .i64 J0, .slice T0 G0.length U0]] ?_;(with_reducible refine(spec_Put.calls k _ _ l0 H0 I0 J0 _ _ G0 R0 S0 _ ?side1 ?side2 ?side3 ?side4 A6.out).mono ?_);(case side1=>repeat(first | exact(zhe D0.out).2.2 | (with_reducible first | apply zdd | apply zdq | apply zeb)));(case side2=>exact(zhe D0.out).2.1);(case side3=>repeat(first | exact(zbp E0.out).2.2 | (with_reducible first | apply zdd | apply zdq | apply zeb)));(case side4=>exact(zbp E0.out).2.1);rintro e w11 ⟨v1089,rfl,ho0,hb⟩;refine⟨_,rfl,?_⟩;have n_:=jA5 (zgm (pV D0.out) (by first | exact Kd.N_base ho0 | exact Kd.S_base ho0) hb) (zdb (pR E0.out) hb) (Kd.N_lower (zhg (ok':=fun k_=>(P0_ k_∨w.heap.size≤k_)∧some k_≠(.slice T0 G0.length U0:Value).ownBlock∧k_≠B0) (Kd.S_N (zgy ho0)) (fun k_ hk_=>⟨(.inr (zcv (zal (bs1 C0.out)) hk_.2.1)),(zdu (zce (pR E0.out)) k_ hk_.2.1),(zfw (pB o0.out) k_ hk_.2.1)⟩)) (zal (bs1 C0.out))) (jbb o0.out hb) (zac (bs1 C0.out) hb);clear D0 E0 o0 HB;obtain⟨D0,E0,K0,o0,HB⟩:=n_;clear hb ho0))
  go_ret2
  exact⟨_,jex,Kd.N_V (by(with_reducible repeat(first | apply Kd.N_alloc | apply Kd.N_drewN | apply Kd.N_drew));exact zhg K0.out (fun _ hk=>hk.1)),(bs1 C0.out)⟩
 rw[if_neg c4] at H
 have Z2:=zau.mpr c4
 have j3:=zcz.mpr c4
 by_cases c12:a2_0=2
 ·rw[if_pos c12] at H
  have V0:=beqT c12
  have W0:=zbb.mpr c12
  clear c12
  obtain⟨⟨X0,Y0,Z0,n1,C1,D1⟩,J3,H⟩:=bnd H
  try dsimp only at H
  simp only[zaz,zbn] at H
  obtain⟨rfl,rfl⟩:=H
  go_enter Try.func123,Try.ntmps123
  go_wp2_with (first | (refine jgd 5 ?_;refine bx 5 (#[.int .i64 a2_0, .string a2_1, .int .i64 a2_2, .int .i64 a2_3, .slice A2_4 l2_4.length c2_4]) 48 ?_;intro B0 hg w14 hbox hb;have xb_:=below_ofs bq hb;have n_:=jA5 (zhh (Kd.V_elderB (pV D0.out) B0 (zev hg.symm)) hb) (zac xb_ hb) (hbox) (ge0 hg xb_:w.heap.size≤B0) (ge0 hg xb_:w.heap.size≤B0);clear D0 HB;obtain⟨D0,HB,o0,F0,C0⟩:=n_;clear xb_ hb hbox hg;obtain⟨H1,I1,J1,K1,M1,N1,O1,P1,Q1,R1⟩:=cz5 o0.out) | (refine jgc 44 ?_;refine jgs 25 Try.func44 #[.slice A0 l0.length c0, .string a2_1] ?_;(with_reducible refine(spec_Take.calls k _ _ l0 a2_1 X0 Y0 Z0 n1 C1 D1 _ ?side1 ?side2 J3.out).mono ?_);(case side1=>repeat(first | exact(zhe D0.out).2.2 | (with_reducible first | apply zdd | apply zdq | apply zeb)));(case side2=>exact(zhe D0.out).2.1);rintro e w16 ⟨v1096,v1099,rfl,ho0,ho1,hb⟩;refine⟨_,rfl,?_⟩;have n_:=jA5 (zgs (Kd.V_told (Kd.V_told (Kd.V_old (pV D0.out) hb) (zbg ho0)) (by first | exact Kd.N_base ho1 | exact Kd.S_base ho1)) (fun _ h_=>h_.1)) (zax (Kd.R_newM (M:=fun k_=>(w.heap.size≤k_)) (zam (ok':=fun k_=>True) ho0 (fun _ hk_=>trivial)) (zal (bs1 C0.out)) (fun k_ h_=>h_)) (zal (bs1 C0.out))) (Kd.N_lower (zhg (ok':=fun k_=>(P0_ k_∨w.heap.size≤k_)∧some k_≠(v1096:Value).ownBlock∧k_≠B0) ho1 (fun k_ hk_=>⟨(.inr (zcv (zal (bs1 C0.out)) hk_.1)),hk_.2,(zfw (pB o0.out) k_ hk_.1)⟩)) (zal (bs1 C0.out))) (jbb o0.out hb) (zac (bs1 C0.out) hb);clear D0 o0 HB;obtain⟨D0,I3,L0,o0,HB⟩:=n_;clear hb ho0;(try clear ho1)))
  go_ret2
  exact⟨_,jex,Kd.N_V (by(with_reducible repeat(first | apply Kd.N_alloc | apply Kd.N_drewN | apply Kd.N_drew));exact zhg L0.out (fun _ hk=>hk.1)),(bs1 C0.out)⟩
 rw[if_neg c12] at H
 have V0:=zau.mpr c12
 have W0:=zcz.mpr c12
 by_cases M0:a2_0=3
 ·rw[if_pos M0] at H
  have E1:=beqT M0
  have F1:=zbb.mpr M0
  clear M0
  by_cases O0:a2_3≥a1
  ·rw[if_pos O0] at H
   have G1:=zae O0
   clear O0
   obtain⟨t1102,K3,H⟩:=bnd H
   simp only[zaz,zbn] at H
   obtain⟨rfl,rfl⟩:=H
   go_enter Try.func123,Try.ntmps123
   try go_wp2_with (first | (refine jgd 5 ?_;refine bx 5 (#[.int .i64 a2_0, .string a2_1, .int .i64 a2_2, .int .i64 a2_3, .slice A2_4 l2_4.length c2_4]) 48 ?_;intro B0 hg w20 hbox hb;have n_:=jA5 (zhh (Kd.V_elderB (pV D0.out) B0 (zev hg.symm)) hb) (zac bq hb) (hbox) (ge0 hg bq:w.heap.size≤B0) (ge0 hg bq:w.heap.size≤B0);clear D0 HB;obtain⟨D0,HB,o0,F0,C0⟩:=n_;clear hb hbox hg;obtain⟨S1,U1,V1,X1,Y1,Z1,j2,k2,n2,B2⟩:=cz5 o0.out))
   have n_:=jA3 (Kd.V_drew D0.out) (zan o0.out) (zba HB.out)
   clear D0 o0 HB
   obtain⟨D0,o0,HB⟩:=n_
   refine start_ (n:=8) (S:=fun w'=>w'.cell? ⟨B0,0,none⟩=some (.int .i64 a2_0)∧w'.cell? ⟨B0,1,none⟩=some (.string a2_1)∧w'.cell? ⟨B0,2,none⟩=some (.int .i64 a2_2)∧w'.cell? ⟨B0,3,none⟩=some (.int .i64 a2_3)∧w'.cell? ⟨B0,4,none⟩=some (.slice A2_4 l2_4.length c2_4)) (ds:=[]) #[false,false,false,false,false,false,false,false] (by kernel_rfl) rfl rfl ⟨(zbi o0.out 0).trans rfl,(zbi o0.out 1).trans rfl,(zbi o0.out 2).trans rfl,(zbi o0.out 3).trans rfl,(zbi o0.out 4).trans rfl⟩ (fun hHeld=>?_);refine with_tabW spec_l14Play.tab8 spec_l14Play.bits8 (fun HT_ HW_=>?_)
   generalize w20.drew=w22 at D0 o0 HB hHeld ⊢
   refine pu 0 35 HT_.out ?_
   refine pu 1 36 HT_.out ?_
   refine pu 4 39 HT_.out ?_
   refine tk 2 37 HT_.out HW_.out hHeld ?_
   refine tk 5 40 HT_.out HW_.out hHeld ?_
   refine one_ (i:=3) (N:=some 38) #[true,true,true,true,true,true,false,false] rfl rfl (one_of HT_.out (by kernel_rfl)) (by decide) (fun K hK=>?_)
   refine goes_ Try.func38 (by kernel_rfl) rfl #[.slice A0 l0.length c0, .int .i64 a2_3] (by rfl) rfl rfl jhl ?_
   with_reducible refine(spec_Due.calls k _ _ l0 a2_3 t1102 _ ?side1 ?side2 K3.out).mono ?_
   (case side1=>repeat(first | exact(zhe D0.out).2.2 | (with_reducible refine zdd ?_ _) | (with_reducible refine zdq ?_ _) | (with_reducible refine zeb ?_)))
   (case side2=>exact(zhe D0.out).2.1)
   rintro e w23 ⟨v1103,rfl,ho0,hb⟩
   refine⟨_,rfl,?_⟩
   have n_:=jA4 (zgm (pV D0.out) (by first | exact Kd.N_base ho0 | exact Kd.S_base ho0) hb) (Kd.N_lower (zhg (ok':=fun k_=>(P0_ k_∨w.heap.size≤k_)∧k_≠B0) (Kd.S_N (zgy ho0)) (fun k_ hk_=>⟨(.inr (zcv (zal (bs1 C0.out)) hk_.2.1)),(zfw (pB o0.out) k_ hk_.2.1)⟩)) (zal (bs1 C0.out))) (jbb o0.out hb) (zac (bs1 C0.out) hb)
   clear D0 o0 HB
   obtain⟨D0,N0,o0,HB⟩:=n_
   (try clear hb)
   (try clear hb2)
   (try clear hk)
   (try clear hi)
   (try clear ho0)
   refine hK.out _ _ ⟨(zbi o0.out 0).trans rfl,(zbi o0.out 1).trans rfl,(zbi o0.out 2).trans rfl,(zbi o0.out 3).trans rfl,(zbi o0.out 4).trans rfl⟩ (fun hHeld=>?_)
   clear hK K
   refine norm_ (a':=?_) ?_ ?_
   rotate_left
   ·show Act.put _ (some 38) _=_
    simp only[Act.put,zaq,zbj,zbk,i64_w,i32_w]
    rfl
   refine pu 6 6 HT_.out ?_
   refine pu 7 7 HT_.out ?_
   refine done_ (done_of HT_.out (by kernel_rfl)) ?_
   try go_wp2
   go_ret2
   exact⟨_,jex,Kd.N_V (by(with_reducible repeat(first | apply Kd.N_alloc | apply Kd.N_drewN | apply Kd.N_drew));exact zhg N0.out (fun _ hk=>hk.1)),(bs1 C0.out)⟩
  rw[if_neg O0] at H
  have G1:=zbf O0
  clear O0
  simp only[zaz,zbn] at H
  obtain⟨rfl,rfl⟩:=H
  go_enter Try.func123,Try.ntmps123
  go_wp2_with (first | (refine jgd 5 ?_;refine bx 5 (#[.int .i64 a2_0, .string a2_1, .int .i64 a2_2, .int .i64 a2_3, .slice A2_4 l2_4.length c2_4]) 48 ?_;intro B0 hg w24 hbox hb;have xb_:=below_ofs bq hb;have n_:=jA5 (zhh (Kd.V_elderB (pV D0.out) B0 (zev hg.symm)) hb) (zac xb_ hb) (hbox) (ge0 hg xb_:w.heap.size≤B0) (ge0 hg xb_:w.heap.size≤B0);clear D0 HB;obtain⟨D0,HB,o0,F0,C0⟩:=n_;clear xb_ hb hbox hg;obtain⟨C2,D2,E2,F2,G2,H2,I2,J2,K2,M2⟩:=cz5 o0.out))
  go_ret2
  exact⟨_,jex,by(with_reducible repeat(first | apply Kd.V_alloc | apply Kd.V_drewN | apply Kd.V_drew));exact zgs D0.out (fun _ hk=>hk.1),(bs1 C0.out)⟩
 rw[if_neg M0] at H
 have E1:=zau.mpr M0
 have F1:=zcz.mpr M0
 simp only[zaz,zbn] at H
 obtain⟨rfl,rfl⟩:=H
 go_enter Try.func123,Try.ntmps123
 go_wp2_with (first | (refine jgd 5 ?_;refine bx 5 (#[.int .i64 a2_0, .string a2_1, .int .i64 a2_2, .int .i64 a2_3, .slice A2_4 l2_4.length c2_4]) 48 ?_;intro B0 hg w26 hbox hb;have xb_:=below_ofs bq hb;have n_:=jA5 (zhh (Kd.V_elderB (pV D0.out) B0 (zev hg.symm)) hb) (zac xb_ hb) (hbox) (ge0 hg xb_:w.heap.size≤B0) (ge0 hg xb_:w.heap.size≤B0);clear D0 HB;obtain⟨D0,HB,o0,F0,C0⟩:=n_;clear xb_ hb hbox hg;obtain⟨N2,O2,P2,Q2,R2,T2,U2,V2,X2,Y2⟩:=cz5 o0.out))
 go_ret2
 exact⟨_,jex,by(with_reducible repeat(first | apply Kd.V_alloc | apply Kd.V_drewN | apply Kd.V_drew));exact zgs D0.out (fun _ hk=>hk.1),(bs1 C0.out)⟩
def spec_Play.l0:Nat→List Int→List (S34)→Int→Int→Option ((List (S34))×Int×Int)
 | 0,_,_,_,_=>none
 | k+1,x0,x5,x6,x7=>(spec_LineOf.f k x0 x7).bind fun bt1108=>(if bt1108.2.2.2.2.2.2=true then((spec_l14Play.f k x5 x6 bt1108.1 bt1108.2.1 bt1108.2.2.1 bt1108.2.2.2.1 bt1108.2.2.2.2.1).bind fun bt1118=>(spec_Play.l0 k x0 bt1118.1 bt1118.2 bt1108.2.2.2.2.2.1)) else(some (x5,x6,x7)))
def spec_Play.f (k:Nat) (l0:List Int):Option ((List (S34))×Int×Int):=spec_Play.l0 k l0 (([]:List (S34))) 0 0
theorem spec_Play.mono_l:∀ k,(∀ y0 y1 y2 y3,LeO (spec_Play.l0 k y0 y1 y2 y3) (spec_Play.l0 (k+1) y0 y1 y2 y3))
 | 0=>fun _ _ _ _ r h=>by simp [spec_Play.l0] at h
 | k+1=>by
  have ih0:=spec_Play.mono_l k
  intro y0 y1 y2 y3
  unfold spec_Play.l0
  have m0:=@spec_LineOf.mono
  have m1:=@spec_l14Play.mono
  exact mt
theorem spec_Play.mono:∀ a0 k,LeO (spec_Play.f k a0) (spec_Play.f (k+1) a0):=by
 intro a0 k
 have ih0:=spec_Play.mono_l k
 unfold spec_Play.f
 have m0:=@spec_LineOf.mono
 have m1:=@spec_l14Play.mono
 exact mt
theorem spec_Play.calls (k:Nat) (A0:Option Addr) (c0:Nat) (l0:List Int) (r1:List (S34)) (r2:Int) (r3:Int) (w:World) (hr0:Kd.C (Kd.int .u8) w A0 l0.length l0) (hc0:l0.length≤c0) (h:spec_Play.f k l0=some (r1,r2,r3)):
  Calls Try.prog 69 #[.slice A0 l0.length c0] w fun e w'=>∃ v0_:Value,e= .returned (.tuple #[v0_, .int .i64 r2, .int .i64 r3])∧Kd.V k34 34 w' w.heap.size (fun k_=>(w.heap.size≤k_)) v0_ r1∧Below w.heap.size w w':=by
 have hu48:=Try.underlying48
 have HR0:=Aside0.mk hr0
 have O2:=Aside0.mk hc0
 clear hr0 hc0
 have HB:=Aside0.mk (zbo w.heap.size w)
 have H:(spec_Play.l0 k l0 (([]:List (S34))) 0 0)=some (r1,r2,r3):=h
 clear h
 obtain⟨S0,M0⟩:∃ y_:List (S34),y_=(([]:List (S34))):=⟨_,rfl⟩
 replace H:(spec_Play.l0 k l0 S0 0 0)=some (r1,r2,r3):=jrw M0 H
 have P0:=Aside0.mk M0
 clear M0
 have H':=Aside0.mk H
 clear H
 go_enter Try.func69,Try.ntmps69
 go_wp2_with (first | (refine jgd 11 ?_;refine Kd.S_lit k34 _ 34 ?hg (N:=11) ?hd (xs:=([]:List (S34))) (inner:=[]) (ok:=fun _=>True) (okp:=fun _=>True) ?hr ?hp (fun _ hk=>hk) trivial (zbo _ _) (zaf _) (by simp) ?_;(case hd=>rfl);(case hg=>rfl);(case hr=>first | (go_simp;done) | (go_simp;rfl));(case hp=>exact(zfq _ _));intro v1106 w2 Y0 hb hg_ hnew_;have xb_:=below_ofs bq hb;clear hg_ hnew_;(first | rw[← P0.out] at Y0 | (simp only[Int.reduceToNat] at Y0;rw[← P0.out] at Y0));have n_:=jA2 (zfz (Kd.S_newM (M:=fun k_=>(w.heap.size≤k_)) Y0 (zal xb_) (fun k_ h_=>h_)) (zal xb_)) (zac xb_ hb);clear HB;obtain⟨V0,HB⟩:=n_;clear xb_ hb Y0))
 go_loopg [5,6,7] k (fun kq v5 v6 v7 w'=>∃ (O0:List (S34)) (Q0:Int) (N0:Int),v6= .int .i64 Q0∧v7= .int .i64 N0∧Aside0 (spec_Play.l0 kq l0 O0 Q0 N0=some (r1,r2,r3))∧Aside0 (kq≤k)∧Aside0 (Kd.V k34 34 w' w.heap.size (fun k_=>(w.heap.size≤k_)) v5 O0)∧Aside0 (Below w.heap.size w w'))
 case atStart=>exact⟨(S0),(0),(0),jer,jer,H',⟨zaf _⟩,⟨Kd.S_V (by(with_reducible repeat(first | apply zeh | apply zei | apply zeu));exact zdw V0.out (fun _ hk=>hk.1))⟩,⟨bq⟩⟩
 case round=>
  clear H'
  try clear p2
  obtain⟨O0,Q0,N0,rfl,rfl,HA,P2,E0,HB⟩:=hrel
  cases gk with
  | zero=>exact absurd HA.out (by simp [spec_Play.l0])
  | succ k1=>
   have H:=HA.out
   clear HA
   simp only[spec_Play.l0] at H
   obtain⟨⟨F0,G0,H0,I0,D0,R0,Z0⟩,A4,H⟩:=bnd H
   try dsimp only at H
   by_cases c5:Z0=true
   ·subst c5
    rw[if_pos rfl] at H
    obtain⟨⟨T0,U0⟩,A6,H⟩:=bnd H
    try dsimp only at H
    have H':=Aside0.mk H
    clear H
    go_wp2_with (first | (refine jgc 54 ?_;refine jgs 15 Try.func54 #[.slice A0 l0.length c0, .int .i64 N0] ?_;(with_reducible refine(spec_LineOf.calls k1 _ _ l0 N0 F0 G0 H0 I0 D0 R0 true _ ?side1 ?side2 A4.out).mono ?_);(case side1=>exact jcs HR0.out);(case side2=>exact O2.out);rintro e w7 ⟨v1113,rfl,ho0,hb⟩;refine⟨_,rfl,?_⟩;have xb_:=below_ofs bq hb;have n_:=jA3 (zgm (pV E0.out) (zbg ho0) hb) (zax (Kd.R_newM (M:=fun k_=>(w.heap.size≤k_)) ho0 (zal xb_) (fun k_ h_=>h_)) (zal xb_)) (zac xb_ hb);clear E0 HB;obtain⟨E0,B0,HB⟩:=n_;clear xb_ hb ho0) | (refine jgd 8 ?_;refine bx 8 (#[.int .i64 0, .string (⟨#[]⟩:ByteArray), .int .i64 0, .int .i64 0, .slice none 0 0]) 48 ?_;intro o0 hg w8 hbox hb;have xb_:=below_ofs bq hb;have n_:=jA6 (zhh (Kd.V_elderB (pV E0.out) o0 (zev hg.symm)) hb) (zdb (pR B0.out) hb) (zac xb_ hb) (hbox) (ge0 hg xb_:w.heap.size≤o0) (ge0 hg xb_:w.heap.size≤o0);clear E0 B0 HB;obtain⟨E0,B0,HB,C0,W0,J0⟩:=n_;clear xb_ hb hbox hg;obtain⟨Y1,Z1,j2,k2,n2,B2,C2,D2,E2,F2⟩:=cz5 C0.out;obtain⟨K0,L0,G2⟩:=zbd B0.out;subst G2) | ((with_reducible refine zet (t:=48) (p:=8) rfl ?_);refine store_event (t:=48) (p:=8) (v:=?vo_w11) (w1:=(((((w8.setCell ⟨o0,0,none⟩ (.int .i64 F0)).setCell ⟨o0,1,none⟩ (.string G0)).setCell ⟨o0,2,none⟩ (.int .i64 H0)).setCell ⟨o0,3,none⟩ (.int .i64 I0)).setCell ⟨o0,4,none⟩ (.slice K0 D0.length L0))) ?hg ?ho ?hn ?hr ?_;(case ho=>rfl);(case hg=>rfl);(case hn=>rfl);(case hr=>first | (go_simp;done) | (go_simp;rfl));intro w11 hw;have n0_:Aside0 (Kd.V k34 34 w11 w.heap.size (fun k_=>(w.heap.size≤k_)∧some k_≠(.slice K0 D0.length L0:Value).ownBlock∧k_≠o0) u5 O0):=⟨(by rw[hw];exact(by(with_reducible repeat(first | apply Kd.V_alloc | apply Kd.V_drewN | apply Kd.V_drew));exact zgs (Kd.V_far (p:=⟨o0,4,none⟩) (Kd.V_far (p:=⟨o0,3,none⟩) (Kd.V_far (p:=⟨o0,2,none⟩) (Kd.V_far (p:=⟨o0,1,none⟩) (Kd.V_far (p:=⟨o0,0,none⟩) (zgs E0.out (fun k_ hk=>(⟨hk,hk.2⟩:_∧k_≠o0))) (fun _ hk=>hk.2) (.int .i64 F0)) (fun _ hk=>hk.2) (.string G0)) (fun _ hk=>hk.2) (.int .i64 H0)) (fun _ hk=>hk.2) (.int .i64 I0)) (fun _ hk=>hk.2) (.slice K0 D0.length L0)) (fun _ hk=>⟨hk.1.1.1,⟨hk.1.1.2,hk.1.2⟩⟩)))⟩;have n1_:Aside0 (Kd.R (Kd.int .u8) 5 w11 w.heap.size (fun k_=>(w.heap.size≤k_)) (.slice K0 D0.length L0) D0):=⟨(by rw[hw];exact(by(with_reducible repeat(first | apply zbl | apply zbm | apply zbs));exact zam (zcx (p:=⟨o0,4,none⟩) (zcx (p:=⟨o0,3,none⟩) (rf3 B0.out C0.out) (fun _ hk=>hk.2) (.int .i64 I0)) (fun _ hk=>hk.2) (.slice K0 D0.length L0)) (fun _ hk=>hk.1.1)))⟩;have n2_:Aside0 (w11.heap[o0]? =some (.cells #[.int .i64 F0, .string G0, .int .i64 H0, .int .i64 I0, .slice K0 D0.length L0] 48 (0,0))):=⟨(by rw[hw];exact(by(with_reducible repeat(first | refine zaj ?_ _ | refine zan ?_ | refine zak ?_ _));refine zbw (cs:= #[.int .i64 F0, .string G0, .int .i64 H0, .int .i64 I0, .slice none 0 0]) ?_ 4 _ rfl;(with_reducible repeat(first | refine zaj ?_ _ | refine zan ?_ | refine zak ?_ _));refine zbw (cs:= #[.int .i64 F0, .string G0, .int .i64 H0, .int .i64 0, .slice none 0 0]) ?_ 3 _ rfl;(with_reducible repeat(first | refine zaj ?_ _ | refine zan ?_ | refine zak ?_ _));refine zbw (cs:= #[.int .i64 F0, .string G0, .int .i64 0, .int .i64 0, .slice none 0 0]) ?_ 2 _ rfl;(with_reducible repeat(first | refine zaj ?_ _ | refine zan ?_ | refine zak ?_ _));refine zbw (cs:= #[.int .i64 F0, .string (⟨#[]⟩:ByteArray), .int .i64 0, .int .i64 0, .slice none 0 0]) ?_ 1 _ rfl;(with_reducible repeat(first | refine zaj ?_ _ | refine zan ?_ | refine zak ?_ _));refine zbw (cs:= #[.int .i64 0, .string (⟨#[]⟩:ByteArray), .int .i64 0, .int .i64 0, .slice none 0 0]) ?_ 0 _ rfl;(with_reducible repeat(first | refine zaj ?_ _ | refine zan ?_ | refine zak ?_ _));exact C0.out))⟩;have n3_:Aside0 (Below w.heap.size w w11):=⟨(by rw[hw];exact(bs1 J0.out))⟩;clear hw E0 B0 C0 HB;have E0:=n0_;have B0:=n1_;have C0:=n2_;have HB:=n3_;clear n0_ n1_ n2_ n3_;obtain⟨n1,C1,D1,E1,F1,G1,H1,I1,J1,K1⟩:=cz5 C0.out;obtain⟨H2,I2,J2⟩:=Kd.V_slice E0.out;subst J2) | (refine jgc 123 ?_;refine jgs 28 Try.func123 #[.slice H2 O0.length I2, .int .i64 Q0, .agg #[.int .i64 F0, .string G0, .int .i64 H0, .int .i64 I0, .slice K0 D0.length L0]] ?_;(with_reducible refine(spec_l14Play.calls k1 (fun k_=>((w.heap.size≤k_)∧(some k_≠(.slice K0 D0.length L0:Value).ownBlock∧k_≠o0))) _ _ O0 Q0 F0 G0 H0 I0 _ _ D0 T0 U0 _ ?side1 ?side2 ?side3 A6.out).mono ?_);(case side1=>exact E0.out);(case side2=>repeat(first | exact(zbp B0.out).2.2 | (with_reducible first | apply zdd | apply zdq | apply zeb)));(case side3=>exact(zbp B0.out).2.1);rintro e w14 ⟨v1119,rfl,ho0,hb⟩;refine⟨_,rfl,?_⟩;have n_:=jA5 (zhh (pV E0.out) hb) (zdb (pR B0.out) hb) (Kd.V_lower (zgs (ok':=fun k_=>(w.heap.size≤k_)∧some k_≠(.slice K0 D0.length L0:Value).ownBlock∧k_≠o0) ho0 (fun k_ hk_=>⟨Or.elim hk_ (fun hs_=>hs_.1) (fun hn_=>(zcv (zal (bs1 J0.out)) hn_)),Or.elim hk_ (fun hs_=>hs_.2.1) (fun hn_=>(zdu (zce (pR B0.out)) k_ hn_)),Or.elim hk_ (fun hs_=>hs_.2.2) (fun hn_=>(zfw (pB C0.out) k_ hn_))⟩)) (zal (bs1 J0.out))) (jbb C0.out hb) (zac (bs1 J0.out) hb);clear E0 B0 C0 HB;obtain⟨E0,B0,X0,C0,HB⟩:=n_;clear hb ho0))
    go_roundg k1
    case measure=>have:=P2.out;omega
    case rel=>exact⟨(T0),(U0),(R0),jer,jer,H',⟨by have:=P2.out;omega⟩,⟨by(with_reducible repeat(first | apply Kd.V_alloc | apply Kd.V_drewN | apply Kd.V_drew));exact zgs X0.out (fun _ hk=>hk.1)⟩,⟨bs1 J0.out⟩⟩
   replace c5:=zcp.mpr c5
   subst c5
   rw[if_neg (show ¬(false=true) by decide)] at H
   simp only[zaz,zbn] at H
   obtain⟨rfl,rfl,rfl⟩:=H
   go_wp2_with (first | (refine jgc 54 ?_;refine jgs 15 Try.func54 #[.slice A0 l0.length c0, .int .i64 N0] ?_;(with_reducible refine(spec_LineOf.calls k1 _ _ l0 N0 F0 G0 H0 I0 D0 R0 false _ ?side1 ?side2 A4.out).mono ?_);(case side1=>exact jcs HR0.out);(case side2=>exact O2.out);rintro e w15 ⟨v1113,rfl,ho0,hb⟩;refine⟨_,rfl,?_⟩;have xb_:=below_ofs bq hb;have n_:=jA3 (zgm (pV E0.out) (zbg ho0) hb) (zax (Kd.R_newM (M:=fun k_=>(w.heap.size≤k_)) ho0 (zal xb_) (fun k_ h_=>h_)) (zal xb_)) (zac xb_ hb);clear E0 HB;obtain⟨E0,B0,HB⟩:=n_;clear xb_ hb ho0) | (refine jgd 8 ?_;refine bx 8 (#[.int .i64 0, .string (⟨#[]⟩:ByteArray), .int .i64 0, .int .i64 0, .slice none 0 0]) 48 ?_;intro o0 hg w16 hbox hb;have xb_:=below_ofs bq hb;have n_:=jA6 (zhh (Kd.V_elderB (pV E0.out) o0 (zev hg.symm)) hb) (zdb (pR B0.out) hb) (zac xb_ hb) (hbox) (ge0 hg xb_:w.heap.size≤o0) (ge0 hg xb_:w.heap.size≤o0);clear E0 B0 HB;obtain⟨E0,B0,HB,C0,W0,J0⟩:=n_;clear xb_ hb hbox hg;obtain⟨M1,N1,O1,P1,Q1,R1,S1,U1,V1,X1⟩:=cz5 C0.out;obtain⟨K2,M2,N2⟩:=zbd B0.out;subst N2))
   go_ret3
   exact⟨_,jex,by(with_reducible repeat(first | apply Kd.V_alloc | apply Kd.V_drewN | apply Kd.V_drew));exact zgs (Kd.V_far (p:=⟨o0,4,none⟩) (Kd.V_far (p:=⟨o0,3,none⟩) (Kd.V_far (p:=⟨o0,2,none⟩) (Kd.V_far (p:=⟨o0,1,none⟩) (Kd.V_far (p:=⟨o0,0,none⟩) (zgs E0.out (fun k_ hk=>(⟨hk,hk.2⟩:_∧k_≠o0))) (fun _ hk=>hk.2) (.int .i64 F0)) (fun _ hk=>hk.2) (.string G0)) (fun _ hk=>hk.2) (.int .i64 H0)) (fun _ hk=>hk.2) (.int .i64 I0)) (fun _ hk=>hk.2) (.slice K2 D0.length M2)) (fun _ hk=>hk.1.1.1),(bs1 J0.out)⟩
def impl_cloneItem.f (a0_0:ByteArray) (a0_1:Int) (a0_2:Int) (l0_3:List Int):Option (ByteArray×Int×Int×List Int):=(slices_Clone_byte_byte.f l0_3).bind fun t362=>(some (a0_0,a0_1,a0_2,t362))
theorem impl_cloneItem.calls (a0_0:ByteArray) (a0_1:Int) (a0_2:Int) (A0_3:Option Addr) (c0_3:Nat) (l0_3:List Int) (r1:ByteArray) (r2:Int) (r3:Int) (r4:List Int) (w:World) (hr0_3:Kd.C (Kd.int .u8) w A0_3 l0_3.length l0_3) (hc0_3:l0_3.length≤c0_3) (h:impl_cloneItem.f a0_0 a0_1 a0_2 l0_3=some (r1,r2,r3,r4)):
  Calls Try.prog 104 #[.agg #[.string a0_0, .int .i64 a0_1, .int .i64 a0_2, .slice A0_3 l0_3.length c0_3]] w fun e w'=>∃ v3_:Value,e= .returned (.agg #[.string r1, .int .i64 r2, .int .i64 r3,v3_])∧Kd.R (Kd.int .u8) 5 w' w.heap.size (fun _=>True) v3_ r4∧Below w.heap.size w w':=by
 have hu34:=Try.underlying34
 have HR0_3:=Aside0.mk hr0_3
 have J0:=Aside0.mk hc0_3
 clear hr0_3 hc0_3
 have HB:=Aside0.mk (zbo w.heap.size w)
 have H:((slices_Clone_byte_byte.f l0_3).bind fun t362=>(some (a0_0,a0_1,a0_2,t362)))=some (r1,r2,r3,r4):=h
 clear h
 obtain⟨t362,A2,H⟩:=bnd H
 simp only[zaz,zbn] at H
 obtain⟨rfl,rfl,rfl,rfl⟩:=H
 go_enter Try.func104,Try.ntmps104
 go_wp2_with (first | (refine jgd 1 ?_;refine bx 1 (#[.string a0_0, .int .i64 a0_1, .int .i64 a0_2, .slice A0_3 l0_3.length c0_3]) 34 ?_;intro F0 hg w3 hbox hb;have xb_:=below_ofs bq hb;have n_:=jA4 (zac xb_ hb) (hbox) (ge0 hg xb_:w.heap.size≤F0) (ge0 hg xb_:w.heap.size≤F0);clear HB;obtain⟨HB,o0,J1,C0⟩:=n_;clear xb_ hb hbox hg) | (refine jgd 2 ?_;refine bx 2 (#[.string (⟨#[]⟩:ByteArray), .int .i64 0, .int .i64 0, .slice none 0 0]) 34 ?_;intro B0 hg w4 hbox hb;have n_:=jA7 (jbb o0.out hb) (zac (bs1 C0.out) hb) (hbox) (ge0 hg (bs1 C0.out):w.heap.size≤B0) (ge0 hg (bs1 C0.out):w.heap.size≤B0) (nl hg (pB o0.out):F0≠B0) (ng hg (pB o0.out):B0≠F0);clear o0 HB;obtain⟨o0,HB,D0,K1,H0,G0,E0⟩:=n_;clear hb hbox hg;have M1:=G0.out;have N1:=E0.out;obtain⟨S0,T0,U0,V0,W0,X0,Y0,Z0⟩:=cz4 o0.out) | (refine jgc 116 ?_;refine jgs 5 Try.func116 #[.slice A0_3 l0_3.length c0_3] ?_;(with_reducible refine(slices_Clone_byte_byte.calls _ _ l0_3 t362 _ ?side1 ?side2 A2.out).mono ?_);(case side1=>exact jcs HR0_3.out);(case side2=>exact J0.out);rintro e w7 ⟨v363,rfl,ho0,hb⟩;refine⟨_,rfl,?_⟩;have n_:=jA4 (zax ho0 (zal (bs2 C0.out H0.out))) (jbb o0.out hb) (jbb D0.out hb) (zac (bs2 C0.out H0.out) hb);clear o0 D0 HB;obtain⟨I0,o0,D0,HB⟩:=n_;clear hb ho0;obtain⟨Ao8,co8,eo8⟩:=zbd I0.out;subst eo8;obtain⟨n1,C1,D1,E1,F1,G1,H1,I1⟩:=cz4 o0.out;obtain⟨K0,L0,M0,N0,O0,P0,Q0,R0⟩:=cz4 D0.out))
 refine zdp (zes rfl _ _ B0 34 #[.string a0_0, .int .i64 a0_1, .int .i64 a0_2, .slice Ao8 t362.length co8] (0,0) _ rfl (by(with_reducible repeat(first | refine zaj ?_ _ | refine zan ?_ | refine zak ?_ _));refine zbw (cs:= #[.string a0_0, .int .i64 a0_1, .int .i64 a0_2, .slice none 0 0]) ?_ 3 _ rfl;(with_reducible repeat(first | refine zaj ?_ _ | refine zan ?_ | refine zak ?_ _));refine zbw (cs:= #[.string a0_0, .int .i64 a0_1, .int .i64 0, .slice none 0 0]) ?_ 2 _ rfl;(with_reducible repeat(first | refine zaj ?_ _ | refine zan ?_ | refine zak ?_ _));refine zbw (cs:= #[.string a0_0, .int .i64 0, .int .i64 0, .slice none 0 0]) ?_ 1 _ rfl;(with_reducible repeat(first | refine zaj ?_ _ | refine zan ?_ | refine zak ?_ _));refine zbw (cs:= #[.string (⟨#[]⟩:ByteArray), .int .i64 0, .int .i64 0, .slice none 0 0]) ?_ 0 _ rfl;(with_reducible repeat(first | refine zaj ?_ _ | refine zan ?_ | refine zak ?_ _));refine zff ?_ E0.out _;(with_reducible repeat(first | refine zaj ?_ _ | refine zan ?_ | refine zak ?_ _));exact D0.out) Try.underlying34 rfl (by kernel_rfl)) rfl ?_
 exact⟨_,jex,by(with_reducible repeat(first | apply zbl | apply zbm | apply zbs));exact zam (zcx (p:=⟨B0,3,none⟩) (zcx (p:=⟨B0,2,none⟩) (zcx (p:=⟨B0,1,none⟩) (zcx (p:=⟨B0,0,none⟩) (zcx (p:=⟨F0,3,none⟩) (zdc (zdc I0.out o0.out (by decide)) D0.out (by decide)) (fun _ hk=>hk.1.2) (.slice Ao8 t362.length co8)) (fun _ hk=>hk.2) (.string a0_0)) (fun _ hk=>hk.2) (.int .i64 a0_1)) (fun _ hk=>hk.2) (.int .i64 a0_2)) (fun _ hk=>hk.2) (.slice Ao8 t362.length co8)) (fun _ hk=>trivial),(bs2 C0.out H0.out)⟩
end Go.Proofs.Ytlalkldjpniakaa.P
