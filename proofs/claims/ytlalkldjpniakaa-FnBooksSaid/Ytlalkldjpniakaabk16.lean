import Derived.Test.Ytlalkldjpniakaabk11
import Derived.Test.Ytlalkldjpniakaabk15
namespace Go.Proofs.Ytlalkldjpniakaa.P
open Go.RowKit Go.Proofs.YtlalkldjpniakaaW.PrintWords Go.Proofs.YtlalkldjpniakaaW.PrintLast Go.Proofs.YtlalkldjpniakaaW.PrintMore
attribute [local go_sem] zck zcl zdl zdm zbz zca zcm zcn -- for this text's walks alone
set_option linter.unusedVariables false
set_option linter.unusedSimpArgs false

def impl_LineBytes.j0:Nat→List Int→Int→ByteArray→Int→Int→List Int→Option (List Int)
 | 0,_,_,_,_,_,_=>none
 | k+1,x3,x556000,x556001,x556002,x556003,x556004=>(impl_Great.f k x556003 4).bind fun t570=>((impl_Great.f k (x556004.length:Int) 2).bind fun t573=>((impl_joined.f (([(([(x556000) % 256]:List Int)),x3,(([(x556002) % 256]:List Int)),t570,t573,x556004]:List (List Int)))).bind fun t579=>((impl_Great.f k (t579.length:Int) 2).bind fun t582=>(if t579.length+t582.length<140737488355328 then(some (t579++t582)) else(none)))))
def impl_LineBytes.f (k:Nat) (a0_0:Int) (a0_1:ByteArray) (a0_2:Int) (a0_3:Int) (l0_4:List Int):Option (List Int):=(impl_LineOk.f k a0_0 a0_1 a0_2 a0_3 l0_4).bind fun t556=>(if t556=true then(if 8≤281474976710656 then(if a0_0=3 then(impl_LineBytes.j0 k (List.replicate 8 0) a0_0 a0_1 a0_2 a0_3 l0_4) else((impl_Unhex.f k a0_1).bind fun bt560=>(impl_LineBytes.j0 k bt560.1 a0_0 a0_1 a0_2 a0_3 l0_4))) else(none)) else(some ([]:List Int)))
theorem impl_LineBytes.mono_l:∀ k,(∀ y0 y1 y2 y3 y4 y5,LeO (impl_LineBytes.j0 k y0 y1 y2 y3 y4 y5) (impl_LineBytes.j0 (k+1) y0 y1 y2 y3 y4 y5))
 | 0=>fun _ _ _ _ _ _ r h=>by simp [impl_LineBytes.j0] at h
 | k+1=>by
  have ih0:=impl_LineBytes.mono_l k
  intro y0 y1 y2 y3 y4 y5
  unfold impl_LineBytes.j0
  have m0:=@impl_Great.mono
  have m1:=@impl_LineOk.mono
  have m2:=@impl_Unhex.mono
  exact mt
theorem impl_LineBytes.mono:∀ a0 a1 a2 a3 a4 k,LeO (impl_LineBytes.f k a0 a1 a2 a3 a4) (impl_LineBytes.f (k+1) a0 a1 a2 a3 a4):=by
 intro a0 a1 a2 a3 a4 k
 have ih0:=impl_LineBytes.mono_l k
 unfold impl_LineBytes.f
 have m0:=@impl_Great.mono
 have m1:=@impl_LineOk.mono
 have m2:=@impl_Unhex.mono
 exact mt
def impl_LineBytes.T6:Bool×List (List Nat×List Nat):=(true,[([],[]),([0],[0]),([1],[1]),([2],[2]),([],[]),([],[]),([5],[5]),([6],[6]),([7],[7]),([],[]),([9],[9]),([10],[10]),([],[]),([12],[12]),([13],[13]),([14,11],[14]),([],[]),([16],[16]),([3,4,8,11,15,17],[3,4,8,11,15,17]),([18,15],[18]),([19,19,0,1,2,3,4,5,6,7,8,9,10,11,12,13,14,15,16,17,18,19],[19])])
def impl_LineBytes.B6:List Nat:=[0,1,3,7,0,0,32,96,224,0,512,1536,0,4096,12288,32256,0,65536,262143,524287,1048575]
theorem impl_LineBytes.tab6:rtab .any (opsOf Try.f49 6)=impl_LineBytes.T6:=by kernel_rfl
theorem impl_LineBytes.bits6:waitsOk impl_LineBytes.T6.2 impl_LineBytes.B6=true:=by kernel_rfl
set_option maxHeartbeats 8000000 in
set_option maxRecDepth 100000 in
theorem impl_LineBytes.calls (k:Nat) (a0_0:Int) (a0_1:ByteArray) (a0_2:Int) (a0_3:Int) (P0_4_:Nat→Prop) (A0_4:Option Addr) (c0_4:Nat) (l0_4:List Int) (r:List Int) (w:World) (hs0_4:Kd.V (Kd.int .u8) 5 w w.heap.size (fun k_=>P0_4_ k_) (.slice A0_4 l0_4.length c0_4) l0_4) (h:impl_LineBytes.f k a0_0 a0_1 a0_2 a0_3 l0_4=some r):
  Calls Try.prog 49 #[.agg #[.int .i64 a0_0, .string a0_1, .int .i64 a0_2, .int .i64 a0_3, .slice A0_4 l0_4.length c0_4]] w fun e w'=>∃ v0_:Value,e= .returned (v0_)∧Kd.R (Kd.int .u8) 5 w' w.heap.size (fun k_=>(w.heap.size≤k_)) v0_ r∧Below w.heap.size w w':=by
 have hu48:=Try.underlying48
 have F0:=Aside0.mk (show Kd.V (Kd.int .u8) 5 w w.heap.size (fun k_=>(P0_4_ k_∨w.heap.size≤k_)) (.slice A0_4 l0_4.length c0_4) l0_4 from zgs hs0_4 (fun k_ hk=> .inl hk))
 have HB:=Aside0.mk (zbo w.heap.size w)
 have H:((impl_LineOk.f k a0_0 a0_1 a0_2 a0_3 l0_4).bind fun t556=>(if t556=true then(if 8≤281474976710656 then(if a0_0=3 then(impl_LineBytes.j0 k (List.replicate 8 0) a0_0 a0_1 a0_2 a0_3 l0_4) else((impl_Unhex.f k a0_1).bind fun bt560=>(impl_LineBytes.j0 k bt560.1 a0_0 a0_1 a0_2 a0_3 l0_4))) else(none)) else(some ([]:List Int))))=some r:=h
 clear h
 obtain⟨t556,A2,H⟩:=bnd H
 by_cases c3:t556=true
 ·subst c3
  rw[if_pos rfl] at H
  by_cases c4:8≤281474976710656
  ·rw[if_pos c4] at H
   have Y3:=zbr c4
   have Z3:=zae c4
   clear c4
   obtain⟨j3,Y0⟩:∃ y_:List Int,y_=(List.replicate 8 0):=⟨_,rfl⟩
   replace H:(if a0_0=3 then(impl_LineBytes.j0 k j3 a0_0 a0_1 a0_2 a0_3 l0_4) else((impl_Unhex.f k a0_1).bind fun bt560=>(impl_LineBytes.j0 k bt560.1 a0_0 a0_1 a0_2 a0_3 l0_4)))=some r:=jrw Y0 H
   have n2:=Aside0.mk Y0
   clear Y0
   have j4:=Aside0.mk H
   clear H
   go_enter Try.func49,Try.ntmps49
   go_upto_if 11 with (first | (refine jgd 1 ?_;refine bx 1 (#[.int .i64 a0_0, .string a0_1, .int .i64 a0_2, .int .i64 a0_3, .slice A0_4 l0_4.length c0_4]) 48 ?_;intro C0 hg w6 hbox hb;have xb_:=below_ofs bq hb;have n_:=jA5 (zhh (Kd.V_elderB (qV F0.out) C0 (zev hg.symm)) hb) (zac xb_ hb) (hbox) (ge0 hg xb_:w.heap.size≤C0) (ge0 hg xb_:w.heap.size≤C0);clear F0 HB;obtain⟨F0,HB,B0,k3,D0⟩:=n_;clear xb_ hb hbox hg;obtain⟨F2,G2,H2,I2,J2,K2,M2,N2,O2,P2⟩:=cz5 B0.out) | (refine jgc 36 ?_;refine jgs 6 Try.func36 #[.agg #[.int .i64 a0_0, .string a0_1, .int .i64 a0_2, .int .i64 a0_3, .slice A0_4 l0_4.length c0_4]] ?_;(with_reducible refine(impl_LineOk.calls k a0_0 a0_1 a0_2 a0_3 _ _ l0_4 true _ ?side1 ?side2 A2.out).mono ?_);(case side1=>repeat(first | exact(zhe F0.out).2.2 | (with_reducible first | apply zdd | apply zdq | apply zeb)));(case side2=>exact(zhe F0.out).2.1);rintro e w8 ⟨rfl,hb⟩;refine⟨_,rfl,?_⟩;have n_:=jA3 (zhh (qV F0.out) hb) (jbb B0.out hb) (zac (bs1 D0.out) hb);clear F0 B0 HB;obtain⟨F0,B0,HB⟩:=n_;(try clear hb);(try clear hb2);(try clear hk);(try clear hi)) | (refine jgd 8 ?_;refine Kd.R_make (Kd.int .u8) _ 5 rfl (N:=8) rfl 29 _ _ rfl 8 rfl rfl Try.underlying29 (.int .u8 0) 1 info5 rfl (by decide) (by omega) 0 (ok:=fun _=>True) (okp:=fun _=>True) rfl jmk trivial (by omega) (by omega) (zbo _ _) (zaf _) ?_;intro v558 w9 W0 hb hg_ hnew_;clear hg_ hnew_;(first | rw[← n2.out] at W0 | (simp only[Int.reduceToNat] at W0;rw[← n2.out] at W0));have n_:=jA4 (zgm (qV F0.out) (zbg W0) hb) (zax (Kd.R_newM (M:=fun k_=>(w.heap.size≤k_)) W0 (zal (bs1 D0.out)) (fun k_ h_=>h_)) (zal (bs1 D0.out))) (jbb B0.out hb) (zac (bs1 D0.out) hb);clear F0 B0 HB;obtain⟨F0,V0,B0,HB⟩:=n_;clear hb W0;obtain⟨F1,G1,H1,I1,J1,K1,M1,N1,O1,P1⟩:=cz5 B0.out))
   (try simp only[Act.put,zaq,zbj,zbk])
   go_cut [3] (fun v3 wc=>∃ (kq:Nat) (P0:List Int),Aside0 (impl_LineBytes.j0 kq P0 a0_0 a0_1 a0_2 a0_3 l0_4=some r)∧Aside0 (kq≤k)∧Aside0 (Kd.R (Kd.int .u8) 5 wc w.heap.size (fun k_=>(w.heap.size≤k_)) v3 P0)∧Aside0 (Kd.V (Kd.int .u8) 5 wc w.heap.size (fun k_=>(P0_4_ k_∨w.heap.size≤k_)∧some k_≠(v3:Value).ownBlock∧k_≠C0) (.slice A0_4 l0_4.length c0_4) l0_4)∧Aside0 (wc.heap[C0]? =some (.cells #[.int .i64 a0_0, .string a0_1, .int .i64 a0_2, .int .i64 a0_3,(.slice A0_4 l0_4.length c0_4)] 48 (0,0)))∧Aside0 (Below w.heap.size w wc))
   case first=>
    have H:=j4.out
    clear j4
    by_cases c12:a0_0=3
    ·rw[if_pos c12] at H
     have R0:=beqT c12
     have B2:=zbb.mpr c12
     clear c12
     (first | rw[R0] | (simp only[i64_w,i32_w];rw[R0]) | skip)
     have H':=Aside0.mk H
     clear H
     go_wp2
     go_meet
     case rel=>exact⟨_,(j3),H',⟨by first | omega | exact zaf _⟩,⟨by(with_reducible repeat(first | apply zbl | apply zbm | apply zbs));exact zam V0.out (fun _ hk=>by first | exact hk.1 | (revert hk;(try simp only[and_imp]);intros;repeat' (first | assumption | apply zfy | exact .inr (by assumption))))⟩,⟨by(with_reducible repeat(first | apply Kd.V_alloc | apply Kd.V_drewN | apply Kd.V_drew));exact zgs F0.out (fun _ hk=>by first | exact⟨hk.1.1,⟨hk.2,hk.1.2⟩⟩ | (revert hk;(try simp only[and_imp]);intros;repeat' (first | assumption | apply zfy | exact .inr (by assumption))))⟩,⟨pB B0.out⟩,⟨bs1 D0.out⟩⟩
    rw[if_neg c12] at H
    have R0:=zau.mpr c12
    have B2:=zcz.mpr c12
    (first | rw[R0] | (simp only[i64_w,i32_w];rw[R0]) | skip)
    obtain⟨⟨n3,k4⟩,D4,H⟩:=bnd H
    try dsimp only at H
    have H':=Aside0.mk H
    clear H
    obtain⟨Q1,R1,S1,U1,V1,X1,Y1,Z1,j2,k2⟩:=cz5 B0.out
    go_wp2_with (first | (refine jgc 108 ?_;refine jgs 15 Try.func108 #[.string a0_1] ?_;(with_reducible refine(impl_Unhex.calls k a0_1 n3 k4 _ D4.out).mono ?_);rintro e w15 ⟨v562,rfl,ho0,hb⟩;refine⟨_,rfl,?_⟩;have n_:=jA5 (zgm (qV F0.out) (zbg ho0) hb) (zbx (qR V0.out) (zbg ho0) hb) (zax (zdg (Kd.R_newM (M:=fun k_=>(w.heap.size≤k_)) ho0 (zal (bs1 D0.out)) (fun k_ h_=>h_)) (zce (qR V0.out))) (zal (bs1 D0.out))) (jbb B0.out hb) (zac (bs1 D0.out) hb);clear F0 V0 B0 HB;obtain⟨F0,V0,o3,B0,HB⟩:=n_;clear hb ho0))
    go_meet
    case rel=>exact⟨_,(n3),H',⟨by first | omega | exact zaf _⟩,⟨by(with_reducible repeat(first | apply zbl | apply zbm | apply zbs));exact zam o3.out (fun _ hk=>by first | exact hk.1.1 | (revert hk;(try simp only[and_imp]);intros;repeat' (first | assumption | apply zfy | exact .inr (by assumption))))⟩,⟨by(with_reducible repeat(first | apply Kd.V_alloc | apply Kd.V_drewN | apply Kd.V_drew));exact zgs F0.out (fun _ hk=>by first | exact⟨hk.1.1.1,⟨hk.2,hk.1.1.2⟩⟩ | (revert hk;(try simp only[and_imp]);intros;repeat' (first | assumption | apply zfy | exact .inr (by assumption))))⟩,⟨pB B0.out⟩,⟨bs1 D0.out⟩⟩
   case rest=>
    clear j4
    try clear c1
    try clear p2
    try clear c3
    try clear c4
    try clear Y3
    try clear Z3
    try clear c10
    try clear c12
    try clear R0
    try clear B2
    try clear F1
    try clear G1
    try clear H1
    try clear I1
    try clear J1
    try clear Q1
    try clear R1
    try clear S1
    try clear U1
    try clear V1
    try clear F2
    try clear G2
    try clear H2
    try clear I2
    try clear J2
    try clear K1
    try clear M1
    try clear N1
    try clear O1
    try clear P1
    try clear X1
    try clear Y1
    try clear Z1
    try clear j2
    try clear k2
    try clear K2
    try clear M2
    try clear N2
    try clear O2
    try clear P2
    obtain⟨kq,P0,HA,J4,E0,o0,B0,HB⟩:=hcut
    cases kq with
    | zero=>exact absurd HA.out (by simp [impl_LineBytes.j0])
    | succ kj4=>
     have H:=HA.out
     clear HA
     simp only[impl_LineBytes.j0] at H
     obtain⟨O0,Z0⟩:∃ y_:List Int,y_=(([(a0_0) % 256]:List Int)):=⟨_,rfl⟩
     replace H:((impl_Great.f kj4 a0_3 4).bind fun L0=>((impl_Great.f kj4 (l0_4.length:Int) 2).bind fun M0=>((impl_joined.f (([O0,P0,(([(a0_2) % 256]:List Int)),L0,M0,l0_4]:List (List Int)))).bind fun H0=>((impl_Great.f kj4 (H0.length:Int) 2).bind fun K0=>(if H0.length+K0.length<140737488355328 then(some (H0++K0)) else(none))))))=some r:=jrw Z0 H
     have C2:=Aside0.mk Z0
     clear Z0
     obtain⟨Q0,n1⟩:∃ y_:List Int,y_=(([(a0_2) % 256]:List Int)):=⟨_,rfl⟩
     replace H:((impl_Great.f kj4 a0_3 4).bind fun L0=>((impl_Great.f kj4 (l0_4.length:Int) 2).bind fun M0=>((impl_joined.f (([O0,P0,Q0,L0,M0,l0_4]:List (List Int)))).bind fun H0=>((impl_Great.f kj4 (H0.length:Int) 2).bind fun K0=>(if H0.length+K0.length<140737488355328 then(some (H0++K0)) else(none))))))=some r:=jrw n1 H
     have D2:=Aside0.mk n1
     clear n1
     obtain⟨L0,F4,H⟩:=bnd H
     obtain⟨M0,G4,H⟩:=bnd H
     obtain⟨C1,D1⟩:∃ y_:List (List Int),y_=(([O0,P0,Q0,L0,M0,l0_4]:List (List Int))):=⟨_,rfl⟩
     replace H:((impl_joined.f C1).bind fun H0=>((impl_Great.f kj4 (H0.length:Int) 2).bind fun K0=>(if H0.length+K0.length<140737488355328 then(some (H0++K0)) else(none))))=some r:=jrw D1 H
     have E2:=Aside0.mk D1
     clear D1
     obtain⟨H0,H4,H⟩:=bnd H
     obtain⟨K0,I4,H⟩:=bnd H
     by_cases N3:H0.length+K0.length<140737488355328
     ·rw[if_pos N3] at H
      have t3:=Aside0.mk N3
      clear N3
      obtain⟨o4,E1⟩:∃ y_:List Int,y_=(H0++K0):=⟨_,rfl⟩
      replace H:(some o4)=some r:=jrw E1 H
      have B3:=Aside0.mk E1
      clear E1
      obtain rfl:=Option.some.inj H
      try go_wp2
      have n_:=jA4 (zbs E0.out) (Kd.V_drew o0.out) (zan B0.out) (zba HB.out)
      clear E0 o0 B0 HB
      obtain⟨E0,o0,B0,HB⟩:=n_
      refine start_ (n:=21) (S:=fun w'=>True) (ds:=[]) #[false,false,false,false,false,false,false,false,false,false,false,false,false,false,false,false,false,false,false,false,false] (by kernel_rfl) rfl rfl trivial (fun hHeld=>?_);refine with_tabW impl_LineBytes.tab6 impl_LineBytes.bits6 (fun HT_ HW_=>?_)
      generalize wc.drew=w21 at E0 o0 B0 HB hHeld ⊢
      refine pu 0 18 HT_.out ?_
      refine pu 4 22 HT_.out ?_
      refine pu 5 23 HT_.out ?_
      refine pu 9 27 HT_.out ?_
      refine pu 12 30 HT_.out ?_
      refine pu 16 34 HT_.out ?_
      refine inv_at [1,2,3,6,7,8,10,11,13,14,15,17,18,19,20] (fun a0_ b a w'=>∃ (v565:Value) (v568:Value) (v571:Value) (v574:Value) (v577:Value) (v580:Value) (m20_:Value),a=putSel a0_ b [(1,19, .int .i64 a0_0),(2,20, .int .u8 ((a0_0) % 256)),(3,21,v565),(6,24, .int .i64 a0_2),(7,25, .int .u8 ((a0_2) % 256)),(8,26,v568),(10,28, .int .i64 a0_3),(11,29,v571),(13,31, .slice A0_4 l0_4.length c0_4),(14,32, .int .i64 (l0_4.length:Int)),(15,33,v574),(17,35, .slice A0_4 l0_4.length c0_4),(18,36,v577),(19,37,v580),(20,4,m20_)]∧(b 18=false→Kd.R (Kd.int .u8) 5 w' w.heap.size (fun k_=>(w.heap.size≤k_)) u3 P0)∧(b 18=false→Kd.V (Kd.int .u8) 5 w' w.heap.size (fun k_=>(P0_4_ k_∨w.heap.size≤k_)∧some k_≠(u3:Value).ownBlock∧k_≠C0) (.slice A0_4 l0_4.length c0_4) l0_4)∧(w'.heap[C0]? =some (.cells #[.int .i64 a0_0, .string a0_1, .int .i64 a0_2, .int .i64 a0_3, .slice A0_4 l0_4.length c0_4] 48 (0,0)))∧(Below w.heap.size w w')∧(b 3=true→b 18=false→Kd.R (Kd.int .u8) 5 w' w.heap.size (fun k_=>(w.heap.size≤k_)∧some k_≠(u3:Value).ownBlock) v565 O0)∧(b 8=true→b 18=false→Kd.R (Kd.int .u8) 5 w' w.heap.size (fun k_=>(w.heap.size≤k_)∧some k_≠(u3:Value).ownBlock) v568 Q0)∧(b 11=true→b 18=false→Kd.R (Kd.int .u8) 5 w' w.heap.size (fun k_=>(w.heap.size≤k_)∧some k_≠(u3:Value).ownBlock) v571 L0)∧(b 15=true→b 18=false→Kd.R (Kd.int .u8) 5 w' w.heap.size (fun k_=>(w.heap.size≤k_)∧some k_≠(u3:Value).ownBlock) v574 M0)∧(b 18=true→Kd.N (Kd.slice 5 (Kd.int .u8)) 29 w' w.heap.size (fun k_=>(P0_4_ k_∨w.heap.size≤k_)∧k_≠C0) v577 C1)∧(b 18=true→Kd.V (Kd.int .u8) 5 w' w.heap.size (fun k_=>(P0_4_ k_∨w.heap.size≤k_)∧k_≠C0) (.slice A0_4 l0_4.length c0_4) l0_4)∧(b 19=true→Kd.R (Kd.int .u8) 5 w' w.heap.size (fun k_=>(w.heap.size≤k_)) v580 H0)∧(b 20=true→(m20_:Value)=v580)) HT_.out HW_.out (by kernel_rfl) (by kernel_rfl) ?_ ?_ ?_
      ·exact⟨.bool false, .bool false, .bool false, .bool false, .bool false, .bool false, .bool false,by simp only[putSel,Bool.false_eq_true,if_false],fun _=>E0.out,fun _=>o0.out,B0.out,HB.out,fun h_=>absurd h_ (by decide),fun h_=>absurd h_ (by decide),fun h_=>absurd h_ (by decide),fun h_=>absurd h_ (by decide),fun h_=>absurd h_ (by decide),fun h_=>absurd h_ (by decide),fun h_=>absurd h_ (by decide),fun h_=>absurd h_ (by decide)⟩
      ·skip
       clear B0 HB E0 o0
       refine zgw ?_ ?_
       ·rintro b a w' ⟨v565,v568,v571,v574,v577,v580,m20_,ha,Q_HO_3,Q_HO_556004,Q_BK555,Q_HB,Q_HO566,Q_HO569,Q_HO572,Q_HO575,Q_HO578,Q_HO_556004_e18,Q_HO581,Q_X20_⟩ hb_ hon hoff
        refine⟨_,rfl,fun K hK=>?_⟩
        have e18:a.tmps[18]? =some (.pointer (some ⟨C0,0,none⟩)):=by rw[ha];exact(putSel_off rfl).trans rfl
        replace ha:=Aside0.mk ha
        have E0:=Aside0.mk (Q_HO_3 (hoff 18 (by kernel_rfl)))
        have o0:=Aside0.mk (Q_HO_556004 (hoff 18 (by kernel_rfl)))
        have B0:=Aside0.mk Q_BK555
        have HB:=Aside0.mk Q_HB
        have hc0_:w'.cell? ⟨C0,0,none⟩=some (.int .i64 a0_0):=(zbi B0.out 0).trans rfl
        have hc1_:w'.cell? ⟨C0,1,none⟩=some (.string a0_1):=(zbi B0.out 1).trans rfl
        have hc2_:w'.cell? ⟨C0,2,none⟩=some (.int .i64 a0_2):=(zbi B0.out 2).trans rfl
        have hc3_:w'.cell? ⟨C0,3,none⟩=some (.int .i64 a0_3):=(zbi B0.out 3).trans rfl
        have hc4_:w'.cell? ⟨C0,4,none⟩=some (.slice A0_4 l0_4.length c0_4):=(zbi B0.out 4).trans rfl
        refine value_ (w1:=w') (v:= .int .i64 a0_0) (by rfl) rfl ?_ ?_
        ·go_simp
         (try simp only[i64_w])
         try rfl
        refine hK.out _ _ ⟨v565,v568,v571,v574,v577,v580,m20_,(by rw[ha.out];exact zgx 0 hb_ rfl rfl rfl),Q_HO_3,Q_HO_556004,Q_BK555,Q_HB,jof (hoff 3),Q_HO569,Q_HO572,Q_HO575,jof (hoff 18),jof (hoff 18),jof (hoff 19),jof (hoff 20)⟩
       refine zgw ?_ ?_
       ·rintro b a w' ⟨v565,v568,v571,v574,v577,v580,m20_,ha,Q_HO_3,Q_HO_556004,Q_BK555,Q_HB,Q_HO566,Q_HO569,Q_HO572,Q_HO575,Q_HO578,Q_HO_556004_e18,Q_HO581,Q_X20_⟩ hb_ hon hoff
        refine⟨_,rfl,fun K hK=>?_⟩
        have K4:a.tmps[19]? =some (.int .i64 a0_0):=by rw[ha];exact putSel_on (e:=(1,19, .int .i64 a0_0)) 0 rfl rfl (hon 1 (by kernel_rfl)) rfl
        replace ha:=Aside0.mk ha
        have E0:=Aside0.mk (Q_HO_3 (hoff 18 (by kernel_rfl)))
        have o0:=Aside0.mk (Q_HO_556004 (hoff 18 (by kernel_rfl)))
        have B0:=Aside0.mk Q_BK555
        have HB:=Aside0.mk Q_HB
        refine value_ (w1:=w') (v:= .int .u8 ((a0_0) % 256)) (by rfl) rfl ?_ ?_
        ·go_simp
         (try simp only[i64_w])
         try rfl
        refine hK.out _ _ ⟨v565,v568,v571,v574,v577,v580,m20_,(by rw[ha.out];exact zgx 1 hb_ rfl rfl rfl),Q_HO_3,Q_HO_556004,Q_BK555,Q_HB,jof (hoff 3),Q_HO569,Q_HO572,Q_HO575,jof (hoff 18),jof (hoff 18),jof (hoff 19),jof (hoff 20)⟩
       refine zgw ?_ ?_
       ·rintro b a w' ⟨v565,v568,v571,v574,v577,v580,m20_,ha,Q_HO_3,Q_HO_556004,Q_BK555,Q_HB,Q_HO566,Q_HO569,Q_HO572,Q_HO575,Q_HO578,Q_HO_556004_e18,Q_HO581,Q_X20_⟩ hb_ hon hoff
        refine⟨_,rfl,fun K hK=>?_⟩
        have L4:a.tmps[20]? =some (.int .u8 ((a0_0) % 256)):=by rw[ha];exact putSel_on (e:=(2,20, .int .u8 ((a0_0) % 256))) 1 rfl rfl (hon 2 (by kernel_rfl)) rfl
        replace ha:=Aside0.mk ha
        have E0:=Aside0.mk (Q_HO_3 (hoff 18 (by kernel_rfl)))
        have o0:=Aside0.mk (Q_HO_556004 (hoff 18 (by kernel_rfl)))
        have B0:=Aside0.mk Q_BK555
        have HB:=Aside0.mk Q_HB
        refine Kd.R_lit_step (Kd.int .u8) _ 5 ?hg (N:=21) ?hd (xs:=([(a0_0) % 256]:List Int)) (inner:=[.int .u8 ((a0_0) % 256)]) (ok:=fun _=>True) (okp:=fun _=>True) ?hr ?hp jmk trivial (zbo _ _) (zaf _) (by simp) ?_;(case hd=>rfl);(case hg=>rfl);(case hr=>first | (go_simp;done) | (go_simp;rfl));(case hp=>exact(zdx (show Kd.M (Kd.int .u8) _ _ _ ((a0_0) % 256) [.int .u8 ((a0_0) % 256)] from rfl) (zfq _ _)))
        intro v565 w22 ho23 hb hg_ hnew_
        clear hg_ hnew_
        (first | rw[← C2.out] at ho23 | (simp only[Int.reduceToNat] at ho23;rw[← C2.out] at ho23))
        have n0_:=Aside0.mk (zbx (qR E0.out) (zbg ho23) hb)
        have n1_:=Aside0.mk (zgm (qV o0.out) (zbg ho23) hb)
        have n2_:=Aside0.mk (zax (zdg (Kd.R_newM (M:=fun k_=>(w.heap.size≤k_)) ho23 (zal (bs1 D0.out)) (fun k_ h_=>h_)) (zce (qR E0.out))) (zal (bs1 D0.out)))
        have n3_:=Aside0.mk (jbb B0.out hb)
        have n4_:=Aside0.mk (zac (bs1 D0.out) hb)
        have z_HO569:=fun(h0_:b 8=true) (h1_:b 18=false)=>(show Kd.R (Kd.int .u8) 5 w22 w.heap.size (fun k_=>(w.heap.size≤k_)∧some k_≠(u3:Value).ownBlock) v568 Q0 from zqR (zbx (pR (Q_HO569 h0_ h1_)) (zbg ho23) hb))
        have z_HO572:=fun(h0_:b 11=true) (h1_:b 18=false)=>(show Kd.R (Kd.int .u8) 5 w22 w.heap.size (fun k_=>(w.heap.size≤k_)∧some k_≠(u3:Value).ownBlock) v571 L0 from zqR (zbx (pR (Q_HO572 h0_ h1_)) (zbg ho23) hb))
        have z_HO575:=fun(h0_:b 15=true) (h1_:b 18=false)=>(show Kd.R (Kd.int .u8) 5 w22 w.heap.size (fun k_=>(w.heap.size≤k_)∧some k_≠(u3:Value).ownBlock) v574 M0 from zqR (zbx (pR (Q_HO575 h0_ h1_)) (zbg ho23) hb))
        clear E0
        clear o0
        clear B0
        clear HB
        have E0:=n0_
        have o0:=n1_
        have S0:=n2_
        have B0:=n3_
        have HB:=n4_
        clear n0_ n1_ n2_ n3_ n4_
        clear hb ho23
        refine hK.out _ _ ⟨v565,v568,v571,v574,v577,v580,m20_,(by rw[ha.out];exact zgx 2 hb_ rfl rfl rfl),fun _=>(qR E0.out),fun _=>(mqV o0.out),(pB B0.out),(bs1 D0.out),fun _ _=>(mqR S0.out),z_HO569,z_HO572,z_HO575,jof (hoff 18),jof (hoff 18),jof (hoff 19),jof (hoff 20)⟩
       refine zgw ?_ ?_
       ·rintro b a w' ⟨v565,v568,v571,v574,v577,v580,m20_,ha,Q_HO_3,Q_HO_556004,Q_BK555,Q_HB,Q_HO566,Q_HO569,Q_HO572,Q_HO575,Q_HO578,Q_HO_556004_e18,Q_HO581,Q_X20_⟩ hb_ hon hoff
        refine⟨_,rfl,fun K hK=>?_⟩
        have M4:a.tmps[23]? =some (.pointer (some ⟨C0,2,none⟩)):=by rw[ha];exact(putSel_off rfl).trans rfl
        replace ha:=Aside0.mk ha
        have E0:=Aside0.mk (Q_HO_3 (hoff 18 (by kernel_rfl)))
        have o0:=Aside0.mk (Q_HO_556004 (hoff 18 (by kernel_rfl)))
        have B0:=Aside0.mk Q_BK555
        have HB:=Aside0.mk Q_HB
        have hc0_:w'.cell? ⟨C0,0,none⟩=some (.int .i64 a0_0):=(zbi B0.out 0).trans rfl
        have hc1_:w'.cell? ⟨C0,1,none⟩=some (.string a0_1):=(zbi B0.out 1).trans rfl
        have hc2_:w'.cell? ⟨C0,2,none⟩=some (.int .i64 a0_2):=(zbi B0.out 2).trans rfl
        have hc3_:w'.cell? ⟨C0,3,none⟩=some (.int .i64 a0_3):=(zbi B0.out 3).trans rfl
        have hc4_:w'.cell? ⟨C0,4,none⟩=some (.slice A0_4 l0_4.length c0_4):=(zbi B0.out 4).trans rfl
        refine value_ (w1:=w') (v:= .int .i64 a0_2) (by rfl) rfl ?_ ?_
        ·go_simp
         (try simp only[i64_w])
         try rfl
        refine hK.out _ _ ⟨v565,v568,v571,v574,v577,v580,m20_,(by rw[ha.out];exact zgx 3 hb_ rfl rfl rfl),Q_HO_3,Q_HO_556004,Q_BK555,Q_HB,Q_HO566,jof (hoff 8),Q_HO572,Q_HO575,jof (hoff 18),jof (hoff 18),jof (hoff 19),jof (hoff 20)⟩
       refine zgw ?_ ?_
       ·rintro b a w' ⟨v565,v568,v571,v574,v577,v580,m20_,ha,Q_HO_3,Q_HO_556004,Q_BK555,Q_HB,Q_HO566,Q_HO569,Q_HO572,Q_HO575,Q_HO578,Q_HO_556004_e18,Q_HO581,Q_X20_⟩ hb_ hon hoff
        refine⟨_,rfl,fun K hK=>?_⟩
        have N4:a.tmps[24]? =some (.int .i64 a0_2):=by rw[ha];exact putSel_on (e:=(6,24, .int .i64 a0_2)) 3 rfl rfl (hon 6 (by kernel_rfl)) rfl
        replace ha:=Aside0.mk ha
        have E0:=Aside0.mk (Q_HO_3 (hoff 18 (by kernel_rfl)))
        have o0:=Aside0.mk (Q_HO_556004 (hoff 18 (by kernel_rfl)))
        have B0:=Aside0.mk Q_BK555
        have HB:=Aside0.mk Q_HB
        refine value_ (w1:=w') (v:= .int .u8 ((a0_2) % 256)) (by rfl) rfl ?_ ?_
        ·go_simp
         (try simp only[i64_w])
         try rfl
        refine hK.out _ _ ⟨v565,v568,v571,v574,v577,v580,m20_,(by rw[ha.out];exact zgx 4 hb_ rfl rfl rfl),Q_HO_3,Q_HO_556004,Q_BK555,Q_HB,Q_HO566,jof (hoff 8),Q_HO572,Q_HO575,jof (hoff 18),jof (hoff 18),jof (hoff 19),jof (hoff 20)⟩
       refine zgw ?_ ?_
       ·rintro b a w' ⟨v565,v568,v571,v574,v577,v580,m20_,ha,Q_HO_3,Q_HO_556004,Q_BK555,Q_HB,Q_HO566,Q_HO569,Q_HO572,Q_HO575,Q_HO578,Q_HO_556004_e18,Q_HO581,Q_X20_⟩ hb_ hon hoff
        refine⟨_,rfl,fun K hK=>?_⟩
        have O4:a.tmps[25]? =some (.int .u8 ((a0_2) % 256)):=by rw[ha];exact putSel_on (e:=(7,25, .int .u8 ((a0_2) % 256))) 4 rfl rfl (hon 7 (by kernel_rfl)) rfl
        replace ha:=Aside0.mk ha
        have E0:=Aside0.mk (Q_HO_3 (hoff 18 (by kernel_rfl)))
        have o0:=Aside0.mk (Q_HO_556004 (hoff 18 (by kernel_rfl)))
        have B0:=Aside0.mk Q_BK555
        have HB:=Aside0.mk Q_HB
        refine Kd.R_lit_step (Kd.int .u8) _ 5 ?hg (N:=26) ?hd (xs:=([(a0_2) % 256]:List Int)) (inner:=[.int .u8 ((a0_2) % 256)]) (ok:=fun _=>True) (okp:=fun _=>True) ?hr ?hp jmk trivial (zbo _ _) (zaf _) (by simp) ?_;(case hd=>rfl);(case hg=>rfl);(case hr=>first | (go_simp;done) | (go_simp;rfl));(case hp=>exact(zdx (show Kd.M (Kd.int .u8) _ _ _ ((a0_2) % 256) [.int .u8 ((a0_2) % 256)] from rfl) (zfq _ _)))
        intro v568 w22 ho23 hb hg_ hnew_
        clear hg_ hnew_
        (first | rw[← D2.out] at ho23 | (simp only[Int.reduceToNat] at ho23;rw[← D2.out] at ho23))
        have n0_:=Aside0.mk (zbx (qR E0.out) (zbg ho23) hb)
        have n1_:=Aside0.mk (zgm (qV o0.out) (zbg ho23) hb)
        have n2_:=Aside0.mk (zax (zdg (Kd.R_newM (M:=fun k_=>(w.heap.size≤k_)) ho23 (zal (bs1 D0.out)) (fun k_ h_=>h_)) (zce (qR E0.out))) (zal (bs1 D0.out)))
        have n3_:=Aside0.mk (jbb B0.out hb)
        have n4_:=Aside0.mk (zac (bs1 D0.out) hb)
        have z_HO566:=fun(h0_:b 3=true) (h1_:b 18=false)=>(show Kd.R (Kd.int .u8) 5 w22 w.heap.size (fun k_=>(w.heap.size≤k_)∧some k_≠(u3:Value).ownBlock) v565 O0 from zqR (zbx (pR (Q_HO566 h0_ h1_)) (zbg ho23) hb))
        have z_HO572:=fun(h0_:b 11=true) (h1_:b 18=false)=>(show Kd.R (Kd.int .u8) 5 w22 w.heap.size (fun k_=>(w.heap.size≤k_)∧some k_≠(u3:Value).ownBlock) v571 L0 from zqR (zbx (pR (Q_HO572 h0_ h1_)) (zbg ho23) hb))
        have z_HO575:=fun(h0_:b 15=true) (h1_:b 18=false)=>(show Kd.R (Kd.int .u8) 5 w22 w.heap.size (fun k_=>(w.heap.size≤k_)∧some k_≠(u3:Value).ownBlock) v574 M0 from zqR (zbx (pR (Q_HO575 h0_ h1_)) (zbg ho23) hb))
        clear E0
        clear o0
        clear B0
        clear HB
        have E0:=n0_
        have o0:=n1_
        have T0:=n2_
        have B0:=n3_
        have HB:=n4_
        clear n0_ n1_ n2_ n3_ n4_
        clear hb ho23
        refine hK.out _ _ ⟨v565,v568,v571,v574,v577,v580,m20_,(by rw[ha.out];exact zgx 5 hb_ rfl rfl rfl),fun _=>(qR E0.out),fun _=>(mqV o0.out),(pB B0.out),(bs1 D0.out),z_HO566,fun _ _=>(mqR T0.out),z_HO572,z_HO575,jof (hoff 18),jof (hoff 18),jof (hoff 19),jof (hoff 20)⟩
       refine zgw ?_ ?_
       ·rintro b a w' ⟨v565,v568,v571,v574,v577,v580,m20_,ha,Q_HO_3,Q_HO_556004,Q_BK555,Q_HB,Q_HO566,Q_HO569,Q_HO572,Q_HO575,Q_HO578,Q_HO_556004_e18,Q_HO581,Q_X20_⟩ hb_ hon hoff
        refine⟨_,rfl,fun K hK=>?_⟩
        have P4:a.tmps[27]? =some (.pointer (some ⟨C0,3,none⟩)):=by rw[ha];exact(putSel_off rfl).trans rfl
        replace ha:=Aside0.mk ha
        have E0:=Aside0.mk (Q_HO_3 (hoff 18 (by kernel_rfl)))
        have o0:=Aside0.mk (Q_HO_556004 (hoff 18 (by kernel_rfl)))
        have B0:=Aside0.mk Q_BK555
        have HB:=Aside0.mk Q_HB
        have hc0_:w'.cell? ⟨C0,0,none⟩=some (.int .i64 a0_0):=(zbi B0.out 0).trans rfl
        have hc1_:w'.cell? ⟨C0,1,none⟩=some (.string a0_1):=(zbi B0.out 1).trans rfl
        have hc2_:w'.cell? ⟨C0,2,none⟩=some (.int .i64 a0_2):=(zbi B0.out 2).trans rfl
        have hc3_:w'.cell? ⟨C0,3,none⟩=some (.int .i64 a0_3):=(zbi B0.out 3).trans rfl
        have hc4_:w'.cell? ⟨C0,4,none⟩=some (.slice A0_4 l0_4.length c0_4):=(zbi B0.out 4).trans rfl
        refine value_ (w1:=w') (v:= .int .i64 a0_3) (by rfl) rfl ?_ ?_
        ·go_simp
         (try simp only[i64_w])
         try rfl
        refine hK.out _ _ ⟨v565,v568,v571,v574,v577,v580,m20_,(by rw[ha.out];exact zgx 6 hb_ rfl rfl rfl),Q_HO_3,Q_HO_556004,Q_BK555,Q_HB,Q_HO566,Q_HO569,jof (hoff 11),jof (hoff 15),jof (hoff 18),jof (hoff 18),jof (hoff 19),jof (hoff 20)⟩
       refine zgw ?_ ?_
       ·rintro b a w' ⟨v565,v568,v571,v574,v577,v580,m20_,ha,Q_HO_3,Q_HO_556004,Q_BK555,Q_HB,Q_HO566,Q_HO569,Q_HO572,Q_HO575,Q_HO578,Q_HO_556004_e18,Q_HO581,Q_X20_⟩ hb_ hon hoff
        refine⟨_,rfl,fun K hK=>?_⟩
        have t4:a.tmps[28]? =some (.int .i64 a0_3):=by rw[ha];exact putSel_on (e:=(10,28, .int .i64 a0_3)) 6 rfl rfl (hon 10 (by kernel_rfl)) rfl
        replace ha:=Aside0.mk ha
        have E0:=Aside0.mk (Q_HO_3 (hoff 18 (by kernel_rfl)))
        have o0:=Aside0.mk (Q_HO_556004 (hoff 18 (by kernel_rfl)))
        have B0:=Aside0.mk Q_BK555
        have HB:=Aside0.mk Q_HB
        refine goes_ Try.func110 (by kernel_rfl) rfl #[.int .i64 a0_3, .int .i64 4] (by rfl) rfl rfl (by first | (simp only[zek,zfb,zfl,Act.eval,Array.getD_eq_getD_getElem?,Option.getD_some,t4];done) | (simp only[zek,zfb,zfl,Act.eval,Array.getD_eq_getD_getElem?,Option.getD_some,t4];rfl)) ?_
        with_reducible refine(impl_Great.calls kj4 a0_3 4 L0 _ F4.out).mono ?_
        rintro e w22 ⟨v571,rfl,ho0,hb⟩
        refine⟨_,rfl,?_⟩
        have n0_:=Aside0.mk (zbx (qR E0.out) (zbg ho0) hb)
        have n1_:=Aside0.mk (zgm (qV o0.out) (zbg ho0) hb)
        have n2_:=Aside0.mk (zax (zdg (Kd.R_newM (M:=fun k_=>(w.heap.size≤k_)) ho0 (zal (bs1 D0.out)) (fun k_ h_=>h_)) (zce (qR E0.out))) (zal (bs1 D0.out)))
        have n3_:=Aside0.mk (jbb B0.out hb)
        have n4_:=Aside0.mk (zac (bs1 D0.out) hb)
        have z_HO566:=fun(h0_:b 3=true) (h1_:b 18=false)=>(show Kd.R (Kd.int .u8) 5 w22 w.heap.size (fun k_=>(w.heap.size≤k_)∧some k_≠(u3:Value).ownBlock) v565 O0 from zqR (zbx (pR (Q_HO566 h0_ h1_)) (zbg ho0) hb))
        have z_HO569:=fun(h0_:b 8=true) (h1_:b 18=false)=>(show Kd.R (Kd.int .u8) 5 w22 w.heap.size (fun k_=>(w.heap.size≤k_)∧some k_≠(u3:Value).ownBlock) v568 Q0 from zqR (zbx (pR (Q_HO569 h0_ h1_)) (zbg ho0) hb))
        clear E0
        clear o0
        clear B0
        clear HB
        have E0:=n0_
        have o0:=n1_
        have J0:=n2_
        have B0:=n3_
        have HB:=n4_
        clear n0_ n1_ n2_ n3_ n4_
        (try clear hb)
        (try clear hb2)
        (try clear hk)
        (try clear hi)
        (try clear ho0)
        refine hK.out _ _ ⟨v565,v568,v571,v574,v577,v580,m20_,(by rw[ha.out];exact zgx 7 hb_ rfl rfl rfl),fun _=>(qR E0.out),fun _=>(mqV o0.out),(pB B0.out),(bs1 D0.out),z_HO566,z_HO569,fun _ _=>(mqR J0.out),jof (hoff 15),jof (hoff 18),jof (hoff 18),jof (hoff 19),jof (hoff 20)⟩
       refine zgw ?_ ?_
       ·rintro b a w' ⟨v565,v568,v571,v574,v577,v580,m20_,ha,Q_HO_3,Q_HO_556004,Q_BK555,Q_HB,Q_HO566,Q_HO569,Q_HO572,Q_HO575,Q_HO578,Q_HO_556004_e18,Q_HO581,Q_X20_⟩ hb_ hon hoff
        refine⟨_,rfl,fun K hK=>?_⟩
        have Q4:a.tmps[30]? =some (.pointer (some ⟨C0,4,none⟩)):=by rw[ha];exact(putSel_off rfl).trans rfl
        replace ha:=Aside0.mk ha
        have E0:=Aside0.mk (Q_HO_3 (hoff 18 (by kernel_rfl)))
        have o0:=Aside0.mk (Q_HO_556004 (hoff 18 (by kernel_rfl)))
        have B0:=Aside0.mk Q_BK555
        have HB:=Aside0.mk Q_HB
        have hc0_:w'.cell? ⟨C0,0,none⟩=some (.int .i64 a0_0):=(zbi B0.out 0).trans rfl
        have hc1_:w'.cell? ⟨C0,1,none⟩=some (.string a0_1):=(zbi B0.out 1).trans rfl
        have hc2_:w'.cell? ⟨C0,2,none⟩=some (.int .i64 a0_2):=(zbi B0.out 2).trans rfl
        have hc3_:w'.cell? ⟨C0,3,none⟩=some (.int .i64 a0_3):=(zbi B0.out 3).trans rfl
        have hc4_:w'.cell? ⟨C0,4,none⟩=some (.slice A0_4 l0_4.length c0_4):=(zbi B0.out 4).trans rfl
        refine value_ (w1:=w') (v:= .slice A0_4 l0_4.length c0_4) (by rfl) rfl ?_ ?_
        ·go_simp
         (try simp only[i64_w])
         try rfl
        refine hK.out _ _ ⟨v565,v568,v571,v574,v577,v580,m20_,(by rw[ha.out];exact zgx 8 hb_ rfl rfl rfl),Q_HO_3,Q_HO_556004,Q_BK555,Q_HB,Q_HO566,Q_HO569,Q_HO572,jof (hoff 15),jof (hoff 18),jof (hoff 18),jof (hoff 19),jof (hoff 20)⟩
       refine zgw ?_ ?_
       ·rintro b a w' ⟨v565,v568,v571,v574,v577,v580,m20_,ha,Q_HO_3,Q_HO_556004,Q_BK555,Q_HB,Q_HO566,Q_HO569,Q_HO572,Q_HO575,Q_HO578,Q_HO_556004_e18,Q_HO581,Q_X20_⟩ hb_ hon hoff
        refine⟨_,rfl,fun K hK=>?_⟩
        have R4:a.tmps[31]? =some (.slice A0_4 l0_4.length c0_4):=by rw[ha];exact putSel_on (e:=(13,31, .slice A0_4 l0_4.length c0_4)) 8 rfl rfl (hon 13 (by kernel_rfl)) rfl
        replace ha:=Aside0.mk ha
        have E0:=Aside0.mk (Q_HO_3 (hoff 18 (by kernel_rfl)))
        have o0:=Aside0.mk (Q_HO_556004 (hoff 18 (by kernel_rfl)))
        have B0:=Aside0.mk Q_BK555
        have HB:=Aside0.mk Q_HB
        refine value_ (w1:=w') (v:= .int .i64 (l0_4.length:Int)) (by rfl) rfl ?_ ?_
        ·go_simp
         (try simp only[i64_w])
         try rfl
        refine hK.out _ _ ⟨v565,v568,v571,v574,v577,v580,m20_,(by rw[ha.out];exact zgx 9 hb_ rfl rfl rfl),Q_HO_3,Q_HO_556004,Q_BK555,Q_HB,Q_HO566,Q_HO569,Q_HO572,jof (hoff 15),jof (hoff 18),jof (hoff 18),jof (hoff 19),jof (hoff 20)⟩
       refine zgw ?_ ?_
       ·rintro b a w' ⟨v565,v568,v571,v574,v577,v580,m20_,ha,Q_HO_3,Q_HO_556004,Q_BK555,Q_HB,Q_HO566,Q_HO569,Q_HO572,Q_HO575,Q_HO578,Q_HO_556004_e18,Q_HO581,Q_X20_⟩ hb_ hon hoff
        refine⟨_,rfl,fun K hK=>?_⟩
        have B4:a.tmps[32]? =some (.int .i64 (l0_4.length:Int)):=by rw[ha];exact putSel_on (e:=(14,32, .int .i64 (l0_4.length:Int))) 9 rfl rfl (hon 14 (by kernel_rfl)) rfl
        replace ha:=Aside0.mk ha
        have E0:=Aside0.mk (Q_HO_3 (hoff 18 (by kernel_rfl)))
        have o0:=Aside0.mk (Q_HO_556004 (hoff 18 (by kernel_rfl)))
        have B0:=Aside0.mk Q_BK555
        have HB:=Aside0.mk Q_HB
        have J0:=Aside0.mk (Q_HO572 (hon 11 (by kernel_rfl)) (hoff 18 (by kernel_rfl)))
        refine goes_ Try.func110 (by kernel_rfl) rfl #[.int .i64 (l0_4.length:Int), .int .i64 2] (by rfl) rfl rfl (by first | (simp only[zek,zfb,zfl,Act.eval,Array.getD_eq_getD_getElem?,Option.getD_some,B4];done) | (simp only[zek,zfb,zfl,Act.eval,Array.getD_eq_getD_getElem?,Option.getD_some,B4];rfl)) ?_
        with_reducible refine(impl_Great.calls kj4 (l0_4.length:Int) 2 M0 _ G4.out).mono ?_
        rintro e w24 ⟨v574,rfl,ho0,hb⟩
        refine⟨_,rfl,?_⟩
        have n0_:=Aside0.mk (zbx (qR E0.out) (zbg ho0) hb)
        have n1_:=Aside0.mk (zgm (qV o0.out) (zbg ho0) hb)
        have n2_:=Aside0.mk (zbx (qR J0.out) (zbg ho0) hb)
        have n3_:=Aside0.mk (zax (zdg (zdg (Kd.R_newM (M:=fun k_=>(w.heap.size≤k_)) ho0 (zal (bs1 D0.out)) (fun k_ h_=>h_)) (zce (qR E0.out))) (zce (qR J0.out))) (zal (bs1 D0.out)))
        have n4_:=Aside0.mk (jbb B0.out hb)
        have n5_:=Aside0.mk (zac (bs1 D0.out) hb)
        have z_HO566:=fun(h0_:b 3=true) (h1_:b 18=false)=>(show Kd.R (Kd.int .u8) 5 w24 w.heap.size (fun k_=>(w.heap.size≤k_)∧some k_≠(u3:Value).ownBlock) v565 O0 from zqR (zbx (pR (Q_HO566 h0_ h1_)) (zbg ho0) hb))
        have z_HO569:=fun(h0_:b 8=true) (h1_:b 18=false)=>(show Kd.R (Kd.int .u8) 5 w24 w.heap.size (fun k_=>(w.heap.size≤k_)∧some k_≠(u3:Value).ownBlock) v568 Q0 from zqR (zbx (pR (Q_HO569 h0_ h1_)) (zbg ho0) hb))
        clear E0
        clear o0
        clear J0
        clear B0
        clear HB
        have E0:=n0_
        have o0:=n1_
        have J0:=n2_
        have U0:=n3_
        have B0:=n4_
        have HB:=n5_
        clear n0_ n1_ n2_ n3_ n4_ n5_
        (try clear hb)
        (try clear hb2)
        (try clear hk)
        (try clear hi)
        (try clear ho0)
        refine hK.out _ _ ⟨v565,v568,v571,v574,v577,v580,m20_,(by rw[ha.out];exact zgx 10 hb_ rfl rfl rfl),fun _=>(mqR E0.out),fun _=>(mqV o0.out),(pB B0.out),(bs1 D0.out),z_HO566,z_HO569,fun _ _=>(mqR J0.out),fun _ _=>(mqR U0.out),jof (hoff 18),jof (hoff 18),jof (hoff 19),jof (hoff 20)⟩
       refine zgw ?_ ?_
       ·rintro b a w' ⟨v565,v568,v571,v574,v577,v580,m20_,ha,Q_HO_3,Q_HO_556004,Q_BK555,Q_HB,Q_HO566,Q_HO569,Q_HO572,Q_HO575,Q_HO578,Q_HO_556004_e18,Q_HO581,Q_X20_⟩ hb_ hon hoff
        refine⟨_,rfl,fun K hK=>?_⟩
        have S4:a.tmps[34]? =some (.pointer (some ⟨C0,4,none⟩)):=by rw[ha];exact(putSel_off rfl).trans rfl
        replace ha:=Aside0.mk ha
        have E0:=Aside0.mk (Q_HO_3 (hoff 18 (by kernel_rfl)))
        have o0:=Aside0.mk (Q_HO_556004 (hoff 18 (by kernel_rfl)))
        have B0:=Aside0.mk Q_BK555
        have HB:=Aside0.mk Q_HB
        have hc0_:w'.cell? ⟨C0,0,none⟩=some (.int .i64 a0_0):=(zbi B0.out 0).trans rfl
        have hc1_:w'.cell? ⟨C0,1,none⟩=some (.string a0_1):=(zbi B0.out 1).trans rfl
        have hc2_:w'.cell? ⟨C0,2,none⟩=some (.int .i64 a0_2):=(zbi B0.out 2).trans rfl
        have hc3_:w'.cell? ⟨C0,3,none⟩=some (.int .i64 a0_3):=(zbi B0.out 3).trans rfl
        have hc4_:w'.cell? ⟨C0,4,none⟩=some (.slice A0_4 l0_4.length c0_4):=(zbi B0.out 4).trans rfl
        refine value_ (w1:=w') (v:= .slice A0_4 l0_4.length c0_4) (by rfl) rfl ?_ ?_
        ·go_simp
         (try simp only[i64_w])
         try rfl
        refine hK.out _ _ ⟨v565,v568,v571,v574,v577,v580,m20_,(by rw[ha.out];exact zgx 11 hb_ rfl rfl rfl),Q_HO_3,Q_HO_556004,Q_BK555,Q_HB,Q_HO566,Q_HO569,Q_HO572,Q_HO575,jof (hoff 18),jof (hoff 18),jof (hoff 19),jof (hoff 20)⟩
       refine zgw ?_ ?_
       ·rintro b a w' ⟨v565,v568,v571,v574,v577,v580,m20_,ha,Q_HO_3,Q_HO_556004,Q_BK555,Q_HB,Q_HO566,Q_HO569,Q_HO572,Q_HO575,Q_HO578,Q_HO_556004_e18,Q_HO581,Q_X20_⟩ hb_ hon hoff
        refine⟨_,rfl,fun K hK=>?_⟩
        have T4:a.tmps[21]? =some (v565):=by rw[ha];exact putSel_on (e:=(3,21,v565)) 2 rfl rfl (hon 3 (by kernel_rfl)) rfl
        have U4:a.tmps[22]? =some u3:=by rw[ha];exact(putSel_off rfl).trans rfl
        have V4:a.tmps[26]? =some (v568):=by rw[ha];exact putSel_on (e:=(8,26,v568)) 5 rfl rfl (hon 8 (by kernel_rfl)) rfl
        have W4:a.tmps[29]? =some (v571):=by rw[ha];exact putSel_on (e:=(11,29,v571)) 7 rfl rfl (hon 11 (by kernel_rfl)) rfl
        have X4:a.tmps[33]? =some (v574):=by rw[ha];exact putSel_on (e:=(15,33,v574)) 10 rfl rfl (hon 15 (by kernel_rfl)) rfl
        have Y4:a.tmps[35]? =some (.slice A0_4 l0_4.length c0_4):=by rw[ha];exact putSel_on (e:=(17,35, .slice A0_4 l0_4.length c0_4)) 11 rfl rfl (hon 17 (by kernel_rfl)) rfl
        replace ha:=Aside0.mk ha
        have E0:=Aside0.mk (Q_HO_3 hb_)
        have o0:=Aside0.mk (Q_HO_556004 hb_)
        have B0:=Aside0.mk Q_BK555
        have HB:=Aside0.mk Q_HB
        have S0:=Aside0.mk (Q_HO566 (hon 3 (by kernel_rfl)) hb_)
        have T0:=Aside0.mk (Q_HO569 (hon 8 (by kernel_rfl)) hb_)
        have J0:=Aside0.mk (Q_HO572 (hon 11 (by kernel_rfl)) hb_)
        have U0:=Aside0.mk (Q_HO575 (hon 15 (by kernel_rfl)) hb_)
        obtain⟨Q2,R2,C3⟩:=zbd S0.out
        (first | subst C3 | (injection C3 with f1_ f2_ f3_;have f4_:=f1_.symm;have f5_:=f3_.symm;clear f1_ f2_ f3_;subst f4_;subst f5_))
        obtain⟨D3,E3,F3⟩:=zbd E0.out
        (first | subst F3 | (injection F3 with f1_ f2_ f3_;have f4_:=f1_.symm;have f5_:=f3_.symm;clear f1_ f2_ f3_;subst f4_;subst f5_))
        obtain⟨T2,U2,G3⟩:=zbd T0.out
        (first | subst G3 | (injection G3 with f1_ f2_ f3_;have f4_:=f1_.symm;have f5_:=f3_.symm;clear f1_ f2_ f3_;subst f4_;subst f5_))
        obtain⟨V2,X2,H3⟩:=zbd J0.out
        (first | subst H3 | (injection H3 with f1_ f2_ f3_;have f4_:=f1_.symm;have f5_:=f3_.symm;clear f1_ f2_ f3_;subst f4_;subst f5_))
        obtain⟨Y2,Z2,I3⟩:=zbd U0.out
        (first | subst I3 | (injection I3 with f1_ f2_ f3_;have f4_:=f1_.symm;have f5_:=f3_.symm;clear f1_ f2_ f3_;subst f4_;subst f5_))
        refine Kd.N_lit_step (Kd.slice 5 (Kd.int .u8)) _ 29 ?hg (N':=36) ?hd (xs:=([O0,P0,Q0,L0,M0,l0_4]:List (List Int))) (inner:=[.slice Q2 O0.length R2, .slice D3 P0.length E3, .slice T2 Q0.length U2, .slice V2 L0.length X2, .slice Y2 M0.length Z2, .slice A0_4 l0_4.length c0_4]) (ok:=(fun k_=>(P0_4_ k_∨w.heap.size≤k_)∧k_≠C0)) (okp:=(fun k_=>(P0_4_ k_∨w.heap.size≤k_)∧k_≠C0)) ?hr ?hp jmk ((show ∀ k_,w'.heap.size≤k_→(fun k_=>(P0_4_ k_∨w.heap.size≤k_)∧k_≠C0) k_ from fun k_ hk=>⟨(.inr (zcv (zal (bs1 D0.out)) hk)),zfw (pB B0.out) k_ hk⟩) _ (zaf _)) (zbo _ _) (zaf _) (by simp) ?_;(case hd=>rfl);(case hg=>rfl);(case hr=>first | (go_simp;done) | (go_simp;rfl));(case hp=>exact(zdx (show Kd.FK (Kd.slice 5 (Kd.int .u8)) _ _ O0 [.slice Q2 O0.length R2] from(Kd.FK_slice_mk (zbp (zam (ok':=(fun k_=>(P0_4_ k_∨w.heap.size≤k_)∧k_≠C0)) (zdc (S0.out) B0.out (by decide)) (fun k_ hk=>by first | exact⟨(.inr (hk.1.1)),hk.2⟩ | (revert hk;(try simp only[and_imp]);intros;repeat' (first | assumption | apply zfy | exact .inr (by assumption)))))).2.1 (Kd.R_F (zam (ok':=(fun k_=>(P0_4_ k_∨w.heap.size≤k_)∧k_≠C0)) (zdc (S0.out) B0.out (by decide)) (fun k_ hk=>by first | exact⟨(.inr (hk.1.1)),hk.2⟩ | (revert hk;(try simp only[and_imp]);intros;repeat' (first | assumption | apply zfy | exact .inr (by assumption)))))))) (zdx (show Kd.FK (Kd.slice 5 (Kd.int .u8)) _ _ P0 [.slice D3 P0.length E3] from(Kd.FK_slice_mk (zbp (zam (ok':=(fun k_=>(P0_4_ k_∨w.heap.size≤k_)∧k_≠C0)) (zdc (E0.out) B0.out (by decide)) (fun k_ hk=>by first | exact⟨(.inr (hk.1.1)),hk.2⟩ | (revert hk;(try simp only[and_imp]);intros;repeat' (first | assumption | apply zfy | exact .inr (by assumption)))))).2.1 (Kd.R_F (zam (ok':=(fun k_=>(P0_4_ k_∨w.heap.size≤k_)∧k_≠C0)) (zdc (E0.out) B0.out (by decide)) (fun k_ hk=>by first | exact⟨(.inr (hk.1.1)),hk.2⟩ | (revert hk;(try simp only[and_imp]);intros;repeat' (first | assumption | apply zfy | exact .inr (by assumption)))))))) (zdx (show Kd.FK (Kd.slice 5 (Kd.int .u8)) _ _ Q0 [.slice T2 Q0.length U2] from(Kd.FK_slice_mk (zbp (zam (ok':=(fun k_=>(P0_4_ k_∨w.heap.size≤k_)∧k_≠C0)) (zdc (T0.out) B0.out (by decide)) (fun k_ hk=>by first | exact⟨(.inr (hk.1.1)),hk.2⟩ | (revert hk;(try simp only[and_imp]);intros;repeat' (first | assumption | apply zfy | exact .inr (by assumption)))))).2.1 (Kd.R_F (zam (ok':=(fun k_=>(P0_4_ k_∨w.heap.size≤k_)∧k_≠C0)) (zdc (T0.out) B0.out (by decide)) (fun k_ hk=>by first | exact⟨(.inr (hk.1.1)),hk.2⟩ | (revert hk;(try simp only[and_imp]);intros;repeat' (first | assumption | apply zfy | exact .inr (by assumption)))))))) (zdx (show Kd.FK (Kd.slice 5 (Kd.int .u8)) _ _ L0 [.slice V2 L0.length X2] from(Kd.FK_slice_mk (zbp (zam (ok':=(fun k_=>(P0_4_ k_∨w.heap.size≤k_)∧k_≠C0)) (zdc (J0.out) B0.out (by decide)) (fun k_ hk=>by first | exact⟨(.inr (hk.1.1)),hk.2⟩ | (revert hk;(try simp only[and_imp]);intros;repeat' (first | assumption | apply zfy | exact .inr (by assumption)))))).2.1 (Kd.R_F (zam (ok':=(fun k_=>(P0_4_ k_∨w.heap.size≤k_)∧k_≠C0)) (zdc (J0.out) B0.out (by decide)) (fun k_ hk=>by first | exact⟨(.inr (hk.1.1)),hk.2⟩ | (revert hk;(try simp only[and_imp]);intros;repeat' (first | assumption | apply zfy | exact .inr (by assumption)))))))) (zdx (show Kd.FK (Kd.slice 5 (Kd.int .u8)) _ _ M0 [.slice Y2 M0.length Z2] from(Kd.FK_slice_mk (zbp (zam (ok':=(fun k_=>(P0_4_ k_∨w.heap.size≤k_)∧k_≠C0)) (zdc (U0.out) B0.out (by decide)) (fun k_ hk=>by first | exact⟨(.inr (hk.1.1)),hk.2⟩ | (revert hk;(try simp only[and_imp]);intros;repeat' (first | assumption | apply zfy | exact .inr (by assumption)))))).2.1 (Kd.R_F (zam (ok':=(fun k_=>(P0_4_ k_∨w.heap.size≤k_)∧k_≠C0)) (zdc (U0.out) B0.out (by decide)) (fun k_ hk=>by first | exact⟨(.inr (hk.1.1)),hk.2⟩ | (revert hk;(try simp only[and_imp]);intros;repeat' (first | assumption | apply zfy | exact .inr (by assumption)))))))) (zdx (show Kd.FK (Kd.slice 5 (Kd.int .u8)) _ _ l0_4 [.slice A0_4 l0_4.length c0_4] from(Kd.FK_slice_mk (zhe (zgs (ok':=(fun k_=>(P0_4_ k_∨w.heap.size≤k_)∧k_≠C0)) (o0.out) (fun k_ hk=>by first | exact⟨hk.1,hk.2.2.2.2.2.2⟩ | (revert hk;(try simp only[and_imp]);intros;repeat' (first | assumption | apply zfy | exact .inr (by assumption)))))).2.1 (Kd.V_F (zgs (ok':=(fun k_=>(P0_4_ k_∨w.heap.size≤k_)∧k_≠C0)) (o0.out) (fun k_ hk=>by first | exact⟨hk.1,hk.2.2.2.2.2.2⟩ | (revert hk;(try simp only[and_imp]);intros;repeat' (first | assumption | apply zfy | exact .inr (by assumption)))))))) (zfq _ _))))))))
        intro v577 w34 X0 hb hg_ hnew_
        clear hg_ hnew_
        (first | rw[← E2.out] at X0 | (simp only[Int.reduceToNat] at X0;rw[← E2.out] at X0))
        have n_:=jA4 (zgm (qV o0.out) (Kd.N_base X0) hb) (Kd.N_lower X0 (zal (bs1 D0.out))) (jbb B0.out hb) (zac (bs1 D0.out) hb)
        clear o0 B0 HB S0 T0 J0 U0 E0
        obtain⟨o0,G0,B0,HB⟩:=n_
        clear hb X0
        refine hK.out _ _ ⟨.slice Q2 O0.length R2, .slice T2 Q0.length U2, .slice V2 L0.length X2, .slice Y2 M0.length Z2,v577,v580,m20_,(by rw[ha.out];exact zgx 12 hb_ rfl rfl rfl),jou (up_self b 18),jou (up_self b 18),(pB B0.out),(bs1 D0.out),jo3 (up_self b 18),jo3 (up_self b 18),jo3 (up_self b 18),jo3 (up_self b 18),fun _=>(pN G0.out),fun _=>(mqV o0.out),jof (hoff 19),jof (hoff 20)⟩
       refine zgw ?_ ?_
       ·rintro b a w' ⟨v565,v568,v571,v574,v577,v580,m20_,ha,Q_HO_3,Q_HO_556004,Q_BK555,Q_HB,Q_HO566,Q_HO569,Q_HO572,Q_HO575,Q_HO578,Q_HO_556004_e18,Q_HO581,Q_X20_⟩ hb_ hon hoff
        refine⟨_,rfl,fun K hK=>?_⟩
        have C4:a.tmps[36]? =some (v577):=by rw[ha];exact putSel_on (e:=(18,36,v577)) 12 rfl rfl (hon 18 (by kernel_rfl)) rfl
        replace ha:=Aside0.mk ha
        have B0:=Aside0.mk Q_BK555
        have HB:=Aside0.mk Q_HB
        have G0:=Aside0.mk (Q_HO578 (hon 18 (by kernel_rfl)))
        have o0:=Aside0.mk (Q_HO_556004_e18 (hon 18 (by kernel_rfl)))
        obtain⟨J3,K3,L3⟩:=Kd.N_slice G0.out
        (first | subst L3 | (injection L3 with f1_ f2_ f3_;have f4_:=f1_.symm;have f5_:=f3_.symm;clear f1_ f2_ f3_;subst f4_;subst f5_))
        refine goes_ Try.func109 (by kernel_rfl) rfl #[.slice J3 C1.length K3] (by rfl) rfl rfl (by first | (simp only[zek,zfb,zfl,Act.eval,Array.getD_eq_getD_getElem?,Option.getD_some,C4];done) | (simp only[zek,zfb,zfl,Act.eval,Array.getD_eq_getD_getElem?,Option.getD_some,C4];rfl)) ?_
        with_reducible refine(impl_joined.calls _ _ C1 H0 _ ?side1 ?side2 H4.out).mono ?_
        (case side1=>repeat(first | exact(Kd.N_reads' G0.out).2.2 | (with_reducible refine zdd ?_ _) | (with_reducible refine zdq ?_ _) | (with_reducible refine zeb ?_)))
        (case side2=>exact(Kd.N_reads' G0.out).2.1)
        rintro e w37 ⟨v580,rfl,ho0,hb⟩
        refine⟨_,rfl,?_⟩
        have n_:=jA5 (zgm (qV o0.out) (zbg ho0) hb) (Kd.N_elder' (pN G0.out) (zbg ho0) hb) (zax (Kd.R_newM (M:=fun k_=>(w.heap.size≤k_)) ho0 (zal (bs1 D0.out)) (fun k_ h_=>h_)) (zal (bs1 D0.out))) (jbb B0.out hb) (zac (bs1 D0.out) hb)
        clear o0 G0 B0 HB
        obtain⟨o0,G0,I0,B0,HB⟩:=n_
        (try clear hb)
        (try clear hb2)
        (try clear hk)
        (try clear hi)
        (try clear ho0)
        refine hK.out _ _ ⟨v565,v568,v571,v574, .slice J3 C1.length K3,v580,m20_,(by rw[ha.out];exact zgx 13 hb_ rfl rfl rfl),jof (hon 18),jof (hon 18),(pB B0.out),(bs1 D0.out),jo2 (hon 18),jo2 (hon 18),jo2 (hon 18),jo2 (hon 18),fun _=>(mqN G0.out),fun _=>(mqV o0.out),fun _=>(mqR I0.out),jof (hoff 20)⟩
       refine zgw ?_ ?_
       ·rintro b a w' ⟨v565,v568,v571,v574,v577,v580,m20_,ha,Q_HO_3,Q_HO_556004,Q_BK555,Q_HB,Q_HO566,Q_HO569,Q_HO572,Q_HO575,Q_HO578,Q_HO_556004_e18,Q_HO581,Q_X20_⟩ hb_ hon hoff
        refine⟨_,rfl,fun K hK=>?_⟩
        have Z4:a.tmps[37]? =some (v580):=by rw[ha];exact putSel_on (e:=(19,37,v580)) 13 rfl rfl (hon 19 (by kernel_rfl)) rfl
        replace ha:=Aside0.mk ha
        have B0:=Aside0.mk Q_BK555
        have HB:=Aside0.mk Q_HB
        have G0:=Aside0.mk (Q_HO578 (hon 18 (by kernel_rfl)))
        have o0:=Aside0.mk (Q_HO_556004_e18 (hon 18 (by kernel_rfl)))
        have I0:=Aside0.mk (Q_HO581 (hon 19 (by kernel_rfl)))
        refine value_ (w1:=w') (v:=v580) (by rfl) rfl ?_ ?_
        ·go_simp
         (try simp only[i64_w])
         try rfl
        refine hK.out _ _ ⟨v565,v568,v571,v574,v577,v580,(v580),(by rw[ha.out];exact zgx 14 hb_ rfl rfl rfl),jof (hon 18),jof (hon 18),Q_BK555,Q_HB,jo2 (hon 18),jo2 (hon 18),jo2 (hon 18),jo2 (hon 18),Q_HO578,Q_HO_556004_e18,Q_HO581,fun _=>rfl⟩
       exact steps_nil
      rintro b a w37 hall ⟨v565,v568,v571,v574,v577,v580,m20_,ha,Q_HO_3,Q_HO_556004,Q_BK555,Q_HB,Q_HO566,Q_HO569,Q_HO572,Q_HO575,Q_HO578,Q_HO_556004_e18,Q_HO581,Q_X20_⟩
      clear B0 HB E0 o0
      have hb1_:=hall 1 (by kernel_rfl)
      have hb2_:=hall 2 (by kernel_rfl)
      have hb3_:=hall 3 (by kernel_rfl)
      have hb6_:=hall 6 (by kernel_rfl)
      have hb7_:=hall 7 (by kernel_rfl)
      have hb8_:=hall 8 (by kernel_rfl)
      have hb10_:=hall 10 (by kernel_rfl)
      have hb11_:=hall 11 (by kernel_rfl)
      have hb13_:=hall 13 (by kernel_rfl)
      have hb14_:=hall 14 (by kernel_rfl)
      have hb15_:=hall 15 (by kernel_rfl)
      have hb17_:=hall 17 (by kernel_rfl)
      have hb18_:=hall 18 (by kernel_rfl)
      have hb19_:=hall 19 (by kernel_rfl)
      have hb20_:=hall 20 (by kernel_rfl)
      subst ha
      obtain rfl:=Q_X20_ hb20_
      simp only[putSel,hb1_,hb2_,hb3_,hb6_,hb7_,hb8_,hb10_,hb11_,hb13_,hb14_,hb15_,hb17_,hb18_,hb19_,hb20_,if_true,Act.put,zaq,zbj,zbk]
      clear Q_HO_3
      clear Q_HO_556004
      have B0:=Aside0.mk Q_BK555
      clear Q_BK555
      have HB:=Aside0.mk Q_HB
      clear Q_HB
      clear Q_HO566
      clear Q_HO569
      clear Q_HO572
      clear Q_HO575
      have G0:=Aside0.mk (Q_HO578 hb18_)
      clear Q_HO578
      have o0:=Aside0.mk (Q_HO_556004_e18 hb18_)
      clear Q_HO_556004_e18
      have I0:=Aside0.mk (Q_HO581 hb19_)
      clear Q_HO581
      clear hall hb1_ hb2_ hb3_ hb6_ hb7_ hb8_ hb10_ hb11_ hb13_ hb14_ hb15_ hb17_ hb18_ hb19_ hb20_
      obtain⟨Ao38,co38,eo38⟩:=zbd I0.out
      subst eo38
      try go_wp2_with (first | (refine jgc 110 ?_;refine jgs 41 Try.func110 #[.int .i64 (H0.length:Int), .int .i64 2] ?_;(with_reducible refine(impl_Great.calls kj4 (H0.length:Int) 2 K0 _ I4.out).mono ?_);rintro e w39 ⟨v583,rfl,ho0,hb⟩;refine⟨_,rfl,?_⟩;have n_:=jA6 (zgm (qV o0.out) (zbg ho0) hb) (Kd.N_elder' (pN G0.out) (zbg ho0) hb) (zbx (qR I0.out) (zbg ho0) hb) (zax (zdg (Kd.R_newM (M:=fun k_=>(w.heap.size≤k_)) ho0 (zal (bs1 D0.out)) (fun k_ h_=>h_)) (zce (qR I0.out))) (zal (bs1 D0.out))) (jbb B0.out hb) (zac (bs1 D0.out) hb);clear o0 G0 I0 B0 HB;obtain⟨o0,G0,I0,N0,B0,HB⟩:=n_;(try clear hb);(try clear hb2);(try clear hk);(try clear hi);(try clear ho0);obtain⟨Ao41,co41,eo41⟩:=zbd N0.out;subst eo41) | ((with_reducible refine zcd (b:= .append) (xs:= #[.tmp 38, .tmp 41]) rfl ?_);at_builtin;refine zej (Kd.int .u8) (w0:=w) w.heap.size rfl (.tmp 38) (.tmp 41) 29 5 (.int .u8 0) 1 rfl Try.underlying29 info5 rfl (by decide) (by omega) (.slice Ao38 H0.length co38) H0 K0 _ _ _ (fun k_=>(w.heap.size≤k_)∧some k_≠(.slice Ao41 K0.length co41:Value).ownBlock) (fun _=>False) rfl rfl ?aO ?aR (fun _ _ h=>h) (fun _ h=>h.elim) ?aF ?aB ?aS ?aL ?_;(case aR=>repeat(first | exact(zbp N0.out).2.2 | (with_reducible refine zdd ?_ _) | (with_reducible refine zdq ?_ _) | (with_reducible refine zeb ?_)));(case aB=>exact(bs1 D0.out));(case aF=>exact(fun k_ hk=>by first | exact⟨(zcv (zal (bs1 D0.out)) hk),zdu (zce (qR N0.out)) k_ hk⟩ | (revert hk;(try simp only[and_imp]);intros;repeat' (first | assumption | apply zfy | exact .inr (by assumption)))));(case aO=>exact(qR I0.out));(case aS=>exact(zal (bs1 D0.out)));(case aL=>have:=t3.out;omega);intro v586 w40 ho hb hg hat;rw[← B3.out] at ho;have n0_:=Aside0.mk (Kd.V_afterv (ok:=(fun k_=>(P0_4_ k_∨w.heap.size≤k_)∧some k_≠(v577:Value).ownBlock∧some k_≠(.slice Ao41 K0.length co41:Value).ownBlock∧k_≠C0)) (by(with_reducible repeat(first | apply Kd.V_alloc | apply Kd.V_drewN | apply Kd.V_drew));exact zgs (Kd.V_old hs0_4 HB.out) (fun k_ hk=>(by repeat' (first | apply zfy | exact .inl hk.1 | exact hk.1 | exact fun e_=>Nat.lt_irrefl _ (zch (Eq.subst (motive:=fun q_=>q_<w.heap.size) e_ hk.2) D0.out) | exact fun e_=>Nat.lt_irrefl _ (zch hk.2 (zbg G0.out _ e_.symm)) | exact fun e_=>Nat.lt_irrefl _ (zch hk.2 (Kd.N_base G0.out _ e_.symm)) | exact fun e_=>Nat.lt_irrefl _ (zch hk.2 (zbg I0.out _ e_.symm)) | exact fun e_=>Nat.lt_irrefl _ (zch hk.2 (Kd.N_base I0.out _ e_.symm)) | exact fun e_=>Nat.lt_irrefl _ (zch hk.2 (zbg N0.out _ e_.symm)) | exact fun e_=>Nat.lt_irrefl _ (zch hk.2 (Kd.N_base N0.out _ e_.symm)))))) hg hat);have n1_:=Aside0.mk (zeq (pB B0.out) hg (zgk I0.out B0.out (by decide)));have n2_:=Aside0.mk trivial;have n3_:=Aside0.mk (zdo (ok:=(fun k_=>(w.heap.size≤k_))) (mqR N0.out) hg hat);have n4_:=Aside0.mk (hb);have n5_:=Aside0.mk (ho);clear o0;clear B0;clear G0;clear N0;clear HB;clear I0;have o0:=n0_;have B0:=n1_;have G0:=n2_;have N0:=n3_;have HB:=n4_;have M3:=n5_;clear n0_ n1_ n2_ n3_ n4_ n5_;clear ho hb hg hat))
      go_ret
      exact⟨_,jex,by(with_reducible repeat(first | apply zbl | apply zbm | apply zbs));exact zam M3.out (fun _ hk=>by first | exact hk.1 | (revert hk;(try simp only[and_imp]);intros;repeat' (first | assumption | apply zfy | exact .inr (by assumption)))),(bs1 D0.out)⟩
     rw[if_neg N3] at H
     exact absurd H (by simp)
  rw[if_neg c4] at H
  exact absurd H (by simp)
 replace c3:=zcp.mpr c3
 subst c3
 rw[if_neg (show ¬(false=true) by decide)] at H
 obtain rfl:=Option.some.inj H
 go_enter Try.func49,Try.ntmps49
 go_wp2_with (first | (refine jgd 1 ?_;refine bx 1 (#[.int .i64 a0_0, .string a0_1, .int .i64 a0_2, .int .i64 a0_3, .slice A0_4 l0_4.length c0_4]) 48 ?_;intro C0 hg w42 hbox hb;have xb_:=below_ofs bq hb;have n_:=jA5 (zhh (Kd.V_elderB (qV F0.out) C0 (zev hg.symm)) hb) (zac xb_ hb) (hbox) (ge0 hg xb_:w.heap.size≤C0) (ge0 hg xb_:w.heap.size≤C0);clear F0 HB;obtain⟨F0,HB,B0,k3,D0⟩:=n_;clear xb_ hb hbox hg;obtain⟨O3,P3,Q3,R3,S3,T3,U3,V3,W3,X3⟩:=cz5 B0.out) | (refine jgc 36 ?_;refine jgs 6 Try.func36 #[.agg #[.int .i64 a0_0, .string a0_1, .int .i64 a0_2, .int .i64 a0_3, .slice A0_4 l0_4.length c0_4]] ?_;(with_reducible refine(impl_LineOk.calls k a0_0 a0_1 a0_2 a0_3 _ _ l0_4 false _ ?side1 ?side2 A2.out).mono ?_);(case side1=>repeat(first | exact(zhe F0.out).2.2 | (with_reducible first | apply zdd | apply zdq | apply zeb)));(case side2=>exact(zhe F0.out).2.1);rintro e w44 ⟨rfl,hb⟩;refine⟨_,rfl,?_⟩;have n_:=jA3 (zhh (qV F0.out) hb) (jbb B0.out hb) (zac (bs1 D0.out) hb);clear F0 B0 HB;obtain⟨F0,B0,HB⟩:=n_;(try clear hb);(try clear hb2);(try clear hk);(try clear hi)))
 go_ret
 exact⟨_,jex,by first | exact zgo _ _ _ _ _ | exact Kd.N_nil _ _ _ _ _ | exact Kd.V_nil _ _ _ _ _ | exact Kd.Q_nil _ _ _ _ _ | exact Kd.S_nil _ _ _ _ _,(bs1 D0.out)⟩
end Go.Proofs.Ytlalkldjpniakaa.P
