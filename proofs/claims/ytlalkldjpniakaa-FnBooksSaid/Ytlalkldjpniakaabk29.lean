import Derived.Test.Ytlalkldjpniakaabk21
import Derived.Test.Ytlalkldjpniakaabk28
namespace Go.Proofs.Ytlalkldjpniakaa.P
open Go.RowKit Go.Proofs.YtlalkldjpniakaaW.PrintWords Go.Proofs.YtlalkldjpniakaaW.PrintLast Go.Proofs.YtlalkldjpniakaaW.PrintMore
attribute [local go_sem] zck zcl zdl zdm zbz zca zcm zcn -- for this text's walks alone
set_option linter.unusedVariables false
set_option linter.unusedSimpArgs false

def impl_Play.l0:Nat→List Int→List (S34)→Int→Int→Option ((List (S34))×Int×Int)
 | 0,_,_,_,_=>none
 | k+1,x0,x5,x6,x7=>(impl_LineOf.f k x0 x7).bind fun bt1125=>(if bt1125.2.2.2.2.2.2=true then(if bt1125.1=1 then((impl_itemOf.f bt1125.1 bt1125.2.1 bt1125.2.2.1 bt1125.2.2.2.1 bt1125.2.2.2.2.1).bind fun bt1135=>((impl_Put.f k x5 bt1135.1 bt1135.2.1 bt1135.2.2.1 bt1135.2.2.2).bind fun bt1141=>(impl_Play.l0 k x0 bt1141.1 x6 bt1125.2.2.2.2.2.1))) else(if bt1125.1=2 then((impl_Take.f k x5 bt1125.2.1).bind fun bt1145=>(impl_Play.l0 k x0 bt1145.2.2.2.2.1 x6 bt1125.2.2.2.2.2.1)) else(if bt1125.1=3 then(if bt1125.2.2.2.1≥x6 then((impl_Due.f k x5 bt1125.2.2.2.1).bind fun t1155=>(impl_Play.l0 k x0 t1155 bt1125.2.2.2.1 bt1125.2.2.2.2.2.1)) else(impl_Play.l0 k x0 x5 x6 bt1125.2.2.2.2.2.1)) else(impl_Play.l0 k x0 x5 x6 bt1125.2.2.2.2.2.1)))) else(some (x5,x6,x7)))
def impl_Play.f (k:Nat) (l0:List Int):Option ((List (S34))×Int×Int):=impl_Play.l0 k l0 (([]:List (S34))) 0 0
theorem impl_Play.mono_l:∀ k,(∀ y0 y1 y2 y3,LeO (impl_Play.l0 k y0 y1 y2 y3) (impl_Play.l0 (k+1) y0 y1 y2 y3))
 | 0=>fun _ _ _ _ r h=>by simp [impl_Play.l0] at h
 | k+1=>by
  have ih0:=impl_Play.mono_l k
  intro y0 y1 y2 y3
  unfold impl_Play.l0
  have m0:=@impl_Due.mono
  have m1:=@impl_LineOf.mono
  have m2:=@impl_Put.mono
  have m3:=@impl_Take.mono
  exact mt
theorem impl_Play.mono:∀ a0 k,LeO (impl_Play.f k a0) (impl_Play.f (k+1) a0):=by
 intro a0 k
 have ih0:=impl_Play.mono_l k
 unfold impl_Play.f
 have m0:=@impl_Due.mono
 have m1:=@impl_LineOf.mono
 have m2:=@impl_Put.mono
 have m3:=@impl_Take.mono
 exact mt
set_option maxHeartbeats 8000000 in
set_option maxRecDepth 100000 in
theorem impl_Play.calls (k:Nat) (A0:Option Addr) (c0:Nat) (l0:List Int) (r1:List (S34)) (r2:Int) (r3:Int) (w:World) (hr0:Kd.C (Kd.int .u8) w A0 l0.length l0) (hc0:l0.length≤c0) (h:impl_Play.f k l0=some (r1,r2,r3)):
  Calls Try.prog 70 #[.slice A0 l0.length c0] w fun e w'=>∃ v0_:Value,e= .returned (.tuple #[v0_, .int .i64 r2, .int .i64 r3])∧Kd.S k34 34 w' w.heap.size (fun _=>True) v0_ r1∧Below w.heap.size w w':=by
 have hu48:=Try.underlying48
 have HR0:=Aside0.mk hr0
 have P1:=Aside0.mk hc0
 clear hr0 hc0
 have HB:=Aside0.mk (zbo w.heap.size w)
 have H:(impl_Play.l0 k l0 (([]:List (S34))) 0 0)=some (r1,r2,r3):=h
 clear h
 obtain⟨E1,S0⟩:∃ y_:List (S34),y_=(([]:List (S34))):=⟨_,rfl⟩
 replace H:(impl_Play.l0 k l0 E1 0 0)=some (r1,r2,r3):=jrw S0 H
 have X0:=Aside0.mk S0
 clear S0
 have H':=Aside0.mk H
 clear H
 go_enter Try.func70,Try.ntmps70
 go_wp2_with (first | (refine jgd 11 ?_;refine Kd.S_lit k34 _ 34 ?hg (N:=11) ?hd (xs:=([]:List (S34))) (inner:=[]) (ok:=fun _=>True) (okp:=fun _=>True) ?hr ?hp (fun _ hk=>hk) trivial (zbo _ _) (zaf _) (by simp) ?_;(case hd=>rfl);(case hg=>rfl);(case hr=>first | (go_simp;done) | (go_simp;rfl));(case hp=>exact(zfq _ _));intro v1123 w2 R1 hb hg_ hnew_;have xb_:=below_ofs bq hb;clear hg_ hnew_;(first | rw[← X0.out] at R1 | (simp only[Int.reduceToNat] at R1;rw[← X0.out] at R1));have n_:=jA2 (zfz R1 (zal xb_)) (zac xb_ hb);clear HB;obtain⟨I1,HB⟩:=n_;clear xb_ hb R1))
 go_loopg [5,6,7] k (fun kq v5 v6 v7 w'=>∃ (N0:List (S34)) (P0:Int) (L0:Int),v6= .int .i64 P0∧v7= .int .i64 L0∧Aside0 (impl_Play.l0 kq l0 N0 P0 L0=some (r1,r2,r3))∧Aside0 (kq≤k)∧Aside0 (Kd.S k34 34 w' w.heap.size (fun _=>True) v5 N0)∧Aside0 (Below w.heap.size w w'))
 case atStart=>exact⟨(E1),(0),(0),jer,jer,H',⟨zaf _⟩,⟨pS I1.out⟩,⟨bq⟩⟩
 case round=>
  clear H'
  try clear p2
  obtain⟨N0,P0,L0,rfl,rfl,HA,D1,D0,HB⟩:=hrel
  cases gk with
  | zero=>exact absurd HA.out (by simp [impl_Play.l0])
  | succ k1=>
   have H:=HA.out
   clear HA
   simp only[impl_Play.l0] at H
   obtain⟨⟨E0,G0,I0,F0,H0,K0,S1⟩,A4,H⟩:=bnd H
   try dsimp only at H
   by_cases c5:S1=true
   ·subst c5
    rw[if_pos rfl] at H
    by_cases c6:E0=1
    ·rw[if_pos c6] at H
     have L4:=beqT c6
     have M4:=zbb.mpr c6
     clear c6
     obtain⟨⟨Y0,Z0,n1,C1⟩,A7,H⟩:=bnd H
     try dsimp only at H
     obtain⟨⟨F1,U1⟩,A8,H⟩:=bnd H
     try dsimp only at H
     have H':=Aside0.mk H
     clear H
     go_wp2_with (first | (refine jgc 56 ?_;refine jgs 15 Try.func56 #[.slice A0 l0.length c0, .int .i64 L0] ?_;(with_reducible refine(impl_LineOf.calls k1 _ _ l0 L0 E0 G0 I0 F0 H0 K0 true _ ?side1 ?side2 A4.out).mono ?_);(case side1=>exact jcs HR0.out);(case side2=>exact P1.out);rintro e w9 ⟨v1130,rfl,ho0,hb⟩;refine⟨_,rfl,?_⟩;have xb_:=below_ofs bq hb;have n_:=jA3 (zen (pS D0.out) (zbg ho0) hb) (zax ho0 (zal xb_)) (zac xb_ hb);clear D0 HB;obtain⟨D0,B0,HB⟩:=n_;clear xb_ hb ho0) | (refine jgd 8 ?_;refine bx 8 (#[.int .i64 0, .string (⟨#[]⟩:ByteArray), .int .i64 0, .int .i64 0, .slice none 0 0]) 48 ?_;intro o0 hg w10 hbox hb;have xb_:=below_ofs bq hb;have n_:=jA6 (zfp (pS D0.out) hb) (zdb (pR B0.out) hb) (zac xb_ hb) (hbox) (ge0 hg xb_:w.heap.size≤o0) (ge0 hg xb_:w.heap.size≤o0);clear D0 B0 HB;obtain⟨D0,B0,HB,C0,O0,J0⟩:=n_;clear xb_ hb hbox hg;obtain⟨G2,H2,I2,J2,K2,M2,N2,O2,P2,Q2⟩:=cz5 C0.out;obtain⟨W0,T0,N4⟩:=zbd B0.out;subst N4) | (refine jgc 93 ?_;refine jgs 32 Try.func93 #[.agg #[.int .i64 E0, .string G0, .int .i64 I0, .int .i64 F0, .slice W0 H0.length T0]] ?_;(with_reducible refine(impl_itemOf.calls E0 G0 I0 F0 _ _ H0 Y0 Z0 n1 C1 _ ?side1 ?side2 A7.out).mono ?_);(case side1=>refine(zbp (e:=5) (base:=w.heap.size) (ok:=fun k_=>True) (n:=H0.length) (c:=T0) ?_).2.2;exact(by(with_reducible repeat(first | apply zbl | apply zbm | apply zbs));exact(zam (zcx (p:=⟨o0,4,none⟩) (zcx (p:=⟨o0,3,none⟩) (rf3 B0.out C0.out) (fun _ hk=>hk.2) (.int .i64 F0)) (fun _ hk=>hk.2) (.slice W0 H0.length T0)) (fun _ h_=>h_.1))));(case side2=>exact(zbp B0.out).2.1);rintro e w13 ⟨v1139,rfl,ho0,hb⟩;refine⟨_,rfl,?_⟩;have n_:=jA5 (zen (by(with_reducible repeat(first | apply zeh | apply zei | apply zeu));exact(zdw (zds (p:=⟨o0,4,none⟩) (zds (p:=⟨o0,3,none⟩) (zds (p:=⟨o0,2,none⟩) (zds (p:=⟨o0,1,none⟩) (zds (p:=⟨o0,0,none⟩) (Kd.S_types D0.out C0.out (by decide)) (fun _ hk=>hk.2) (.int .i64 E0)) (fun _ hk=>hk.2) (.string G0)) (fun _ hk=>hk.2) (.int .i64 I0)) (fun _ hk=>hk.2) (.int .i64 F0)) (fun _ hk=>hk.2) (.slice W0 H0.length T0)) (fun _ h_=>h_.1))) (zbg ho0) hb) (zbx (by(with_reducible repeat(first | apply zbl | apply zbm | apply zbs));exact(zam (zcx (p:=⟨o0,4,none⟩) (zcx (p:=⟨o0,3,none⟩) (rf3 B0.out C0.out) (fun _ hk=>hk.2) (.int .i64 F0)) (fun _ hk=>hk.2) (.slice W0 H0.length T0)) (fun _ h_=>h_.1))) (zbg ho0) hb) (zax (zdg ho0 (zce (by(with_reducible repeat(first | apply zbl | apply zbm | apply zbs));exact(zam (zcx (p:=⟨o0,4,none⟩) (zcx (p:=⟨o0,3,none⟩) (rf3 B0.out C0.out) (fun _ hk=>hk.2) (.int .i64 F0)) (fun _ hk=>hk.2) (.slice W0 H0.length T0)) (fun _ h_=>h_.1))))) (zal (bs1 J0.out))) (blk_below (g:=o0) (o:= .cells #[.int .i64 E0, .string G0, .int .i64 I0, .int .i64 F0, .slice W0 H0.length T0] 48 (0,0)) (by(with_reducible repeat(first | refine zaj ?_ _ | refine zan ?_ | refine zak ?_ _));refine zbw (cs:= #[.int .i64 E0, .string G0, .int .i64 I0, .int .i64 F0, .slice none 0 0]) ?_ 4 _ rfl;(with_reducible repeat(first | refine zaj ?_ _ | refine zan ?_ | refine zak ?_ _));refine zbw (cs:= #[.int .i64 E0, .string G0, .int .i64 I0, .int .i64 0, .slice none 0 0]) ?_ 3 _ rfl;(with_reducible repeat(first | refine zaj ?_ _ | refine zan ?_ | refine zak ?_ _));refine zbw (cs:= #[.int .i64 E0, .string G0, .int .i64 0, .int .i64 0, .slice none 0 0]) ?_ 2 _ rfl;(with_reducible repeat(first | refine zaj ?_ _ | refine zan ?_ | refine zak ?_ _));refine zbw (cs:= #[.int .i64 E0, .string (⟨#[]⟩:ByteArray), .int .i64 0, .int .i64 0, .slice none 0 0]) ?_ 1 _ rfl;(with_reducible repeat(first | refine zaj ?_ _ | refine zan ?_ | refine zak ?_ _));refine zbw (cs:= #[.int .i64 0, .string (⟨#[]⟩:ByteArray), .int .i64 0, .int .i64 0, .slice none 0 0]) ?_ 0 _ rfl;(with_reducible repeat(first | refine zaj ?_ _ | refine zan ?_ | refine zak ?_ _));exact C0.out) hb) (zac (bs1 J0.out) hb);clear D0 B0 C0 HB;obtain⟨D0,B0,M0,C0,HB⟩:=n_;clear hb ho0;obtain⟨O4,P4,Q4⟩:=Kd.S_slice D0.out;subst Q4;obtain⟨R4,S4,T4⟩:=zbd M0.out;subst T4) | (refine jgc 60 ?_;refine jgs 33 Try.func60 #[.slice O4 N0.length P4, .agg #[.string Y0, .int .i64 Z0, .int .i64 n1, .slice R4 C1.length S4]] ?_;(with_reducible refine(impl_Put.calls k1 _ _ N0 Y0 Z0 n1 _ _ C1 F1 U1 _ ?side1 ?side2 ?side3 ?side4 A8.out).mono ?_);(case side1=>repeat(first | exact(zfn D0.out).2.2 | (with_reducible first | apply zdd | apply zdq | apply zeb)));(case side2=>exact(zfn D0.out).2.1);(case side3=>repeat(first | exact(zbp M0.out).2.2 | (with_reducible first | apply zdd | apply zdq | apply zeb)));(case side4=>exact(zbp M0.out).2.1);rintro e w16 ⟨v1142,rfl,ho0,hb⟩;refine⟨_,rfl,?_⟩;have n_:=jA6 (zen (pS D0.out) (Kd.S_base ho0) hb) (zdb (pR B0.out) hb) (zdb (pR M0.out) hb) (zfz (Kd.S_new' (Kd.S_new' (Kd.S_new' ho0 (Kd.S_lt (pS D0.out))) (zce (pR B0.out))) (zce (pR M0.out))) (zal (bs1 J0.out))) (jbb C0.out hb) (zac (bs1 J0.out) hb);clear D0 B0 M0 C0 HB;obtain⟨D0,B0,M0,J1,C0,HB⟩:=n_;clear hb ho0))
     go_roundg k1
     case measure=>have:=D1.out;omega
     case rel=>exact⟨(F1),(P0),(K0),jer,jer,H',⟨by have:=D1.out;omega⟩,⟨tqS J1.out⟩,⟨bs1 J0.out⟩⟩
    rw[if_neg c6] at H
    have L4:=zau.mpr c6
    have M4:=zcz.mpr c6
    by_cases K1:E0=2
    ·rw[if_pos K1] at H
     have V1:=beqT K1
     have X1:=zbb.mpr K1
     clear K1
     obtain⟨⟨Y1,Z1,j2,k2,G1,n2⟩,o5,H⟩:=bnd H
     try dsimp only at H
     have H':=Aside0.mk H
     clear H
     go_wp2_with (first | (refine jgc 56 ?_;refine jgs 15 Try.func56 #[.slice A0 l0.length c0, .int .i64 L0] ?_;(with_reducible refine(impl_LineOf.calls k1 _ _ l0 L0 E0 G0 I0 F0 H0 K0 true _ ?side1 ?side2 A4.out).mono ?_);(case side1=>exact jcs HR0.out);(case side2=>exact P1.out);rintro e w19 ⟨v1130,rfl,ho0,hb⟩;refine⟨_,rfl,?_⟩;have xb_:=below_ofs bq hb;have n_:=jA3 (zen (pS D0.out) (zbg ho0) hb) (zax ho0 (zal xb_)) (zac xb_ hb);clear D0 HB;obtain⟨D0,B0,HB⟩:=n_;clear xb_ hb ho0) | (refine jgd 8 ?_;refine bx 8 (#[.int .i64 0, .string (⟨#[]⟩:ByteArray), .int .i64 0, .int .i64 0, .slice none 0 0]) 48 ?_;intro o0 hg w20 hbox hb;have xb_:=below_ofs bq hb;have n_:=jA6 (zfp (pS D0.out) hb) (zdb (pR B0.out) hb) (zac xb_ hb) (hbox) (ge0 hg xb_:w.heap.size≤o0) (ge0 hg xb_:w.heap.size≤o0);clear D0 B0 HB;obtain⟨D0,B0,HB,C0,O0,J0⟩:=n_;clear xb_ hb hbox hg;obtain⟨R2,T2,U2,V2,X2,Y2,Z2,j3,k3,n3⟩:=cz5 C0.out;obtain⟨Q0,R0,U4⟩:=zbd B0.out;subst U4;obtain⟨V4,B2,W4⟩:=Kd.S_slice D0.out;subst W4) | (refine jgc 45 ?_;refine jgs 42 Try.func45 #[.slice V4 N0.length B2, .string G0] ?_;(with_reducible refine(impl_Take.calls k1 _ _ N0 G0 Y1 Z1 j2 k2 G1 n2 _ ?side1 ?side2 o5.out).mono ?_);(case side1=>refine(zfn (e:=34) (base:=w.heap.size) (ok:=fun k_=>(True∧some k_≠(.slice Q0 H0.length R0:Value).ownBlock)) (n:=N0.length) (c:=B2) ?_).2.2;exact(by(with_reducible repeat(first | apply zeh | apply zei | apply zeu));exact(zdw (zds (p:=⟨o0,4,none⟩) (zds (p:=⟨o0,3,none⟩) (zds (p:=⟨o0,2,none⟩) (zds (p:=⟨o0,1,none⟩) (zds (p:=⟨o0,0,none⟩) (Kd.S_types D0.out C0.out (by decide)) (fun _ hk=>hk.2) (.int .i64 E0)) (fun _ hk=>hk.2) (.string G0)) (fun _ hk=>hk.2) (.int .i64 I0)) (fun _ hk=>hk.2) (.int .i64 F0)) (fun _ hk=>hk.2) (.slice Q0 H0.length R0)) (fun _ h_=>h_.1))));(case side2=>exact(zfn D0.out).2.1);rintro e w24 ⟨v1149,v1152,rfl,ho0,ho1,hb⟩;refine⟨_,rfl,?_⟩;have n_:=jA6 (zdw (Kd.S_told (Kd.S_told (Kd.S_old (by(with_reducible repeat(first | apply zeh | apply zei | apply zeu));exact(zdw (zds (p:=⟨o0,4,none⟩) (zds (p:=⟨o0,3,none⟩) (zds (p:=⟨o0,2,none⟩) (zds (p:=⟨o0,1,none⟩) (zds (p:=⟨o0,0,none⟩) (Kd.S_types D0.out C0.out (by decide)) (fun _ hk=>hk.2) (.int .i64 E0)) (fun _ hk=>hk.2) (.string G0)) (fun _ hk=>hk.2) (.int .i64 I0)) (fun _ hk=>hk.2) (.int .i64 F0)) (fun _ hk=>hk.2) (.slice Q0 H0.length R0)) (fun _ h_=>h_.1))) hb) (zbg ho0)) (Kd.S_base ho1)) (fun _ h_=>h_.1)) (zbx (by(with_reducible repeat(first | apply zbl | apply zbm | apply zbs));exact(zam (zcx (p:=⟨o0,4,none⟩) (zcx (p:=⟨o0,3,none⟩) (rf3 B0.out C0.out) (fun _ hk=>hk.2) (.int .i64 F0)) (fun _ hk=>hk.2) (.slice Q0 H0.length R0)) (fun _ h_=>h_.1))) (zbg ho0) hb) (zax (zdg ho0 (zce (by(with_reducible repeat(first | apply zbl | apply zbm | apply zbs));exact(zam (zcx (p:=⟨o0,4,none⟩) (zcx (p:=⟨o0,3,none⟩) (rf3 B0.out C0.out) (fun _ hk=>hk.2) (.int .i64 F0)) (fun _ hk=>hk.2) (.slice Q0 H0.length R0)) (fun _ h_=>h_.1))))) (zal (bs1 J0.out))) (zfz (Kd.S_new' (Kd.S_new' ho1 (Kd.S_lt (by(with_reducible repeat(first | apply zeh | apply zei | apply zeu));exact(zdw (zds (p:=⟨o0,4,none⟩) (zds (p:=⟨o0,3,none⟩) (zds (p:=⟨o0,2,none⟩) (zds (p:=⟨o0,1,none⟩) (zds (p:=⟨o0,0,none⟩) (Kd.S_types D0.out C0.out (by decide)) (fun _ hk=>hk.2) (.int .i64 E0)) (fun _ hk=>hk.2) (.string G0)) (fun _ hk=>hk.2) (.int .i64 I0)) (fun _ hk=>hk.2) (.int .i64 F0)) (fun _ hk=>hk.2) (.slice Q0 H0.length R0)) (fun _ h_=>h_.1))))) (zce (by(with_reducible repeat(first | apply zbl | apply zbm | apply zbs));exact(zam (zcx (p:=⟨o0,4,none⟩) (zcx (p:=⟨o0,3,none⟩) (rf3 B0.out C0.out) (fun _ hk=>hk.2) (.int .i64 F0)) (fun _ hk=>hk.2) (.slice Q0 H0.length R0)) (fun _ h_=>h_.1))))) (zal (bs1 J0.out))) (blk_below (g:=o0) (o:= .cells #[.int .i64 E0, .string G0, .int .i64 I0, .int .i64 F0, .slice Q0 H0.length R0] 48 (0,0)) (by(with_reducible repeat(first | refine zaj ?_ _ | refine zan ?_ | refine zak ?_ _));refine zbw (cs:= #[.int .i64 E0, .string G0, .int .i64 I0, .int .i64 F0, .slice none 0 0]) ?_ 4 _ rfl;(with_reducible repeat(first | refine zaj ?_ _ | refine zan ?_ | refine zak ?_ _));refine zbw (cs:= #[.int .i64 E0, .string G0, .int .i64 I0, .int .i64 0, .slice none 0 0]) ?_ 3 _ rfl;(with_reducible repeat(first | refine zaj ?_ _ | refine zan ?_ | refine zak ?_ _));refine zbw (cs:= #[.int .i64 E0, .string G0, .int .i64 0, .int .i64 0, .slice none 0 0]) ?_ 2 _ rfl;(with_reducible repeat(first | refine zaj ?_ _ | refine zan ?_ | refine zak ?_ _));refine zbw (cs:= #[.int .i64 E0, .string (⟨#[]⟩:ByteArray), .int .i64 0, .int .i64 0, .slice none 0 0]) ?_ 1 _ rfl;(with_reducible repeat(first | refine zaj ?_ _ | refine zan ?_ | refine zak ?_ _));refine zbw (cs:= #[.int .i64 0, .string (⟨#[]⟩:ByteArray), .int .i64 0, .int .i64 0, .slice none 0 0]) ?_ 0 _ rfl;(with_reducible repeat(first | refine zaj ?_ _ | refine zan ?_ | refine zak ?_ _));exact C0.out) hb) (zac (bs1 J0.out) hb);clear D0 B0 C0 HB;obtain⟨D0,B0,X4,M1,C0,HB⟩:=n_;clear hb ho0;(try clear ho1)))
     go_roundg k1
     case measure=>have:=D1.out;omega
     case rel=>exact⟨(G1),(P0),(K0),jer,jer,H',⟨by have:=D1.out;omega⟩,⟨tqS M1.out⟩,⟨bs1 J0.out⟩⟩
    rw[if_neg K1] at H
    have V1:=zau.mpr K1
    have X1:=zcz.mpr K1
    by_cases N1:E0=3
    ·rw[if_pos N1] at H
     have C2:=beqT N1
     have D2:=zbb.mpr N1
     clear N1
     by_cases Q1:F0≥P0
     ·rw[if_pos Q1] at H
      have E2:=zae Q1
      clear Q1
      obtain⟨H1,t5,H⟩:=bnd H
      have H':=Aside0.mk H
      clear H
      go_wp2_with (first | (refine jgc 56 ?_;refine jgs 15 Try.func56 #[.slice A0 l0.length c0, .int .i64 L0] ?_;(with_reducible refine(impl_LineOf.calls k1 _ _ l0 L0 E0 G0 I0 F0 H0 K0 true _ ?side1 ?side2 A4.out).mono ?_);(case side1=>exact jcs HR0.out);(case side2=>exact P1.out);rintro e w28 ⟨v1130,rfl,ho0,hb⟩;refine⟨_,rfl,?_⟩;have xb_:=below_ofs bq hb;have n_:=jA3 (zen (pS D0.out) (zbg ho0) hb) (zax ho0 (zal xb_)) (zac xb_ hb);clear D0 HB;obtain⟨D0,B0,HB⟩:=n_;clear xb_ hb ho0) | (refine jgd 8 ?_;refine bx 8 (#[.int .i64 0, .string (⟨#[]⟩:ByteArray), .int .i64 0, .int .i64 0, .slice none 0 0]) 48 ?_;intro o0 hg w29 hbox hb;have xb_:=below_ofs bq hb;have n_:=jA6 (zfp (pS D0.out) hb) (zdb (pR B0.out) hb) (zac xb_ hb) (hbox) (ge0 hg xb_:w.heap.size≤o0) (ge0 hg xb_:w.heap.size≤o0);clear D0 B0 HB;obtain⟨D0,B0,HB,C0,O0,J0⟩:=n_;clear xb_ hb hbox hg;obtain⟨o3,t3,B3,C3,D3,E3,F3,G3,H3,I3⟩:=cz5 C0.out;obtain⟨U0,V0,Y4⟩:=zbd B0.out;subst Y4;obtain⟨Z4,F2,b5⟩:=Kd.S_slice D0.out;subst b5) | (refine jgc 39 ?_;refine jgs 56 Try.func39 #[.slice Z4 N0.length F2, .int .i64 F0] ?_;(with_reducible refine(impl_Due.calls k1 _ _ N0 F0 H1 _ ?side1 ?side2 t5.out).mono ?_);(case side1=>refine(zfn (e:=34) (base:=w.heap.size) (ok:=fun k_=>(True∧some k_≠(.slice U0 H0.length V0:Value).ownBlock)) (n:=N0.length) (c:=F2) ?_).2.2;exact(by(with_reducible repeat(first | apply zeh | apply zei | apply zeu));exact(zdw (zds (p:=⟨o0,4,none⟩) (zds (p:=⟨o0,3,none⟩) (zds (p:=⟨o0,2,none⟩) (zds (p:=⟨o0,1,none⟩) (zds (p:=⟨o0,0,none⟩) (Kd.S_types D0.out C0.out (by decide)) (fun _ hk=>hk.2) (.int .i64 E0)) (fun _ hk=>hk.2) (.string G0)) (fun _ hk=>hk.2) (.int .i64 I0)) (fun _ hk=>hk.2) (.int .i64 F0)) (fun _ hk=>hk.2) (.slice U0 H0.length V0)) (fun _ h_=>h_.1))));(case side2=>exact(zfn D0.out).2.1);rintro e w33 ⟨v1156,rfl,ho0,hb⟩;refine⟨_,rfl,?_⟩;have n_:=jA5 (zen (by(with_reducible repeat(first | apply zeh | apply zei | apply zeu));exact(zdw (zds (p:=⟨o0,4,none⟩) (zds (p:=⟨o0,3,none⟩) (zds (p:=⟨o0,2,none⟩) (zds (p:=⟨o0,1,none⟩) (zds (p:=⟨o0,0,none⟩) (Kd.S_types D0.out C0.out (by decide)) (fun _ hk=>hk.2) (.int .i64 E0)) (fun _ hk=>hk.2) (.string G0)) (fun _ hk=>hk.2) (.int .i64 I0)) (fun _ hk=>hk.2) (.int .i64 F0)) (fun _ hk=>hk.2) (.slice U0 H0.length V0)) (fun _ h_=>h_.1))) (Kd.S_base ho0) hb) (zdb (by(with_reducible repeat(first | apply zbl | apply zbm | apply zbs));exact(zam (zcx (p:=⟨o0,4,none⟩) (zcx (p:=⟨o0,3,none⟩) (rf3 B0.out C0.out) (fun _ hk=>hk.2) (.int .i64 F0)) (fun _ hk=>hk.2) (.slice U0 H0.length V0)) (fun _ h_=>h_.1))) hb) (zfz (Kd.S_new' (Kd.S_new' ho0 (Kd.S_lt (by(with_reducible repeat(first | apply zeh | apply zei | apply zeu));exact(zdw (zds (p:=⟨o0,4,none⟩) (zds (p:=⟨o0,3,none⟩) (zds (p:=⟨o0,2,none⟩) (zds (p:=⟨o0,1,none⟩) (zds (p:=⟨o0,0,none⟩) (Kd.S_types D0.out C0.out (by decide)) (fun _ hk=>hk.2) (.int .i64 E0)) (fun _ hk=>hk.2) (.string G0)) (fun _ hk=>hk.2) (.int .i64 I0)) (fun _ hk=>hk.2) (.int .i64 F0)) (fun _ hk=>hk.2) (.slice U0 H0.length V0)) (fun _ h_=>h_.1))))) (zce (by(with_reducible repeat(first | apply zbl | apply zbm | apply zbs));exact(zam (zcx (p:=⟨o0,4,none⟩) (zcx (p:=⟨o0,3,none⟩) (rf3 B0.out C0.out) (fun _ hk=>hk.2) (.int .i64 F0)) (fun _ hk=>hk.2) (.slice U0 H0.length V0)) (fun _ h_=>h_.1))))) (zal (bs1 J0.out))) (blk_below (g:=o0) (o:= .cells #[.int .i64 E0, .string G0, .int .i64 I0, .int .i64 F0, .slice U0 H0.length V0] 48 (0,0)) (by(with_reducible repeat(first | refine zaj ?_ _ | refine zan ?_ | refine zak ?_ _));refine zbw (cs:= #[.int .i64 E0, .string G0, .int .i64 I0, .int .i64 F0, .slice none 0 0]) ?_ 4 _ rfl;(with_reducible repeat(first | refine zaj ?_ _ | refine zan ?_ | refine zak ?_ _));refine zbw (cs:= #[.int .i64 E0, .string G0, .int .i64 I0, .int .i64 0, .slice none 0 0]) ?_ 3 _ rfl;(with_reducible repeat(first | refine zaj ?_ _ | refine zan ?_ | refine zak ?_ _));refine zbw (cs:= #[.int .i64 E0, .string G0, .int .i64 0, .int .i64 0, .slice none 0 0]) ?_ 2 _ rfl;(with_reducible repeat(first | refine zaj ?_ _ | refine zan ?_ | refine zak ?_ _));refine zbw (cs:= #[.int .i64 E0, .string (⟨#[]⟩:ByteArray), .int .i64 0, .int .i64 0, .slice none 0 0]) ?_ 1 _ rfl;(with_reducible repeat(first | refine zaj ?_ _ | refine zan ?_ | refine zak ?_ _));refine zbw (cs:= #[.int .i64 0, .string (⟨#[]⟩:ByteArray), .int .i64 0, .int .i64 0, .slice none 0 0]) ?_ 0 _ rfl;(with_reducible repeat(first | refine zaj ?_ _ | refine zan ?_ | refine zak ?_ _));exact C0.out) hb) (zac (bs1 J0.out) hb);clear D0 B0 C0 HB;obtain⟨D0,B0,O1,C0,HB⟩:=n_;clear hb ho0))
      go_roundg k1
      case measure=>have:=D1.out;omega
      case rel=>exact⟨(H1),(F0),(K0),jer,jer,H',⟨by have:=D1.out;omega⟩,⟨tqS O1.out⟩,⟨bs1 J0.out⟩⟩
     rw[if_neg Q1] at H
     have E2:=zbf Q1
     clear Q1
     have H':=Aside0.mk H
     clear H
     go_wp2_with (first | (refine jgc 56 ?_;refine jgs 15 Try.func56 #[.slice A0 l0.length c0, .int .i64 L0] ?_;(with_reducible refine(impl_LineOf.calls k1 _ _ l0 L0 E0 G0 I0 F0 H0 K0 true _ ?side1 ?side2 A4.out).mono ?_);(case side1=>exact jcs HR0.out);(case side2=>exact P1.out);rintro e w34 ⟨v1130,rfl,ho0,hb⟩;refine⟨_,rfl,?_⟩;have xb_:=below_ofs bq hb;have n_:=jA3 (zen (pS D0.out) (zbg ho0) hb) (zax ho0 (zal xb_)) (zac xb_ hb);clear D0 HB;obtain⟨D0,B0,HB⟩:=n_;clear xb_ hb ho0) | (refine jgd 8 ?_;refine bx 8 (#[.int .i64 0, .string (⟨#[]⟩:ByteArray), .int .i64 0, .int .i64 0, .slice none 0 0]) 48 ?_;intro o0 hg w35 hbox hb;have xb_:=below_ofs bq hb;have n_:=jA6 (zfp (pS D0.out) hb) (zdb (pR B0.out) hb) (zac xb_ hb) (hbox) (ge0 hg xb_:w.heap.size≤o0) (ge0 hg xb_:w.heap.size≤o0);clear D0 B0 HB;obtain⟨D0,B0,HB,C0,O0,J0⟩:=n_;clear xb_ hb hbox hg;obtain⟨J3,K3,L3,M3,N3,O3,P3,Q3,R3,S3⟩:=cz5 C0.out;obtain⟨d5,i5,j5⟩:=zbd B0.out;subst j5))
     go_roundg k1
     case measure=>have:=D1.out;omega
     case rel=>exact⟨(N0),(P0),(K0),jer,jer,H',⟨by have:=D1.out;omega⟩,⟨by(with_reducible repeat(first | apply zeh | apply zei | apply zeu));exact zdw (zds (p:=⟨o0,4,none⟩) (zds (p:=⟨o0,3,none⟩) (zds (p:=⟨o0,2,none⟩) (zds (p:=⟨o0,1,none⟩) (zds (p:=⟨o0,0,none⟩) (Kd.S_types D0.out C0.out (by decide)) (fun _ hk=>hk.2) (.int .i64 E0)) (fun _ hk=>hk.2) (.string G0)) (fun _ hk=>hk.2) (.int .i64 I0)) (fun _ hk=>hk.2) (.int .i64 F0)) (fun _ hk=>hk.2) (.slice d5 H0.length i5)) (fun _ hk=>trivial)⟩,⟨bs1 J0.out⟩⟩
    rw[if_neg N1] at H
    have C2:=zau.mpr N1
    have D2:=zcz.mpr N1
    have H':=Aside0.mk H
    clear H
    go_wp2_with (first | (refine jgc 56 ?_;refine jgs 15 Try.func56 #[.slice A0 l0.length c0, .int .i64 L0] ?_;(with_reducible refine(impl_LineOf.calls k1 _ _ l0 L0 E0 G0 I0 F0 H0 K0 true _ ?side1 ?side2 A4.out).mono ?_);(case side1=>exact jcs HR0.out);(case side2=>exact P1.out);rintro e w38 ⟨v1130,rfl,ho0,hb⟩;refine⟨_,rfl,?_⟩;have xb_:=below_ofs bq hb;have n_:=jA3 (zen (pS D0.out) (zbg ho0) hb) (zax ho0 (zal xb_)) (zac xb_ hb);clear D0 HB;obtain⟨D0,B0,HB⟩:=n_;clear xb_ hb ho0) | (refine jgd 8 ?_;refine bx 8 (#[.int .i64 0, .string (⟨#[]⟩:ByteArray), .int .i64 0, .int .i64 0, .slice none 0 0]) 48 ?_;intro o0 hg w39 hbox hb;have xb_:=below_ofs bq hb;have n_:=jA6 (zfp (pS D0.out) hb) (zdb (pR B0.out) hb) (zac xb_ hb) (hbox) (ge0 hg xb_:w.heap.size≤o0) (ge0 hg xb_:w.heap.size≤o0);clear D0 B0 HB;obtain⟨D0,B0,HB,C0,O0,J0⟩:=n_;clear xb_ hb hbox hg;obtain⟨T3,U3,V3,W3,X3,Y3,Z3,j4,k4,o4⟩:=cz5 C0.out;obtain⟨Ao41,co41,eo41⟩:=zbd B0.out;subst eo41))
    go_roundg k1
    case measure=>have:=D1.out;omega
    case rel=>exact⟨(N0),(P0),(K0),jer,jer,H',⟨by have:=D1.out;omega⟩,⟨by(with_reducible repeat(first | apply zeh | apply zei | apply zeu));exact zdw (zds (p:=⟨o0,4,none⟩) (zds (p:=⟨o0,3,none⟩) (zds (p:=⟨o0,2,none⟩) (zds (p:=⟨o0,1,none⟩) (zds (p:=⟨o0,0,none⟩) (Kd.S_types D0.out C0.out (by decide)) (fun _ hk=>hk.2) (.int .i64 E0)) (fun _ hk=>hk.2) (.string G0)) (fun _ hk=>hk.2) (.int .i64 I0)) (fun _ hk=>hk.2) (.int .i64 F0)) (fun _ hk=>hk.2) (.slice Ao41 H0.length co41)) (fun _ hk=>trivial)⟩,⟨bs1 J0.out⟩⟩
   replace c5:=zcp.mpr c5
   subst c5
   rw[if_neg (show ¬(false=true) by decide)] at H
   simp only[zaz,zbn] at H
   obtain⟨rfl,rfl,rfl⟩:=H
   go_wp2_with (first | (refine jgc 56 ?_;refine jgs 15 Try.func56 #[.slice A0 l0.length c0, .int .i64 L0] ?_;(with_reducible refine(impl_LineOf.calls k1 _ _ l0 L0 E0 G0 I0 F0 H0 K0 false _ ?side1 ?side2 A4.out).mono ?_);(case side1=>exact jcs HR0.out);(case side2=>exact P1.out);rintro e w42 ⟨v1130,rfl,ho0,hb⟩;refine⟨_,rfl,?_⟩;have xb_:=below_ofs bq hb;have n_:=jA3 (zen (pS D0.out) (zbg ho0) hb) (zax ho0 (zal xb_)) (zac xb_ hb);clear D0 HB;obtain⟨D0,B0,HB⟩:=n_;clear xb_ hb ho0) | (refine jgd 8 ?_;refine bx 8 (#[.int .i64 0, .string (⟨#[]⟩:ByteArray), .int .i64 0, .int .i64 0, .slice none 0 0]) 48 ?_;intro o0 hg w43 hbox hb;have xb_:=below_ofs bq hb;have n_:=jA6 (zfp (pS D0.out) hb) (zdb (pR B0.out) hb) (zac xb_ hb) (hbox) (ge0 hg xb_:w.heap.size≤o0) (ge0 hg xb_:w.heap.size≤o0);clear D0 B0 HB;obtain⟨D0,B0,HB,C0,O0,J0⟩:=n_;clear xb_ hb hbox hg;obtain⟨t4,B4,C4,D4,F4,G4,H4,I4,J4,K4⟩:=cz5 C0.out;obtain⟨k5,l5,n5⟩:=zbd B0.out;subst n5))
   go_ret3
   exact⟨_,jex,by(with_reducible repeat(first | apply zeh | apply zei | apply zeu));exact zdw (zds (p:=⟨o0,4,none⟩) (zds (p:=⟨o0,3,none⟩) (zds (p:=⟨o0,2,none⟩) (zds (p:=⟨o0,1,none⟩) (zds (p:=⟨o0,0,none⟩) (Kd.S_types D0.out C0.out (by decide)) (fun _ hk=>hk.2) (.int .i64 E0)) (fun _ hk=>hk.2) (.string G0)) (fun _ hk=>hk.2) (.int .i64 I0)) (fun _ hk=>hk.2) (.int .i64 F0)) (fun _ hk=>hk.2) (.slice k5 H0.length l5)) (fun _ hk=>trivial),(bs1 J0.out)⟩
end Go.Proofs.Ytlalkldjpniakaa.P
