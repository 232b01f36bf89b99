import Derived.Test.Ytlalkldjpniakaabk22
namespace Go.Proofs.Ytlalkldjpniakaa.P
open Go.RowKit Go.Proofs.YtlalkldjpniakaaW.PrintWords Go.Proofs.YtlalkldjpniakaaW.PrintLast Go.Proofs.YtlalkldjpniakaaW.PrintMore
attribute [local go_sem] zck zcl zdl zdm zbz zca zcm zcn -- for this text's walks alone
set_option linter.unusedVariables false
set_option linter.unusedSimpArgs false
set_option maxHeartbeats 8000000
set_option maxRecDepth 100000

def spec_l13Queue.l0:Nat→List (S34)→List (S34)→Int→Option ((List (S34)))
 | 0,_,_,_=>none
 | k+1,x0,x3,x4=>if x4<(x0.length:Int) then(if 0≤x4 then((spec_l13Item.f ((rd_T34 x0 x4).f0) ((rd_T34 x0 x4).f1) ((rd_T34 x0 x4).f2) ((rd_T34 x0 x4).f3)).bind fun bt402=>(if x3.length<2513169434916 then(spec_l13Queue.l0 k x0 (x3++[(⟨bt402.1,bt402.2.1,bt402.2.2.1,bt402.2.2.2⟩:S34)]) (wrap64 (x4+1))) else(none))) else(none)) else(some x3)
def spec_l13Queue.f (k:Nat) (l0:List (S34)):Option ((List (S34))):=spec_l13Queue.l0 k l0 (([]:List (S34))) 0
theorem spec_l13Queue.mono_l:∀ k,(∀ y0 y1 y2,LeO (spec_l13Queue.l0 k y0 y1 y2) (spec_l13Queue.l0 (k+1) y0 y1 y2))
 | 0=>fun _ _ _ r h=>by simp [spec_l13Queue.l0] at h
 | k+1=>by
  have ih0:=spec_l13Queue.mono_l k
  intro y0 y1 y2
  unfold spec_l13Queue.l0
  exact mt
theorem spec_l13Queue.mono:∀ a0 k,LeO (spec_l13Queue.f k a0) (spec_l13Queue.f (k+1) a0):=by
 intro a0 k
 have ih0:=spec_l13Queue.mono_l k
 unfold spec_l13Queue.f
 exact mt
theorem spec_l13Queue.calls (k:Nat) (A0:Option Addr) (c0:Nat) (l0:List (S34)) (r:List (S34)) (w:World) (hr0:Kd.C k34 w A0 l0.length l0) (hc0:l0.length≤c0) (h:spec_l13Queue.f k l0=some r):
  Calls Try.prog 101 #[.slice A0 l0.length c0] w fun e w'=>∃ v0_:Value,e= .returned (v0_)∧Kd.S k34 34 w' w.heap.size (fun _=>True) v0_ r∧Below w.heap.size w w':=by
 have hu34:=Try.underlying34
 have HR0:=Aside0.mk hr0
 have K1:=Aside0.mk hc0
 clear hr0 hc0
 have HB:=Aside0.mk (zbo w.heap.size w)
 have H:(spec_l13Queue.l0 k l0 (([]:List (S34))) 0)=some r:=h
 clear h
 obtain⟨P0,F0⟩:∃ y_:List (S34),y_=(([]:List (S34))):=⟨_,rfl⟩
 replace H:(spec_l13Queue.l0 k l0 P0 0)=some r:=jrw F0 H
 have M0:=Aside0.mk F0
 clear F0
 have H':=Aside0.mk H
 clear H
 go_enter Try.func101,Try.ntmps101
 go_wp2_with (first | (refine jgd 5 ?_;refine Kd.S_lit k34 _ 34 ?hg (N:=5) ?hd (xs:=([]:List (S34))) (inner:=[]) (ok:=fun _=>True) (okp:=fun _=>True) ?hr ?hp (fun _ hk=>hk) trivial (zbo _ _) (zaf _) (by simp) ?_;(case hd=>rfl);(case hg=>rfl);(case hr=>first | (go_simp;done) | (go_simp;rfl));(case hp=>exact(zfq _ _));intro v399 w2 Q0 hb hg_ hnew_;have xb_:=below_ofs bq hb;clear hg_ hnew_;(first | rw[← M0.out] at Q0 | (simp only[Int.reduceToNat] at Q0;rw[← M0.out] at Q0));have n_:=jA2 (zfz Q0 (zal xb_)) (zac xb_ hb);clear HB;obtain⟨R0,HB⟩:=n_;clear xb_ hb Q0))
 go_loopg [3,4] k (fun kq v3 v4 w'=>∃ (D0:List (S34)) (o0:Int),v4= .int .i64 o0∧Aside0 (spec_l13Queue.l0 kq l0 D0 o0=some r)∧Aside0 (kq≤k)∧Aside0 (Kd.S k34 34 w' w.heap.size (fun _=>True) v3 D0)∧Aside0 (Below w.heap.size w w'))
 case atStart=>exact⟨(P0),(0),jer,H',⟨zaf _⟩,⟨pS R0.out⟩,⟨bq⟩⟩
 case round=>
  clear H'
  try clear c1
  try clear p2
  obtain⟨D0,o0,rfl,HA,F1,B0,HB⟩:=hrel
  cases gk with
  | zero=>exact absurd HA.out (by simp [spec_l13Queue.l0])
  | succ k1=>
   have H:=HA.out
   clear HA
   simp only[spec_l13Queue.l0] at H
   by_cases c4:o0<(l0.length:Int)
   ·rw[if_pos c4] at H
    have C1:=zae c4
    clear c4
    by_cases c5:0≤o0
    ·rw[if_pos c5] at H
     have H1:=zae c5
     clear c5
     obtain⟨⟨G0,H0,I0,E0⟩,A6,H⟩:=bnd H
     try dsimp only at H
     by_cases c7:D0.length<2513169434916
     ·rw[if_pos c7] at H
      have LMc7:=Aside0.mk c7
      clear c7
      obtain⟨S0,J0⟩:∃ y_:List (S34),y_=(D0++[(⟨G0,H0,I0,E0⟩:S34)]):=⟨_,rfl⟩
      replace H:(spec_l13Queue.l0 k1 l0 S0 (wrap64 (o0+1)))=some r:=jrw J0 H
      have T0:=Aside0.mk J0
      clear J0
      have H':=Aside0.mk H
      clear H
      obtain⟨I1,J1,G1,N0,O0,D1,X0,Y0,Z0,n1,K0,L0⟩:=jel HR0.out HB.out o0
      cases D1
      go_wp2_with (first | (refine jgc 94 ?_;refine jgs 17 Try.func94 #[.agg #[.string ((rd_T34 l0 o0).f0), .int .i64 ((rd_T34 l0 o0).f1), .int .i64 ((rd_T34 l0 o0).f2), .slice N0 ((rd_T34 l0 o0).f3).length O0]] ?_;(with_reducible refine(spec_l13Item.calls ((rd_T34 l0 o0).f0) ((rd_T34 l0 o0).f1) ((rd_T34 l0 o0).f2) _ _ ((rd_T34 l0 o0).f3) G0 H0 I0 E0 _ ?side1 ?side2 A6.out).mono ?_);(case side1=>exact jcs L0.out);(case side2=>exact K0.out);rintro e w8 ⟨v406,rfl,ho0,hb⟩;refine⟨_,rfl,?_⟩;have xb_:=below_ofs bq hb;have n_:=jA3 (zen (pS B0.out) (zbg ho0) hb) (zax ho0 (zal xb_)) (zac xb_ hb);clear B0 HB;obtain⟨B0,C0,HB⟩:=n_;clear xb_ hb ho0;obtain⟨U0,V0,E1⟩:=zbd C0.out;subst E1) | ((with_reducible refine zcd (b:= .append) (xs:= #[.tmp 12, .tmp 18]) rfl ?_);at_builtin;refine zfm k34 (w0:=w) w.heap.size rfl (.tmp 12) (.tmp 18) 25 34 (.agg #[(.string ⟨#[]⟩),(.int .i64 0),(.int .i64 0),(.slice none 0 0)]) 56 rfl Try.underlying25 info34 rfl (by decide) (by omega) u3 D0 (⟨G0,H0,I0,E0⟩:S34) [.string G0, .int .i64 H0, .int .i64 I0, .slice U0 E0.length V0] (fun _=>True) (fun k_=>some k_=(.slice U0 E0.length V0:Value).ownBlock) rfl rfl ?aP (fun k_ hk_=>((zam (ok':=fun k_=>((fun _=>True)) k_∧some k_≠(u3:Value).ownBlock) (zee (C0.out) (zel B0.out) (by decide)) (fun k_ hk=>⟨trivial,hk.2⟩))).1 k_ hk_.symm) ?aF ?aO ?aB ?aS ?aL ?_;(case aP=>exact k34_mkM _ _ _ (⟨G0,H0,I0,E0⟩:S34) (zam (zfv rfl (zam (ok':=fun k_=>((fun _=>True)) k_∧some k_≠(u3:Value).ownBlock) (zee (C0.out) (zel B0.out) (by decide)) (fun k_ hk=>⟨trivial,hk.2⟩))) (fun _ h_=>h_)));(case aB=>exact bq);(case aF=>exact(fun _ _=>trivial));(case aO=>exact(by(with_reducible repeat(first | apply zeh | apply zei | apply zeu));exact zdw B0.out (fun k_ hk=>⟨trivial,fun e_=>hk.2 e_⟩)));(case aS=>exact(zal bq));(case aL=>have:=LMc7.out;omega);intro v409 w9 ho hb hg hat;rw[← T0.out] at ho;have n_:=jA2 (hb) (ho);clear HB B0 C0;obtain⟨HB,W0⟩:=n_;clear ho hb hg hat))
      go_roundg k1
      case measure=>have:=F1.out;omega
      case rel=>exact⟨(S0),(wrap64 (o0+1)),jer,H',⟨by have:=F1.out;omega⟩,⟨pS W0.out⟩,⟨bq⟩⟩
     rw[if_neg c7] at H
     exact absurd H (by simp)
    rw[if_neg c5] at H
    exact absurd H (by simp)
   rw[if_neg c4] at H
   have C1:=zbf c4
   clear c4
   obtain rfl:=Option.some.inj H
   go_wp2
   go_ret
   exact⟨_,jex,by(with_reducible repeat(first | apply zeh | apply zei | apply zeu));exact B0.out,bq⟩
def spec_Take.l0:Nat→List (S34)→ByteArray→Int→Option (ByteArray×Int×Int×List Int×(List (S34))×Bool)
 | 0,_,_,_=>none
 | k+1,x0,x1,x7=>if x7<(x0.length:Int) then(if 0≤x7 then(if((rd_T34 x0 x7).f0).toList=x1.toList then(if x7≤(x0.length:Int) then((spec_l13Queue.f k (x0.take (x7:Int).toNat)).bind fun t420=>(if 0≤(wrap64 (x7+1)) then(if(wrap64 (x7+1))≤(x0.length:Int) then((spec_l13Queue.f k (x0.drop ((wrap64 (x7+1)):Int).toNat)).bind fun t427=>(if t420.length+t427.length<2513169434916 then((spec_l13Item.f ((rd_T34 x0 x7).f0) ((rd_T34 x0 x7).f1) ((rd_T34 x0 x7).f2) ((rd_T34 x0 x7).f3)).bind fun bt434=>(some (bt434.1,bt434.2.1,bt434.2.2.1,bt434.2.2.2,(t420++t427),true))) else(none))) else(none)) else(none))) else(none)) else(spec_Take.l0 k x0 x1 (wrap64 (x7+1)))) else(none)) else((spec_l13Queue.f k x0).bind fun t412=>(some ((⟨#[]⟩:ByteArray),0,0,([]:List Int),t412,false)))
def spec_Take.f (k:Nat) (l0:List (S34)) (a1:ByteArray):Option (ByteArray×Int×Int×List Int×(List (S34))×Bool):=spec_Take.l0 k l0 a1 0
theorem spec_Take.mono_l:∀ k,(∀ y0 y1 y2,LeO (spec_Take.l0 k y0 y1 y2) (spec_Take.l0 (k+1) y0 y1 y2))
 | 0=>fun _ _ _ r h=>by simp [spec_Take.l0] at h
 | k+1=>by
  have ih0:=spec_Take.mono_l k
  intro y0 y1 y2
  unfold spec_Take.l0
  have m0:=@spec_l13Queue.mono
  exact mt
theorem spec_Take.mono:∀ a0 a1 k,LeO (spec_Take.f k a0 a1) (spec_Take.f (k+1) a0 a1):=by
 intro a0 a1 k
 have ih0:=spec_Take.mono_l k
 unfold spec_Take.f
 have m0:=@spec_l13Queue.mono
 exact mt
def spec_Take.T5:Bool×List (List Nat×List Nat):=(true,[([],[]),([],[]),([0,1],[0,1]),([2],[2]),([],[]),([],[]),([5],[5]),([4,6],[4,6]),([7,3],[7]),([3,8,8],[3,8]),([9,9,0,1,2,3,4,5,6,7,8,9],[9])])
def spec_Take.B5:List Nat:=[0,0,3,7,0,0,32,112,255,511,1023]
theorem spec_Take.tab5:rtab .any (opsOf Try.f44 5)=spec_Take.T5:=by kernel_rfl
theorem spec_Take.bits5:waitsOk spec_Take.T5.2 spec_Take.B5=true:=by kernel_rfl
theorem spec_Take.calls (k:Nat) (A0:Option Addr) (c0:Nat) (l0:List (S34)) (a1:ByteArray) (r1:ByteArray) (r2:Int) (r3:Int) (r4:List Int) (r5:List (S34)) (r6:Bool) (w:World) (hr0:Kd.C k34 w A0 l0.length l0) (hc0:l0.length≤c0) (h:spec_Take.f k l0 a1=some (r1,r2,r3,r4,r5,r6)):
  Calls Try.prog 44 #[.slice A0 l0.length c0, .string a1] w fun e w'=>∃ v3_ v4_:Value,e= .returned (.tuple #[.agg #[.string r1, .int .i64 r2, .int .i64 r3,v3_],v4_, .bool r6])∧Kd.R (Kd.int .u8) 5 w' w.heap.size (fun k_=>(w.heap.size≤k_)) v3_ r4∧Kd.N k34 34 w' w.heap.size (fun k_=>(w.heap.size≤k_)∧some k_≠(v3_:Value).ownBlock) v4_ r5∧Below w.heap.size w w':=by
 have hu34:=Try.underlying34
 have HR0:=Aside0.mk hr0
 have B3:=Aside0.mk hc0
 clear hr0 hc0
 have HB:=Aside0.mk (zbo w.heap.size w)
 have H:(spec_Take.l0 k l0 a1 0)=some (r1,r2,r3,r4,r5,r6):=h
 clear h
 have H':=Aside0.mk H
 clear H
 go_enter Try.func44,Try.ntmps44
 go_wp2_with (first | (refine jgd 4 ?_;refine bx 4 (#[.string (⟨#[]⟩:ByteArray), .int .i64 0, .int .i64 0, .slice none 0 0]) 34 ?_;intro C0 hg w3 hbox hb;have xb_:=below_ofs bq hb;have n_:=jA4 (zac xb_ hb) (hbox) (ge0 hg xb_:w.heap.size≤C0) (ge0 hg xb_:w.heap.size≤C0);clear HB;obtain⟨HB,o0,O3,E0⟩:=n_;clear xb_ hb hbox hg))
 go_loopg [7] k (fun kq v7 w'=>∃ (B0:Int) (H0:ByteArray) (G0:Int) (D0:Int),v7= .int .i64 B0∧Aside0 (spec_Take.l0 kq l0 a1 B0=some (r1,r2,r3,r4,r5,r6))∧Aside0 (kq≤k)∧Aside0 (w'.heap[C0]? =some (.cells #[.string H0, .int .i64 G0, .int .i64 D0,(.slice none 0 0)] 34 (0,0)))∧Aside0 (Below w.heap.size w w'))
 case atStart=>exact⟨(0),((⟨#[]⟩:ByteArray)),(0),(0),jer,H',⟨zaf _⟩,⟨pB o0.out⟩,⟨bs1 E0.out⟩⟩
 case round=>
  clear H'
  try clear p2
  obtain⟨B0,H0,G0,D0,rfl,HA,P3,o0,HB⟩:=hrel
  cases gk with
  | zero=>exact absurd HA.out (by simp [spec_Take.l0])
  | succ k1=>
   have H:=HA.out
   clear HA
   simp only[spec_Take.l0] at H
   by_cases c4:B0<(l0.length:Int)
   ·rw[if_pos c4] at H
    have C3:=zae c4
    clear c4
    by_cases c5:0≤B0
    ·rw[if_pos c5] at H
     have W3:=zae c5
     clear c5
     by_cases c6:((rd_T34 l0 B0).f0).toList=a1.toList
     ·rw[if_pos c6] at H
      have D3:=beqT c6
      have E3:=zbb.mpr c6
      clear c6
      have X3:=zbr (zad jab:0≤B0)
      by_cases c8:B0≤(l0.length:Int)
      ·rw[if_pos c8] at H
       have Y3:=zbr c8
       have Z3:=zae c8
       clear c8
       obtain⟨Q0,R0⟩:∃ y_:List (S34),y_=(l0.take (B0:Int).toNat):=⟨_,rfl⟩
       replace H:((spec_l13Queue.f k1 Q0).bind fun L0=>(if 0≤(wrap64 (B0+1)) then(if(wrap64 (B0+1))≤(l0.length:Int) then((spec_l13Queue.f k1 (l0.drop ((wrap64 (B0+1)):Int).toNat)).bind fun J0=>(if L0.length+J0.length<2513169434916 then((spec_l13Item.f ((rd_T34 l0 B0).f0) ((rd_T34 l0 B0).f1) ((rd_T34 l0 B0).f2) ((rd_T34 l0 B0).f3)).bind fun F0=>(some (F0.1,F0.2.1,F0.2.2.1,F0.2.2.2,(L0++J0),true))) else(none))) else(none)) else(none)))=some (r1,r2,r3,r4,r5,r6):=jrw R0 H
       have H1:=Aside0.mk R0
       clear R0
       obtain⟨L0,A9,H⟩:=bnd H
       obtain⟨ji10,hji10⟩:∃ j_:Int,(wrap64 (B0+1))=j_:=⟨_,rfl⟩
       replace H:(if 0≤(ji10) then(if(ji10)≤(l0.length:Int) then((spec_l13Queue.f k1 (l0.drop ((ji10):Int).toNat)).bind fun J0=>(if L0.length+J0.length<2513169434916 then((spec_l13Item.f ((rd_T34 l0 B0).f0) ((rd_T34 l0 B0).f1) ((rd_T34 l0 B0).f2) ((rd_T34 l0 B0).f3)).bind fun F0=>(some (F0.1,F0.2.1,F0.2.2.1,F0.2.2.2,(L0++J0),true))) else(none))) else(none)) else(none))=some (r1,r2,r3,r4,r5,r6):=by first | (rw[hji10] at H;exact H) | (simp only[hji10] at H ⊢;exact H)
       (try rw[hji10] at A9)
       have hji10w:(IntKind.i64.wrap (B0+1))=ji10:=(i64_w _).trans hji10
       by_cases k2:0≤(ji10)
       ·rw[if_pos k2] at H
        have Q3:=zbr k2
        have R3:=zae k2
        clear k2
        by_cases c12:(ji10)≤(l0.length:Int)
        ·rw[if_pos c12] at H
         have S3:=zbr c12
         have T3:=zae c12
         clear c12
         obtain⟨N0,S0⟩:∃ y_:List (S34),y_=(l0.drop ((ji10):Int).toNat):=⟨_,rfl⟩
         replace H:((spec_l13Queue.f k1 N0).bind fun J0=>(if L0.length+J0.length<2513169434916 then((spec_l13Item.f ((rd_T34 l0 B0).f0) ((rd_T34 l0 B0).f1) ((rd_T34 l0 B0).f2) ((rd_T34 l0 B0).f3)).bind fun F0=>(some (F0.1,F0.2.1,F0.2.2.1,F0.2.2.2,(L0++J0),true))) else(none)))=some (r1,r2,r3,r4,r5,r6):=jrw S0 H
         have I1:=Aside0.mk S0
         clear S0
         obtain⟨J0,j4,H⟩:=bnd H
         by_cases H2:L0.length+J0.length<2513169434916
         ·rw[if_pos H2] at H
          have n2:=Aside0.mk H2
          clear H2
          obtain⟨F3,T0⟩:∃ y_:List (S34),y_=(L0++J0):=⟨_,rfl⟩
          replace H:((spec_l13Item.f ((rd_T34 l0 B0).f0) ((rd_T34 l0 B0).f1) ((rd_T34 l0 B0).f2) ((rd_T34 l0 B0).f3)).bind fun F0=>(some (F0.1,F0.2.1,F0.2.2.1,F0.2.2.2,F3,true)))=some (r1,r2,r3,r4,r5,r6):=jrw T0 H
          have B2:=Aside0.mk T0
          clear T0
          obtain⟨⟨P0,U0,V0,W0⟩,k4,H⟩:=bnd H
          try dsimp only at H
          simp only[zaz,zbn] at H
          obtain⟨rfl,rfl,rfl,rfl,rfl,rfl⟩:=H
          obtain⟨G3,H3,I0,P1,Q1,R1,X0,Y0,Z0,n1,C1,D1⟩:=jel HR0.out HB.out B0
          cases R1
          try go_wp2
          have n_:=jA2 (zan o0.out) (zba HB.out)
          clear o0 HB
          obtain⟨o0,HB⟩:=n_
          have I3:(B0:Int)≤((l0.length:Int):Int):=zad jab
          obtain⟨i017,J1,_,hsz17,_⟩:=info_parts info34
          have hroom17:l0.length≤c0:=B3.out
          have hC17:Kd.C k34 _ (some I0) l0.length l0:=HR0.out
          have S1:=cut_to (P:=Try.prog) 25 34 .i64 Try.underlying25 J1 (some I0) l0.length c0 B0 (zad jab) I3 hroom17
          have hr17:=Kd.C_take (m:=(B0:Int).toNat) hC17 (by omega)
          have U1:Q0.length=(B0:Int).toNat:=(by rw[H1.out,List.length_take];omega)
          rw[← H1.out] at hr17
          rw[← U1] at S1
          have K1:=Aside0.mk hr17
          have C2:=Aside0.mk (show Q0.length≤c0 from by omega)
          clear hr17 hC17 hroom17 J1 hsz17
          have o4:=Aside0.mk U1
          clear U1
          replace I3:=zbr I3
          have J3:((ji10):Int)≤((l0.length:Int):Int):=zad jab
          obtain⟨i018,M1,_,hsz18,_⟩:=info_parts info34
          have hroom18:l0.length≤c0:=B3.out
          have hC18:Kd.C k34 _ (some I0) l0.length l0:=HR0.out
          have K3:(0:Int)≤((ji10):Int):=zad jab
          have V1:=cut_from (P:=Try.prog) 25 34 .i64 Try.underlying25 M1 4 hsz18 (some I0) l0.length c0 (ji10) K3 J3
          have hr18:=Kd.C_drop (m:=((ji10):Int).toNat) (c:=c0) hC18 (by omega) hroom18
          obtain⟨U3,hA18⟩:∃ A1,A1=(if c0=((ji10):Int).toNat then(some I0) else((some I0):Option Addr).map (·.add (((ji10):Int).toNat*4))):=⟨_,rfl⟩
          obtain⟨V3,hc18⟩:∃ c1,c1=c0 - ((ji10):Int).toNat:=⟨_,rfl⟩
          have E1:N0.length=l0.length - ((ji10):Int).toNat:=(by rw[I1.out,zhi] <;> omega)
          rw[show(l0).drop ((ji10):Int).toNat=N0 from I1.out.symm] at hr18
          replace hr18:Kd.C k34 _ U3 N0.length N0:=(by rw[hA18];exact hr18)
          rw[← E1, ← hA18, ← hc18] at V1
          have N1:=Aside0.mk hr18
          have D2:=Aside0.mk (show N0.length≤V3 from by rw[E1,hc18];exact Nat.sub_le_sub_right hroom18 _)
          clear hr18 hC18 hroom18 M1 hsz18 hc18
          have t4:=Aside0.mk E1
          have KA18:=Aside0.mk hA18
          clear E1 hA18
          replace J3:=zbr J3
          refine start_ (n:=11) (S:=fun w'=>True) (ds:=[]) #[false,false,false,false,false,false,false,false,false,false,false] (by kernel_rfl) rfl rfl trivial (fun hHeld=>?_);refine with_tabW spec_Take.tab5 spec_Take.bits5 (fun HT_ HW_=>?_)
          generalize wr.drew=w16 at o0 HB K1 N1 hHeld ⊢
          refine pu 0 22 HT_.out ?_
          refine pu 1 23 HT_.out ?_
          refine pu 2 24 HT_.out ?_
          refine pu 4 26 HT_.out ?_
          refine pu 5 27 HT_.out ?_
          refine pu 6 28 HT_.out ?_
          refine pu 7 29 HT_.out ?_
          refine one_ (i:=3) (N:=some 25) #[true,true,true,true,true,true,true,true,false,false,false] rfl rfl (one_of HT_.out (by kernel_rfl)) (by decide) (fun K hK=>?_)
          refine goes_ Try.func101 (by kernel_rfl) rfl #[.slice (some I0) Q0.length c0] (by rfl) rfl rfl jhl ?_
          with_reducible refine(spec_l13Queue.calls k1 _ _ Q0 L0 _ ?side1 ?side2 A9.out).mono ?_
          (case side1=>exact jcs K1.out)
          (case side2=>exact C2.out)
          rintro e w19 ⟨v421,rfl,ho0,hb⟩
          refine⟨_,rfl,?_⟩
          have n_:=jA3 (Kd.N_lower (zhg (ok':=fun k_=>(w.heap.size≤k_)∧k_≠C0) (Kd.S_N (zgy ho0)) (fun k_ hk_=>⟨(zcv (zal (bs1 E0.out)) hk_.2.1),(zfw (pB o0.out) k_ hk_.2.1)⟩)) (zal (bs1 E0.out))) (jbb o0.out hb) (zac (bs1 E0.out) hb)
          clear o0 HB
          obtain⟨M0,o0,HB⟩:=n_
          (try clear hb)
          (try clear hb2)
          (try clear hk)
          (try clear hi)
          (try clear ho0)
          refine hK.out _ _ trivial (fun hHeld=>?_)
          clear hK K
          refine norm_ (a':=?_) ?_ ?_
          rotate_left
          ·show Act.put _ (some 25) _=_
           simp only[Act.put,zaq,zbj,zbk,i64_w,i32_w]
           rfl
          refine one_ (i:=8) (N:=some 30) #[true,true,true,true,true,true,true,true,true,false,false] rfl rfl (one_of HT_.out (by kernel_rfl)) (by decide) (fun K hK=>?_)
          refine goes_ Try.func101 (by kernel_rfl) rfl #[.slice U3 N0.length V3] (by rfl) rfl rfl jhl ?_
          with_reducible refine(spec_l13Queue.calls k1 _ _ N0 J0 _ ?side1 ?side2 j4.out).mono ?_
          (case side1=>exact jcs N1.out)
          (case side2=>exact D2.out)
          rintro e w20 ⟨v428,rfl,ho0,hb⟩
          refine⟨_,rfl,?_⟩
          have n_:=jA4 (Kd.N_elder' (pN M0.out) (by first | exact Kd.N_base ho0 | exact Kd.S_base ho0) hb) (Kd.N_lower (zhg (ok':=fun k_=>(w.heap.size≤k_)∧some k_≠(v421:Value).ownBlock∧k_≠C0) (Kd.S_N (zgy ho0)) (fun k_ hk_=>⟨(zcv (zal (bs1 E0.out)) hk_.2.1),(zdu (Kd.N_lt (pN M0.out)) k_ hk_.2.1),(zfw (pB o0.out) k_ hk_.2.1)⟩)) (zal (bs1 E0.out))) (jbb o0.out hb) (zac (bs1 E0.out) hb)
          clear M0 o0 HB
          obtain⟨M0,K0,o0,HB⟩:=n_
          (try clear hb)
          (try clear hb2)
          (try clear hk)
          (try clear hi)
          (try clear ho0)
          obtain⟨B4,C4,E2⟩:=Kd.N_slice K0.out
          (first | subst E2 | (injection E2 with f1_ f2_ f3_;have f4_:=f1_.symm;have f5_:=f3_.symm;clear f1_ f2_ f3_;subst f4_;subst f5_))
          refine hK.out _ _ trivial (fun hHeld=>?_)
          clear hK K
          refine norm_ (a':=?_) ?_ ?_
          rotate_left
          ·show Act.put _ (some 30) _=_
           simp only[Act.put,zaq,zbj,zbk,i64_w,i32_w]
           rfl
          refine one_ (i:=9) (N:=some 31) #[true,true,true,true,true,true,true,true,true,true,false] rfl rfl (one_of HT_.out (by kernel_rfl)) (by decide) (fun K hK=>?_)
          refine Kd.N_append_rows_step k34 (w0:=w) w.heap.size (by rfl) (.tmp 25) (.tmp 30) 25 34 (.agg #[(.string ⟨#[]⟩),(.int .i64 0),(.int .i64 0),(.slice none 0 0)]) 56 rfl Try.underlying25 info34 rfl (by decide) (by omega) v421 L0 J0 _ _ _ (fun k_=>(w.heap.size≤k_)∧k_≠C0) (fun k_=>((fun k_=>(w.heap.size≤k_)∧k_≠C0)) k_∧some k_≠(v421:Value).ownBlock) rfl rfl ?aO ?aR (fun _ hk=>hk) ?aF ?aB ?aS ?aL ?_
          (case aR=>exact(by skip;exact Kd.N_F (zhg (ok':=(fun k_=>((fun k_=>(w.heap.size≤k_)∧k_≠C0)) k_∧some k_≠(v421:Value).ownBlock)) (K0.out) (fun k_ hk=>⟨⟨hk.1,hk.2.2⟩,hk.2.1⟩))))
          (case aB=>exact(bs1 E0.out))
          (case aF=>exact(fun k_ hk=>⟨(zcv (zal (bs1 E0.out)) hk),zfw (pB o0.out) k_ hk⟩))
          (case aO=>exact(by(with_reducible repeat(first | apply Kd.N_alloc | apply Kd.N_drewN | apply Kd.N_drew));exact zhg M0.out (fun _ hk=>⟨hk.1.1,hk.1.2⟩)))
          (case aS=>exact(zal (bs1 E0.out)))
          (case aL=>have:=n2.out;omega)
          intro v431 w21 ho hb hg hat
          rw[← B2.out] at ho
          have n_:=jA4 (zeq (pB o0.out) hg (Kd.N_away M0.out (fun _ hk=>hk.1.2))) (Kd.N_afterv (ok:=(fun k_=>(w.heap.size≤k_)∧k_≠C0)) (by(with_reducible repeat(first | apply Kd.N_alloc | apply Kd.N_drewN | apply Kd.N_drew));exact zhg K0.out (fun _ hk=>⟨⟨hk.1,hk.2.2⟩,hk.2.1⟩)) hg hat) (hb) (ho)
          clear o0 K0 HB M0
          obtain⟨o0,K0,HB,O0⟩:=n_
          clear ho hb hg hat
          refine hK.out _ _ trivial (fun hHeld=>?_)
          clear hK K
          refine norm_ (a':=?_) ?_ ?_
          rotate_left
          ·show Act.put _ (some 31) _=_
           simp only[Act.put,zaq,zbj,zbk,i64_w,i32_w]
           rfl
          refine pu 10 8 HT_.out ?_
          refine done_ (done_of HT_.out (by kernel_rfl)) ?_
          obtain⟨D4,F4,F2,X1,Y1,L3,I2,J2,K2,M2,F1,G1⟩:=jel HR0.out HB.out B0
          obtain rfl:I0=F2:=(by injection L3)
          try go_wp2_with (first | (refine jgc 94 ?_;refine jgs 36 Try.func94 #[.agg #[.string ((rd_T34 l0 B0).f0), .int .i64 ((rd_T34 l0 B0).f1), .int .i64 ((rd_T34 l0 B0).f2), .slice X1 ((rd_T34 l0 B0).f3).length Y1]] ?_;(with_reducible refine(spec_l13Item.calls ((rd_T34 l0 B0).f0) ((rd_T34 l0 B0).f1) ((rd_T34 l0 B0).f2) _ _ ((rd_T34 l0 B0).f3) P0 U0 V0 W0 _ ?side1 ?side2 k4.out).mono ?_);(case side1=>exact jcs G1.out);(case side2=>exact F1.out);rintro e w23 ⟨v438,rfl,ho0,hb⟩;refine⟨_,rfl,?_⟩;have n_:=jA5 (Kd.N_elder' (pN K0.out) (zbg ho0) hb) (Kd.N_elder' (pN O0.out) (zbg ho0) hb) (zax (Kd.R_newM (M:=fun k_=>(w.heap.size≤k_)) ho0 (zal (bs1 E0.out)) (fun k_ h_=>h_)) (zal (bs1 E0.out))) (jbb o0.out hb) (zac (bs1 E0.out) hb);clear K0 O0 o0 HB;obtain⟨K0,O0,O1,o0,HB⟩:=n_;(try clear hb);(try clear hb2);(try clear hk);(try clear hi);(try clear ho0);obtain⟨N2,O2,P2,Q2,R2,T2,U2,V2⟩:=cz4 o0.out;obtain⟨Z1,j2,M3⟩:=zbd O1.out;subst M3))
          refine zdp (zft rfl _ _ C0 34 #[.string P0, .int .i64 U0, .int .i64 V0, .slice Z1 W0.length j2] (0,0) _ rfl (by(with_reducible repeat(first | refine zaj ?_ _ | refine zan ?_ | refine zak ?_ _));refine zbw (cs:= #[.string P0, .int .i64 U0, .int .i64 V0, .slice none 0 0]) ?_ 3 _ rfl;(with_reducible repeat(first | refine zaj ?_ _ | refine zan ?_ | refine zak ?_ _));refine zbw (cs:= #[.string P0, .int .i64 U0, .int .i64 D0, .slice none 0 0]) ?_ 2 _ rfl;(with_reducible repeat(first | refine zaj ?_ _ | refine zan ?_ | refine zak ?_ _));refine zbw (cs:= #[.string P0, .int .i64 G0, .int .i64 D0, .slice none 0 0]) ?_ 1 _ rfl;(with_reducible repeat(first | refine zaj ?_ _ | refine zan ?_ | refine zak ?_ _));refine zbw (cs:= #[.string H0, .int .i64 G0, .int .i64 D0, .slice none 0 0]) ?_ 0 _ rfl;(with_reducible repeat(first | refine zaj ?_ _ | refine zan ?_ | refine zak ?_ _));exact o0.out) Try.underlying34 rfl (by kernel_rfl)) rfl ?_
          exact⟨_,_,by first | rfl | (simp [errW_none,errW_some] <;> rfl) | (simp only[← hji10];first | rfl | (simp [errW_none,errW_some] <;> rfl)) | (simp [*,errW_none,errW_some] <;> rfl),by(with_reducible repeat(first | apply zbl | apply zbm | apply zbs));exact zam (zcx (p:=⟨C0,3,none⟩) (rf3 O1.out o0.out) (fun _ hk=>hk.2) (.slice Z1 W0.length j2)) (fun _ hk=>hk.1.1),by(with_reducible repeat(first | apply Kd.N_alloc | apply Kd.N_drewN | apply Kd.N_drew));exact zhg (Kd.N_far (p:=⟨C0,3,none⟩) (Kd.N_far (p:=⟨C0,2,none⟩) (Kd.N_far (p:=⟨C0,1,none⟩) (Kd.N_far (p:=⟨C0,0,none⟩) (zhg O0.out (fun k_ hk=>(⟨hk,hk.1.2⟩:_∧k_≠C0))) (fun _ hk=>hk.2) (.string P0)) (fun _ hk=>hk.2) (.int .i64 U0)) (fun _ hk=>hk.2) (.int .i64 V0)) (fun _ hk=>hk.2) (.slice Z1 W0.length j2)) (fun _ hk=>⟨hk.1.1.1,hk.1.2⟩),(bs1 E0.out)⟩
         rw[if_neg H2] at H
         exact absurd H (by simp)
        rw[if_neg c12] at H
        exact absurd H (by simp)
       rw[if_neg k2] at H
       exact absurd H (by simp)
      rw[if_neg c8] at H
      exact absurd H (by simp)
     rw[if_neg c6] at H
     have D3:=zau.mpr c6
     have E3:=zcz.mpr c6
     have H':=Aside0.mk H
     clear H
     obtain⟨G3,H3,I0,P1,Q1,R1,X0,Y0,Z0,n1,C1,D1⟩:=jel HR0.out HB.out B0
     cases R1
     go_wp2
     go_roundg k1
     case measure=>have:=P3.out;omega
     case rel=>exact⟨(wrap64 (B0+1)),(H0),(G0),(D0),jer,H',⟨by have:=P3.out;omega⟩,⟨pB o0.out⟩,⟨bs1 E0.out⟩⟩
    rw[if_neg c5] at H
    exact absurd H (by simp)
   rw[if_neg c4] at H
   have C3:=zbf c4
   clear c4
   obtain⟨N3,G4,H⟩:=bnd H
   simp only[zaz,zbn] at H
   obtain⟨rfl,rfl,rfl,rfl,rfl,rfl⟩:=H
   go_wp2_with (first | (refine jgc 101 ?_;refine jgs 40 Try.func101 #[.slice A0 l0.length c0] ?_;(with_reducible refine(spec_l13Queue.calls k1 _ _ l0 N3 _ ?side1 ?side2 G4.out).mono ?_);(case side1=>exact jcs HR0.out);(case side2=>exact B3.out);rintro e w27 ⟨v413,rfl,ho0,hb⟩;refine⟨_,rfl,?_⟩;have n_:=jA3 (Kd.N_lower (zhg (ok':=fun k_=>(w.heap.size≤k_)∧k_≠C0) (Kd.S_N (zgy ho0)) (fun k_ hk_=>⟨(zcv (zal (bs1 E0.out)) hk_.2.1),(zfw (pB o0.out) k_ hk_.2.1)⟩)) (zal (bs1 E0.out))) (jbb o0.out hb) (zac (bs1 E0.out) hb);clear o0 HB;obtain⟨G2,o0,HB⟩:=n_;clear hb ho0;obtain⟨X2,Y2,Z2,j3,k3,n3,o3,t3⟩:=cz4 o0.out))
   refine zdp (zft rfl _ _ C0 34 #[.string (⟨#[]⟩:ByteArray), .int .i64 0, .int .i64 0, .slice none 0 0] (0,0) _ rfl (by(with_reducible repeat(first | refine zaj ?_ _ | refine zan ?_ | refine zak ?_ _));refine zbw (cs:= #[.string (⟨#[]⟩:ByteArray), .int .i64 0, .int .i64 0, .slice none 0 0]) ?_ 3 _ rfl;(with_reducible repeat(first | refine zaj ?_ _ | refine zan ?_ | refine zak ?_ _));refine zbw (cs:= #[.string (⟨#[]⟩:ByteArray), .int .i64 0, .int .i64 D0, .slice none 0 0]) ?_ 2 _ rfl;(with_reducible repeat(first | refine zaj ?_ _ | refine zan ?_ | refine zak ?_ _));refine zbw (cs:= #[.string (⟨#[]⟩:ByteArray), .int .i64 G0, .int .i64 D0, .slice none 0 0]) ?_ 1 _ rfl;(with_reducible repeat(first | refine zaj ?_ _ | refine zan ?_ | refine zak ?_ _));refine zbw (cs:= #[.string H0, .int .i64 G0, .int .i64 D0, .slice none 0 0]) ?_ 0 _ rfl;(with_reducible repeat(first | refine zaj ?_ _ | refine zan ?_ | refine zak ?_ _));exact o0.out) Try.underlying34 rfl (by kernel_rfl)) rfl ?_
   exact⟨_,_,jex,by first | exact zgo _ _ _ _ _ | exact Kd.N_nil _ _ _ _ _ | exact Kd.V_nil _ _ _ _ _ | exact Kd.Q_nil _ _ _ _ _ | exact Kd.S_nil _ _ _ _ _,by(with_reducible repeat(first | apply Kd.N_alloc | apply Kd.N_drewN | apply Kd.N_drew));exact zhg (Kd.N_far (p:=⟨C0,3,none⟩) (Kd.N_far (p:=⟨C0,2,none⟩) (Kd.N_far (p:=⟨C0,1,none⟩) (Kd.N_far (p:=⟨C0,0,none⟩) (zhg G2.out (fun k_ hk=>(⟨hk,hk.2⟩:_∧k_≠C0))) (fun _ hk=>hk.2) (.string (⟨#[]⟩:ByteArray))) (fun _ hk=>hk.2) (.int .i64 0)) (fun _ hk=>hk.2) (.int .i64 0)) (fun _ hk=>hk.2) (.slice none 0 0)) (fun _ hk=>⟨hk.1.1,(by simp [Value.ownBlock])⟩),(bs1 E0.out)⟩
def spec_l1Bit.f (a0:Bool):Option (Int):=if a0=true then(some 1) else(some 0)
theorem spec_l1Bit.wk {P:Prop} (h:P:=by
 go_enter Try.func86,Try.ntmps86
 go_wp2
 go_ret
 exact⟨by first | rfl | (simp;done) | (simp [*];done),by repeat(first | exact Drawn0.refl _ | apply Drawn0.step)⟩):P:=h
theorem spec_l1Bit.calls (a0:Bool) (r:Int) (w:World) (h:spec_l1Bit.f a0=some r):
  Calls Try.prog 86 #[.bool a0] w fun e w'=>e= .returned (.int .i64 r)∧Drawn0 w w':=by
 have H:(if a0=true then(some 1) else(some 0))=some r:=h
 clear h
 by_cases c2:a0=true
 ·subst c2
  rw[if_pos rfl] at H
  obtain rfl:=Option.some.inj H
  exact spec_l1Bit.wk
 replace c2:=zcp.mpr c2
 subst c2
 rw[if_neg (show ¬(false=true) by decide)] at H
 obtain rfl:=Option.some.inj H
 exact spec_l1Bit.wk
def spec_Of.l0:Nat→List (S34)→ByteArray→Int→Int→Option (Int)
 | 0,_,_,_,_=>none
 | k+1,x0,x1,x5,x6=>if x6<(x0.length:Int) then(if 0≤x6 then((spec_l1Bit.f (((rd_T34 x0 x6).f0).toList==x1.toList)).bind fun t106=>(spec_Of.l0 k x0 x1 (wrap64 (x5+t106)) (wrap64 (x6+1)))) else(none)) else(some x5)
def spec_Of.f (k:Nat) (l0:List (S34)) (a1:ByteArray):Option (Int):=spec_Of.l0 k l0 a1 0 0
theorem spec_Of.mono_l:∀ k,(∀ y0 y1 y2 y3,LeO (spec_Of.l0 k y0 y1 y2 y3) (spec_Of.l0 (k+1) y0 y1 y2 y3))
 | 0=>fun _ _ _ _ r h=>by simp [spec_Of.l0] at h
 | k+1=>by
  have ih0:=spec_Of.mono_l k
  intro y0 y1 y2 y3
  unfold spec_Of.l0
  exact mt
theorem spec_Of.mono:∀ a0 a1 k,LeO (spec_Of.f k a0 a1) (spec_Of.f (k+1) a0 a1):=by
 intro a0 a1 k
 have ih0:=spec_Of.mono_l k
 unfold spec_Of.f
 exact mt
theorem spec_Of.calls (k:Nat) (A0:Option Addr) (c0:Nat) (l0:List (S34)) (a1:ByteArray) (r:Int) (w:World) (hr0:Kd.C k34 w A0 l0.length l0) (hc0:l0.length≤c0) (h:spec_Of.f k l0 a1=some r):
  Calls Try.prog 19 #[.slice A0 l0.length c0, .string a1] w fun e w'=>e= .returned (.int .i64 r)∧Drawn0 w w':=by
 have HR0:=Aside0.mk hr0
 have U0:=Aside0.mk hc0
 clear hr0 hc0
 have H:(spec_Of.l0 k l0 a1 0 0)=some r:=h
 clear h
 have H':=Aside0.mk H
 clear H
 go_enter Try.func19,Try.ntmps19
 go_wp2
 go_loopg [5,6] k (fun kq v5 v6 w'=>∃ (D0:Int) (o0:Int),v5= .int .i64 D0∧v6= .int .i64 o0∧Aside0 (spec_Of.l0 kq l0 a1 D0 o0=some r)∧Aside0 (kq≤k)∧Drawn0 w w')
 case atStart=>exact⟨(0),(0),jer,jer,H',⟨zaf _⟩,by repeat(first | exact Drawn0.refl _ | apply Drawn0.step)⟩
 case round=>
  clear H'
  try clear c1
  try clear p2
  obtain⟨D0,o0,rfl,rfl,HA,R0,⟨m1,rfl⟩⟩:=hrel
  cases gk with
  | zero=>exact absurd HA.out (by simp [spec_Of.l0])
  | succ k1=>
   have H:=HA.out
   clear HA
   simp only[spec_Of.l0] at H
   by_cases c3:o0<(l0.length:Int)
   ·rw[if_pos c3] at H
    have N0:=zae c3
    clear c3
    by_cases c4:0≤o0
    ·rw[if_pos c4] at H
     have T0:=zae c4
     clear c4
     obtain⟨G0,A5,H⟩:=bnd H
     have H':=Aside0.mk H
     clear H
     have E0:0≤(o0:Int):=zad jab
     have F0:o0<(l0.length:Int):=zad jab
     obtain⟨S0,O0,P0,Q0,H0,I0,J0,K0,B0,C0⟩:=at_T34 HR0.out o0 E0 F0
     cases Q0
     have L0:=Aside0.mk C0
     have M0:=Aside0.mk B0
     clear C0 B0
     replace E0:=zbr E0
     replace F0:=zbr F0
     go_wp2_with (first | (refine jgc 86 ?_;refine jgs 21 Try.func86 #[.bool (((rd_T34 l0 o0).f0).toList==a1.toList)] ?_;(with_reducible refine(spec_l1Bit.calls (((rd_T34 l0 o0).f0).toList==a1.toList) G0 _ A5.out).mono ?_);rintro e w' ⟨rfl,⟨nd,rfl⟩⟩;refine⟨_,rfl,?_⟩))
     go_roundg k1
     case measure=>have:=R0.out;omega
     case rel=>exact⟨(wrap64 (D0+G0)),(wrap64 (o0+1)),jer,jer,H',⟨by have:=R0.out;omega⟩,by repeat(first | exact Drawn0.refl _ | apply Drawn0.step)⟩
    rw[if_neg c4] at H
    exact absurd H (by simp)
   rw[if_neg c3] at H
   have N0:=zbf c3
   clear c3
   obtain rfl:=Option.some.inj H
   go_wp2
   go_ret
   exact⟨by first | rfl | (simp;done) | (simp [*];done),by repeat(first | exact Drawn0.refl _ | apply Drawn0.step)⟩
end Go.Proofs.Ytlalkldjpniakaa.P
