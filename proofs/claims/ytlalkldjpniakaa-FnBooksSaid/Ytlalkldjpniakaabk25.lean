import Derived.Test.Ytlalkldjpniakaabk24
namespace Go.Proofs.Ytlalkldjpniakaa.P
open Go.RowKit Go.Proofs.YtlalkldjpniakaaW.PrintWords Go.Proofs.YtlalkldjpniakaaW.PrintLast Go.Proofs.YtlalkldjpniakaaW.PrintMore
attribute [local go_sem] zck zcl zdl zdm zbz zca zcm zcn -- for this text's walks alone
set_option linter.unusedVariables false
set_option linter.unusedSimpArgs false

def spec_Put.l0:Nat→List (S34)→List (S34)→Int→ByteArray→Int→Int→List Int→Option ((List (S34))×Bool)
 | 0,_,_,_,_,_,_,_=>none
 | k+1,x0,x6,x7,x828000,x828001,x828002,x828003=>if x7<(x0.length:Int) then(if x828001≤0 then(if 0≤x7 then((spec_l13Item.f ((rd_T34 x0 x7).f0) ((rd_T34 x0 x7).f1) ((rd_T34 x0 x7).f2) ((rd_T34 x0 x7).f3)).bind fun bt832=>(if x6.length<2513169434916 then(spec_Put.l0 k x0 (x6++[(⟨bt832.1,bt832.2.1,bt832.2.2.1,bt832.2.2.2⟩:S34)]) (wrap64 (x7+1)) x828000 x828001 x828002 x828003) else(none))) else(none)) else(if 0≤x7 then(if((rd_T34 x0 x7).f0).toList=x828000.toList then(if((rd_T34 x0 x7).f1)=x828001 then(spec_Put.l0 k x0 x6 (wrap64 (x7+1)) x828000 x828001 x828002 x828003) else((spec_l13Item.f ((rd_T34 x0 x7).f0) ((rd_T34 x0 x7).f1) ((rd_T34 x0 x7).f2) ((rd_T34 x0 x7).f3)).bind fun bt844=>(if x6.length<2513169434916 then(spec_Put.l0 k x0 (x6++[(⟨bt844.1,bt844.2.1,bt844.2.2.1,bt844.2.2.2⟩:S34)]) (wrap64 (x7+1)) x828000 x828001 x828002 x828003) else(none)))) else((spec_l13Item.f ((rd_T34 x0 x7).f0) ((rd_T34 x0 x7).f1) ((rd_T34 x0 x7).f2) ((rd_T34 x0 x7).f3)).bind fun bt854=>(if x6.length<2513169434916 then(spec_Put.l0 k x0 (x6++[(⟨bt854.1,bt854.2.1,bt854.2.2.1,bt854.2.2.2⟩:S34)]) (wrap64 (x7+1)) x828000 x828001 x828002 x828003) else(none)))) else(none))) else((spec_l13Item.f x828000 x828001 x828002 x828003).bind fun bt863=>(if x6.length<2513169434916 then((some (x6++[(⟨bt863.1,bt863.2.1,bt863.2.2.1,bt863.2.2.2⟩:S34)]:List (S34))).bind fun y869=>((spec_QueueOk.f k y869).bind fun t872=>(if t872=true then(some (y869,true)) else((spec_l13Queue.f k x0).bind fun t873=>(some (t873,false)))))) else(none)))
def spec_Put.f (k:Nat) (l0:List (S34)) (a1_0:ByteArray) (a1_1:Int) (a1_2:Int) (l1_3:List Int):Option ((List (S34))×Bool):=spec_Put.l0 k l0 (([]:List (S34))) 0 a1_0 a1_1 a1_2 l1_3
theorem spec_Put.mono_l:∀ k,(∀ y0 y1 y2 y3 y4 y5 y6,LeO (spec_Put.l0 k y0 y1 y2 y3 y4 y5 y6) (spec_Put.l0 (k+1) y0 y1 y2 y3 y4 y5 y6))
 | 0=>fun _ _ _ _ _ _ _ r h=>by simp [spec_Put.l0] at h
 | k+1=>by
  have ih0:=spec_Put.mono_l k
  intro y0 y1 y2 y3 y4 y5 y6
  unfold spec_Put.l0
  have m0:=@spec_QueueOk.mono
  have m1:=@spec_l13Queue.mono
  exact mt
theorem spec_Put.mono:∀ a0 a1 a2 a3 a4 k,LeO (spec_Put.f k a0 a1 a2 a3 a4) (spec_Put.f (k+1) a0 a1 a2 a3 a4):=by
 intro a0 a1 a2 a3 a4 k
 have ih0:=spec_Put.mono_l k
 unfold spec_Put.f
 have m0:=@spec_QueueOk.mono
 have m1:=@spec_l13Queue.mono
 exact mt
set_option maxHeartbeats 8000000 in
set_option maxRecDepth 100000 in
theorem spec_Put.calls (k:Nat) (A0:Option Addr) (c0:Nat) (l0:List (S34)) (a1_0:ByteArray) (a1_1:Int) (a1_2:Int) (A1_3:Option Addr) (c1_3:Nat) (l1_3:List Int) (r1:List (S34)) (r2:Bool) (w:World) (hr0:Kd.C k34 w A0 l0.length l0) (hc0:l0.length≤c0) (hr1_3:Kd.C (Kd.int .u8) w A1_3 l1_3.length l1_3) (hc1_3:l1_3.length≤c1_3) (h:spec_Put.f k l0 a1_0 a1_1 a1_2 l1_3=some (r1,r2)):
  Calls Try.prog 61 #[.slice A0 l0.length c0, .agg #[.string a1_0, .int .i64 a1_1, .int .i64 a1_2, .slice A1_3 l1_3.length c1_3]] w fun e w'=>∃ v0_:Value,e= .returned (.tuple #[v0_, .bool r2])∧Kd.S k34 34 w' w.heap.size (fun _=>True) v0_ r1∧Below w.heap.size w w':=by
 have hu34:=Try.underlying34
 have HR0:=Aside0.mk hr0
 have O6:=Aside0.mk hc0
 clear hr0 hc0
 have HR1_3:=Aside0.mk hr1_3
 have k3:=Aside0.mk hc1_3
 clear hr1_3 hc1_3
 have HB:=Aside0.mk (zbo w.heap.size w)
 have H:(spec_Put.l0 k l0 (([]:List (S34))) 0 a1_0 a1_1 a1_2 l1_3)=some (r1,r2):=h
 clear h
 obtain⟨H3,Z1⟩:∃ y_:List (S34),y_=(([]:List (S34))):=⟨_,rfl⟩
 replace H:(spec_Put.l0 k l0 H3 0 a1_0 a1_1 a1_2 l1_3)=some (r1,r2):=jrw Z1 H
 have n3:=Aside0.mk Z1
 clear Z1
 have H':=Aside0.mk H
 clear H
 go_enter Try.func61,Try.ntmps61
 go_wp2_with (first | (refine jgd 3 ?_;refine bx 3 (#[.string a1_0, .int .i64 a1_1, .int .i64 a1_2, .slice A1_3 l1_3.length c1_3]) 34 ?_;intro E0 hg w3 hbox hb;have xb_:=below_ofs bq hb;have n_:=jA4 (zac xb_ hb) (hbox) (ge0 hg xb_:w.heap.size≤E0) (ge0 hg xb_:w.heap.size≤E0);clear HB;obtain⟨HB,o0,L6,C0⟩:=n_;clear xb_ hb hbox hg) | (refine jgd 8 ?_;refine Kd.S_lit k34 _ 34 ?hg (N:=8) ?hd (xs:=([]:List (S34))) (inner:=[]) (ok:=fun _=>True) (okp:=fun _=>True) ?hr ?hp (fun _ hk=>hk) trivial (zbo _ _) (zaf _) (by simp) ?_;(case hd=>rfl);(case hg=>rfl);(case hr=>first | (go_simp;done) | (go_simp;rfl));(case hp=>exact(zfq _ _));intro v829 w4 I3 hb hg_ hnew_;clear hg_ hnew_;(first | rw[← n3.out] at I3 | (simp only[Int.reduceToNat] at I3;rw[← n3.out] at I3));have n_:=jA3 (zfz (Kd.S_newB I3 (pB o0.out)) (zal (bs1 C0.out))) (jbb o0.out hb) (zac (bs1 C0.out) hb);clear o0 HB;obtain⟨J3,o0,HB⟩:=n_;clear hb I3))
 go_loopg [6,7] k (fun kq v6 v7 w'=>∃ (G0:List (S34)) (D0:Int),v7= .int .i64 D0∧Aside0 (spec_Put.l0 kq l0 G0 D0 a1_0 a1_1 a1_2 l1_3=some (r1,r2))∧Aside0 (kq≤k)∧Aside0 (Kd.S k34 34 w' w.heap.size (fun k_=>k_≠E0) v6 G0)∧Aside0 (w'.heap[E0]? =some (.cells #[.string a1_0, .int .i64 a1_1, .int .i64 a1_2,(.slice A1_3 l1_3.length c1_3)] 34 (0,0)))∧Aside0 (Below w.heap.size w w'))
 case atStart=>exact⟨(H3),(0),jer,H',⟨zaf _⟩,⟨by(with_reducible repeat(first | apply zeh | apply zei | apply zeu));exact zdw J3.out (fun _ hk=>hk.2)⟩,⟨pB o0.out⟩,⟨bs1 C0.out⟩⟩
 case round=>
  clear H'
  try clear c1
  try clear p2
  obtain⟨G0,D0,rfl,HA,o3,B0,o0,HB⟩:=hrel
  cases gk with
  | zero=>exact absurd HA.out (by simp [spec_Put.l0])
  | succ k1=>
   have H:=HA.out
   clear HA
   simp only[spec_Put.l0] at H
   by_cases c6:D0<(l0.length:Int)
   ·rw[if_pos c6] at H
    have d6:=zae c6
    clear c6
    by_cases c7:a1_1≤0
    ·rw[if_pos c7] at H
     have f6:=zae c7
     clear c7
     by_cases c8:0≤D0
     ·rw[if_pos c8] at H
      have P6:=zae c8
      clear c8
      obtain⟨⟨P0,Q0,R0,L0⟩,A9,H⟩:=bnd H
      try dsimp only at H
      by_cases c10:G0.length<2513169434916
      ·rw[if_pos c10] at H
       have LMc10:=Aside0.mk c10
       clear c10
       obtain⟨K3,j2⟩:∃ y_:List (S34),y_=(G0++[(⟨P0,Q0,R0,L0⟩:S34)]):=⟨_,rfl⟩
       replace H:(spec_Put.l0 k1 l0 K3 (wrap64 (D0+1)) a1_0 a1_1 a1_2 l1_3)=some (r1,r2):=jrw j2 H
       have k2:=Aside0.mk j2
       clear j2
       have H':=Aside0.mk H
       clear H
       obtain⟨Z3,j4,k4,o4,t4,B4,C4,D4⟩:=cz4 o0.out
       obtain⟨Q6,R6,M6,i6,j6,k6,F4,G4,H4,I4,n1,C1⟩:=jel HR0.out HB.out D0
       cases k6
       go_wp2_with (first | (go_at_call 94;(with_reducible refine(spec_l13Item.calls ((rd_T34 l0 D0).f0) ((rd_T34 l0 D0).f1) ((rd_T34 l0 D0).f2) _ _ ((rd_T34 l0 D0).f3) P0 Q0 R0 L0 _ ?side1 ?side2 A9.out).mono ?_);(case side1=>exact jcs C1.out);(case side2=>exact n1.out);rintro e w12 ⟨v836,rfl,ho0,hb⟩;have n_:=jA4 (zen (pS B0.out) (zbg ho0) hb) (zax ho0 (zal (bs1 C0.out))) (jbb o0.out hb) (zac (bs1 C0.out) hb);clear B0 o0 HB;obtain⟨B0,H0,o0,HB⟩:=n_;clear hb ho0;obtain⟨M1,N1,n2⟩:=zbd H0.out;subst n2) | ((with_reducible refine zcd (b:= .append) (xs:= #[.tmp 38, .tmp 44]) rfl ?_);at_builtin;refine zfm k34 (w0:=w) w.heap.size rfl (.tmp 38) (.tmp 44) 25 34 (.agg #[(.string ⟨#[]⟩),(.int .i64 0),(.int .i64 0),(.slice none 0 0)]) 56 rfl Try.underlying25 info34 rfl (by decide) (by omega) u6 G0 (⟨P0,Q0,R0,L0⟩:S34) [.string P0, .int .i64 Q0, .int .i64 R0, .slice M1 L0.length N1] (fun k_=>k_≠E0) (fun k_=>some k_=(.slice M1 L0.length N1:Value).ownBlock) rfl rfl ?aP (fun k_ hk_=>((zam (ok':=fun k_=>((fun k_=>k_≠E0)) k_∧some k_≠(u6:Value).ownBlock) (zdc (zee (H0.out) (zel B0.out) (by decide)) o0.out (by decide)) (fun k_ hk=>⟨hk.2,hk.1.2⟩))).1 k_ hk_.symm) ?aF ?aO ?aB ?aS ?aL ?_;(case aP=>exact k34_mkM _ _ _ (⟨P0,Q0,R0,L0⟩:S34) (zam (zfv rfl (zam (ok':=fun k_=>((fun k_=>k_≠E0)) k_∧some k_≠(u6:Value).ownBlock) (zdc (zee (H0.out) (zel B0.out) (by decide)) o0.out (by decide)) (fun k_ hk=>⟨hk.2,hk.1.2⟩))) (fun _ h_=>h_)));(case aB=>exact(bs1 C0.out));(case aF=>exact(fun k_ hk=>zfw (pB o0.out) k_ hk));(case aO=>exact(by(with_reducible repeat(first | apply zeh | apply zei | apply zeu));exact zdw B0.out (fun k_ hk=>⟨hk.1,fun e_=>hk.2 e_⟩)));(case aS=>exact(zal (bs1 C0.out)));(case aL=>have:=LMc10.out;omega);intro v839 w13 ho hb hg hat;rw[← k2.out] at ho;have n_:=jA3 (zeq (pB o0.out) hg (Kd.S_away B0.out (fun _ hk=>hk.1))) (hb) (ho);clear o0 HB B0 H0;obtain⟨o0,HB,B2⟩:=n_;clear ho hb hg hat))
       repeat(go_quiet (first | (go_at_call 94;(with_reducible refine(spec_l13Item.calls ((rd_T34 l0 D0).f0) ((rd_T34 l0 D0).f1) ((rd_T34 l0 D0).f2) _ _ ((rd_T34 l0 D0).f3) P0 Q0 R0 L0 _ ?side1 ?side2 A9.out).mono ?_);(case side1=>exact jcs C1.out);(case side2=>exact n1.out);rintro e w12 ⟨v836,rfl,ho0,hb⟩;have n_:=jA4 (zen (pS B0.out) (zbg ho0) hb) (zax ho0 (zal (bs1 C0.out))) (jbb o0.out hb) (zac (bs1 C0.out) hb);clear B0 o0 HB;obtain⟨B0,H0,o0,HB⟩:=n_;(try clear hb);(try clear hb2);(try clear hk);(try clear hi);(try clear ho0);obtain⟨M1,N1,n2⟩:=zbd H0.out;subst n2) | ((with_reducible refine zcd (b:= .append) (xs:= #[.tmp 38, .tmp 44]) rfl ?_);at_builtin;refine zfm k34 (w0:=w) w.heap.size rfl (.tmp 38) (.tmp 44) 25 34 (.agg #[(.string ⟨#[]⟩),(.int .i64 0),(.int .i64 0),(.slice none 0 0)]) 56 rfl Try.underlying25 info34 rfl (by decide) (by omega) u6 G0 (⟨P0,Q0,R0,L0⟩:S34) [.string P0, .int .i64 Q0, .int .i64 R0, .slice M1 L0.length N1] (fun k_=>k_≠E0) (fun k_=>some k_=(.slice M1 L0.length N1:Value).ownBlock) rfl rfl ?aP (fun k_ hk_=>((zam (ok':=fun k_=>((fun k_=>k_≠E0)) k_∧some k_≠(u6:Value).ownBlock) (zdc (zee (H0.out) (zel B0.out) (by decide)) o0.out (by decide)) (fun k_ hk=>⟨hk.2,hk.1.2⟩))).1 k_ hk_.symm) ?aF ?aO ?aB ?aS ?aL ?_;(case aP=>exact k34_mkM _ _ _ (⟨P0,Q0,R0,L0⟩:S34) (zam (zfv rfl (zam (ok':=fun k_=>((fun k_=>k_≠E0)) k_∧some k_≠(u6:Value).ownBlock) (zdc (zee (H0.out) (zel B0.out) (by decide)) o0.out (by decide)) (fun k_ hk=>⟨hk.2,hk.1.2⟩))) (fun _ h_=>h_)));(case aB=>exact(bs1 C0.out));(case aF=>exact(fun k_ hk=>zfw (pB o0.out) k_ hk));(case aO=>exact(by(with_reducible repeat(first | apply zeh | apply zei | apply zeu));exact zdw B0.out (fun k_ hk=>⟨hk.1,fun e_=>hk.2 e_⟩)));(case aS=>exact(zal (bs1 C0.out)));(case aL=>have:=LMc10.out;omega);intro v839 w13 ho hb hg hat;rw[← k2.out] at ho;have n_:=jA3 (zeq (pB o0.out) hg (Kd.S_away B0.out (fun _ hk=>hk.1))) (hb) (ho);clear o0 HB B0 H0;obtain⟨o0,HB,B2⟩:=n_;clear ho hb hg hat));try go_wp2_with (first | (go_at_call 94;(with_reducible refine(spec_l13Item.calls ((rd_T34 l0 D0).f0) ((rd_T34 l0 D0).f1) ((rd_T34 l0 D0).f2) _ _ ((rd_T34 l0 D0).f3) P0 Q0 R0 L0 _ ?side1 ?side2 A9.out).mono ?_);(case side1=>exact jcs C1.out);(case side2=>exact n1.out);rintro e w12 ⟨v836,rfl,ho0,hb⟩;have n_:=jA4 (zen (pS B0.out) (zbg ho0) hb) (zax ho0 (zal (bs1 C0.out))) (jbb o0.out hb) (zac (bs1 C0.out) hb);clear B0 o0 HB;obtain⟨B0,H0,o0,HB⟩:=n_;(try clear hb);(try clear hb2);(try clear hk);(try clear hi);(try clear ho0);obtain⟨M1,N1,n2⟩:=zbd H0.out;subst n2) | ((with_reducible refine zcd (b:= .append) (xs:= #[.tmp 38, .tmp 44]) rfl ?_);at_builtin;refine zfm k34 (w0:=w) w.heap.size rfl (.tmp 38) (.tmp 44) 25 34 (.agg #[(.string ⟨#[]⟩),(.int .i64 0),(.int .i64 0),(.slice none 0 0)]) 56 rfl Try.underlying25 info34 rfl (by decide) (by omega) u6 G0 (⟨P0,Q0,R0,L0⟩:S34) [.string P0, .int .i64 Q0, .int .i64 R0, .slice M1 L0.length N1] (fun k_=>k_≠E0) (fun k_=>some k_=(.slice M1 L0.length N1:Value).ownBlock) rfl rfl ?aP (fun k_ hk_=>((zam (ok':=fun k_=>((fun k_=>k_≠E0)) k_∧some k_≠(u6:Value).ownBlock) (zdc (zee (H0.out) (zel B0.out) (by decide)) o0.out (by decide)) (fun k_ hk=>⟨hk.2,hk.1.2⟩))).1 k_ hk_.symm) ?aF ?aO ?aB ?aS ?aL ?_;(case aP=>exact k34_mkM _ _ _ (⟨P0,Q0,R0,L0⟩:S34) (zam (zfv rfl (zam (ok':=fun k_=>((fun k_=>k_≠E0)) k_∧some k_≠(u6:Value).ownBlock) (zdc (zee (H0.out) (zel B0.out) (by decide)) o0.out (by decide)) (fun k_ hk=>⟨hk.2,hk.1.2⟩))) (fun _ h_=>h_)));(case aB=>exact(bs1 C0.out));(case aF=>exact(fun k_ hk=>zfw (pB o0.out) k_ hk));(case aO=>exact(by(with_reducible repeat(first | apply zeh | apply zei | apply zeu));exact zdw B0.out (fun k_ hk=>⟨hk.1,fun e_=>hk.2 e_⟩)));(case aS=>exact(zal (bs1 C0.out)));(case aL=>have:=LMc10.out;omega);intro v839 w13 ho hb hg hat;rw[← k2.out] at ho;have n_:=jA3 (zeq (pB o0.out) hg (Kd.S_away B0.out (fun _ hk=>hk.1))) (hb) (ho);clear o0 HB B0 H0;obtain⟨o0,HB,B2⟩:=n_;clear ho hb hg hat)))
       go_roundg k1
       case measure=>have:=o3.out;omega
       case rel=>exact⟨(K3),(wrap64 (D0+1)),jer,H',⟨by have:=o3.out;omega⟩,⟨pS B2.out⟩,⟨pB o0.out⟩,⟨bs1 C0.out⟩⟩
      rw[if_neg c10] at H
      exact absurd H (by simp)
     rw[if_neg c8] at H
     exact absurd H (by simp)
    rw[if_neg c7] at H
    have f6:=zbf c7
    clear c7
    by_cases J4:0≤D0
    ·rw[if_pos J4] at H
     have N6:=zae J4
     clear J4
     by_cases C3:((rd_T34 l0 D0).f0).toList=a1_0.toList
     ·rw[if_pos C3] at H
      have L3:=beqT C3
      have M3:=zbb.mpr C3
      clear C3
      by_cases D3:((rd_T34 l0 D0).f1)=a1_1
      ·rw[if_pos D3] at H
       have N3:=beqT D3
       have O3:=zbb.mpr D3
       clear D3
       have H':=Aside0.mk H
       clear H
       obtain⟨K4,L4,M4,N4,O4,P4,Q4,R4⟩:=cz4 o0.out
       obtain⟨P3,Q3,Z0,C2,D2,E2,S1,U1,V1,K0,X1,Y1⟩:=jel HR0.out HB.out D0
       cases E2
       obtain⟨l6,n6,F2,E3,F3,G3,T2,U2,V2,D1,X2,Y2⟩:=jel HR0.out HB.out D0
       obtain rfl:Z0=F2:=(by injection G3)
       have ea_:=Option.some.inj (K0.symm.trans D1)
       injection ea_ with ea_ en_ ec_
       subst ea_
       subst ec_
       clear en_
       go_wp2
       repeat(go_quiet (fail);try go_wp2)
       go_roundg k1
       case measure=>have:=o3.out;omega
       case rel=>exact⟨(G0),(wrap64 (D0+1)),jer,H',⟨by have:=o3.out;omega⟩,⟨pS B0.out⟩,⟨pB o0.out⟩,⟨bs1 C0.out⟩⟩
      rw[if_neg D3] at H
      have N3:=zau.mpr D3
      have O3:=zcz.mpr D3
      obtain⟨⟨S0,T0,U0,M0⟩,o6,H⟩:=bnd H
      try dsimp only at H
      by_cases S4:G0.length<2513169434916
      ·rw[if_pos S4] at H
       have G2:=Aside0.mk S4
       clear S4
       obtain⟨R3,H2⟩:∃ y_:List (S34),y_=(G0++[(⟨S0,T0,U0,M0⟩:S34)]):=⟨_,rfl⟩
       replace H:(spec_Put.l0 k1 l0 R3 (wrap64 (D0+1)) a1_0 a1_1 a1_2 l1_3)=some (r1,r2):=jrw H2 H
       have I2:=Aside0.mk H2
       clear H2
       have H':=Aside0.mk H
       clear H
       obtain⟨T4,U4,V4,W4,X4,Y4,Z4,b5⟩:=cz4 o0.out
       obtain⟨P3,Q3,Z0,C2,D2,E2,S1,U1,V1,K0,X1,Y1⟩:=jel HR0.out HB.out D0
       cases E2
       obtain⟨l6,n6,F2,E3,F3,G3,T2,U2,V2,D1,X2,Y2⟩:=jel HR0.out HB.out D0
       obtain rfl:Z0=F2:=(by injection G3)
       have ea_:=Option.some.inj (K0.symm.trans D1)
       injection ea_ with ea_ en_ ec_
       subst ea_
       subst ec_
       clear en_
       obtain⟨S6,U6,S3,q6,t6,z6,d5,i5,j5,Z2,E1,F1⟩:=jel HR0.out HB.out D0
       obtain rfl:Z0=S3:=(by injection z6)
       have ea_:=Option.some.inj (K0.symm.trans Z2)
       injection ea_ with ea_ en_ ec_
       subst ea_
       subst ec_
       clear en_
       go_wp2_with (first | (go_at_call 94;(with_reducible refine(spec_l13Item.calls ((rd_T34 l0 D0).f0) ((rd_T34 l0 D0).f1) ((rd_T34 l0 D0).f2) _ _ ((rd_T34 l0 D0).f3) S0 T0 U0 M0 _ ?side1 ?side2 o6.out).mono ?_);(case side1=>exact jcs F1.out);(case side2=>exact E1.out);rintro e w22 ⟨v848,rfl,ho0,hb⟩;have n_:=jA4 (zen (pS B0.out) (zbg ho0) hb) (zax ho0 (zal (bs1 C0.out))) (jbb o0.out hb) (zac (bs1 C0.out) hb);clear B0 o0 HB;obtain⟨B0,I0,o0,HB⟩:=n_;clear hb ho0;obtain⟨O1,P1,J2⟩:=zbd I0.out;subst J2) | ((with_reducible refine zcd (b:= .append) (xs:= #[.tmp 38, .tmp 44]) rfl ?_);at_builtin;refine zfm k34 (w0:=w) w.heap.size rfl (.tmp 38) (.tmp 44) 25 34 (.agg #[(.string ⟨#[]⟩),(.int .i64 0),(.int .i64 0),(.slice none 0 0)]) 56 rfl Try.underlying25 info34 rfl (by decide) (by omega) u6 G0 (⟨S0,T0,U0,M0⟩:S34) [.string S0, .int .i64 T0, .int .i64 U0, .slice O1 M0.length P1] (fun k_=>k_≠E0) (fun k_=>some k_=(.slice O1 M0.length P1:Value).ownBlock) rfl rfl ?aP (fun k_ hk_=>((zam (ok':=fun k_=>((fun k_=>k_≠E0)) k_∧some k_≠(u6:Value).ownBlock) (zdc (zee (I0.out) (zel B0.out) (by decide)) o0.out (by decide)) (fun k_ hk=>⟨hk.2,hk.1.2⟩))).1 k_ hk_.symm) ?aF ?aO ?aB ?aS ?aL ?_;(case aP=>exact k34_mkM _ _ _ (⟨S0,T0,U0,M0⟩:S34) (zam (zfv rfl (zam (ok':=fun k_=>((fun k_=>k_≠E0)) k_∧some k_≠(u6:Value).ownBlock) (zdc (zee (I0.out) (zel B0.out) (by decide)) o0.out (by decide)) (fun k_ hk=>⟨hk.2,hk.1.2⟩))) (fun _ h_=>h_)));(case aB=>exact(bs1 C0.out));(case aF=>exact(fun k_ hk=>zfw (pB o0.out) k_ hk));(case aO=>exact(by(with_reducible repeat(first | apply zeh | apply zei | apply zeu));exact zdw B0.out (fun k_ hk=>⟨hk.1,fun e_=>hk.2 e_⟩)));(case aS=>exact(zal (bs1 C0.out)));(case aL=>have:=G2.out;omega);intro v851 w23 ho hb hg hat;rw[← I2.out] at ho;have n_:=jA3 (zeq (pB o0.out) hg (Kd.S_away B0.out (fun _ hk=>hk.1))) (hb) (ho);clear o0 HB B0 I0;obtain⟨o0,HB,K2⟩:=n_;clear ho hb hg hat))
       repeat(go_quiet (first | (go_at_call 94;(with_reducible refine(spec_l13Item.calls ((rd_T34 l0 D0).f0) ((rd_T34 l0 D0).f1) ((rd_T34 l0 D0).f2) _ _ ((rd_T34 l0 D0).f3) S0 T0 U0 M0 _ ?side1 ?side2 o6.out).mono ?_);(case side1=>exact jcs F1.out);(case side2=>exact E1.out);rintro e w22 ⟨v848,rfl,ho0,hb⟩;have n_:=jA4 (zen (pS B0.out) (zbg ho0) hb) (zax ho0 (zal (bs1 C0.out))) (jbb o0.out hb) (zac (bs1 C0.out) hb);clear B0 o0 HB;obtain⟨B0,I0,o0,HB⟩:=n_;(try clear hb);(try clear hb2);(try clear hk);(try clear hi);(try clear ho0);obtain⟨O1,P1,J2⟩:=zbd I0.out;subst J2) | ((with_reducible refine zcd (b:= .append) (xs:= #[.tmp 38, .tmp 44]) rfl ?_);at_builtin;refine zfm k34 (w0:=w) w.heap.size rfl (.tmp 38) (.tmp 44) 25 34 (.agg #[(.string ⟨#[]⟩),(.int .i64 0),(.int .i64 0),(.slice none 0 0)]) 56 rfl Try.underlying25 info34 rfl (by decide) (by omega) u6 G0 (⟨S0,T0,U0,M0⟩:S34) [.string S0, .int .i64 T0, .int .i64 U0, .slice O1 M0.length P1] (fun k_=>k_≠E0) (fun k_=>some k_=(.slice O1 M0.length P1:Value).ownBlock) rfl rfl ?aP (fun k_ hk_=>((zam (ok':=fun k_=>((fun k_=>k_≠E0)) k_∧some k_≠(u6:Value).ownBlock) (zdc (zee (I0.out) (zel B0.out) (by decide)) o0.out (by decide)) (fun k_ hk=>⟨hk.2,hk.1.2⟩))).1 k_ hk_.symm) ?aF ?aO ?aB ?aS ?aL ?_;(case aP=>exact k34_mkM _ _ _ (⟨S0,T0,U0,M0⟩:S34) (zam (zfv rfl (zam (ok':=fun k_=>((fun k_=>k_≠E0)) k_∧some k_≠(u6:Value).ownBlock) (zdc (zee (I0.out) (zel B0.out) (by decide)) o0.out (by decide)) (fun k_ hk=>⟨hk.2,hk.1.2⟩))) (fun _ h_=>h_)));(case aB=>exact(bs1 C0.out));(case aF=>exact(fun k_ hk=>zfw (pB o0.out) k_ hk));(case aO=>exact(by(with_reducible repeat(first | apply zeh | apply zei | apply zeu));exact zdw B0.out (fun k_ hk=>⟨hk.1,fun e_=>hk.2 e_⟩)));(case aS=>exact(zal (bs1 C0.out)));(case aL=>have:=G2.out;omega);intro v851 w23 ho hb hg hat;rw[← I2.out] at ho;have n_:=jA3 (zeq (pB o0.out) hg (Kd.S_away B0.out (fun _ hk=>hk.1))) (hb) (ho);clear o0 HB B0 I0;obtain⟨o0,HB,K2⟩:=n_;clear ho hb hg hat));try go_wp2_with (first | (go_at_call 94;(with_reducible refine(spec_l13Item.calls ((rd_T34 l0 D0).f0) ((rd_T34 l0 D0).f1) ((rd_T34 l0 D0).f2) _ _ ((rd_T34 l0 D0).f3) S0 T0 U0 M0 _ ?side1 ?side2 o6.out).mono ?_);(case side1=>exact jcs F1.out);(case side2=>exact E1.out);rintro e w22 ⟨v848,rfl,ho0,hb⟩;have n_:=jA4 (zen (pS B0.out) (zbg ho0) hb) (zax ho0 (zal (bs1 C0.out))) (jbb o0.out hb) (zac (bs1 C0.out) hb);clear B0 o0 HB;obtain⟨B0,I0,o0,HB⟩:=n_;(try clear hb);(try clear hb2);(try clear hk);(try clear hi);(try clear ho0);obtain⟨O1,P1,J2⟩:=zbd I0.out;subst J2) | ((with_reducible refine zcd (b:= .append) (xs:= #[.tmp 38, .tmp 44]) rfl ?_);at_builtin;refine zfm k34 (w0:=w) w.heap.size rfl (.tmp 38) (.tmp 44) 25 34 (.agg #[(.string ⟨#[]⟩),(.int .i64 0),(.int .i64 0),(.slice none 0 0)]) 56 rfl Try.underlying25 info34 rfl (by decide) (by omega) u6 G0 (⟨S0,T0,U0,M0⟩:S34) [.string S0, .int .i64 T0, .int .i64 U0, .slice O1 M0.length P1] (fun k_=>k_≠E0) (fun k_=>some k_=(.slice O1 M0.length P1:Value).ownBlock) rfl rfl ?aP (fun k_ hk_=>((zam (ok':=fun k_=>((fun k_=>k_≠E0)) k_∧some k_≠(u6:Value).ownBlock) (zdc (zee (I0.out) (zel B0.out) (by decide)) o0.out (by decide)) (fun k_ hk=>⟨hk.2,hk.1.2⟩))).1 k_ hk_.symm) ?aF ?aO ?aB ?aS ?aL ?_;(case aP=>exact k34_mkM _ _ _ (⟨S0,T0,U0,M0⟩:S34) (zam (zfv rfl (zam (ok':=fun k_=>((fun k_=>k_≠E0)) k_∧some k_≠(u6:Value).ownBlock) (zdc (zee (I0.out) (zel B0.out) (by decide)) o0.out (by decide)) (fun k_ hk=>⟨hk.2,hk.1.2⟩))) (fun _ h_=>h_)));(case aB=>exact(bs1 C0.out));(case aF=>exact(fun k_ hk=>zfw (pB o0.out) k_ hk));(case aO=>exact(by(with_reducible repeat(first | apply zeh | apply zei | apply zeu));exact zdw B0.out (fun k_ hk=>⟨hk.1,fun e_=>hk.2 e_⟩)));(case aS=>exact(zal (bs1 C0.out)));(case aL=>have:=G2.out;omega);intro v851 w23 ho hb hg hat;rw[← I2.out] at ho;have n_:=jA3 (zeq (pB o0.out) hg (Kd.S_away B0.out (fun _ hk=>hk.1))) (hb) (ho);clear o0 HB B0 I0;obtain⟨o0,HB,K2⟩:=n_;clear ho hb hg hat)))
       go_roundg k1
       case measure=>have:=o3.out;omega
       case rel=>exact⟨(R3),(wrap64 (D0+1)),jer,H',⟨by have:=o3.out;omega⟩,⟨pS K2.out⟩,⟨pB o0.out⟩,⟨bs1 C0.out⟩⟩
      rw[if_neg S4] at H
      exact absurd H (by simp)
     rw[if_neg C3] at H
     have L3:=zau.mpr C3
     have M3:=zcz.mpr C3
     obtain⟨⟨V0,W0,X0,N0⟩,C6,H⟩:=bnd H
     try dsimp only at H
     by_cases k5:G0.length<2513169434916
     ·rw[if_pos k5] at H
      have M2:=Aside0.mk k5
      clear k5
      obtain⟨T3,N2⟩:∃ y_:List (S34),y_=(G0++[(⟨V0,W0,X0,N0⟩:S34)]):=⟨_,rfl⟩
      replace H:(spec_Put.l0 k1 l0 T3 (wrap64 (D0+1)) a1_0 a1_1 a1_2 l1_3)=some (r1,r2):=jrw N2 H
      have O2:=Aside0.mk N2
      clear N2
      have H':=Aside0.mk H
      clear H
      obtain⟨l5,n5,o5,t5,z5,C5,D5,E5⟩:=cz4 o0.out
      obtain⟨P3,Q3,Z0,C2,D2,E2,S1,U1,V1,K0,X1,Y1⟩:=jel HR0.out HB.out D0
      cases E2
      obtain⟨V6,W6,U3,D6,E6,F6,F5,G5,H5,j3,G1,H1⟩:=jel HR0.out HB.out D0
      obtain rfl:Z0=U3:=(by injection F6)
      have ea_:=Option.some.inj (K0.symm.trans j3)
      injection ea_ with ea_ en_ ec_
      subst ea_
      subst ec_
      clear en_
      go_wp2_with (first | (go_at_call 94;(with_reducible refine(spec_l13Item.calls ((rd_T34 l0 D0).f0) ((rd_T34 l0 D0).f1) ((rd_T34 l0 D0).f2) _ _ ((rd_T34 l0 D0).f3) V0 W0 X0 N0 _ ?side1 ?side2 C6.out).mono ?_);(case side1=>exact jcs H1.out);(case side2=>exact G1.out);rintro e w28 ⟨v858,rfl,ho0,hb⟩;have n_:=jA4 (zen (pS B0.out) (zbg ho0) hb) (zax ho0 (zal (bs1 C0.out))) (jbb o0.out hb) (zac (bs1 C0.out) hb);clear B0 o0 HB;obtain⟨B0,J0,o0,HB⟩:=n_;clear hb ho0;obtain⟨Q1,R1,P2⟩:=zbd J0.out;subst P2) | ((with_reducible refine zcd (b:= .append) (xs:= #[.tmp 38, .tmp 44]) rfl ?_);at_builtin;refine zfm k34 (w0:=w) w.heap.size rfl (.tmp 38) (.tmp 44) 25 34 (.agg #[(.string ⟨#[]⟩),(.int .i64 0),(.int .i64 0),(.slice none 0 0)]) 56 rfl Try.underlying25 info34 rfl (by decide) (by omega) u6 G0 (⟨V0,W0,X0,N0⟩:S34) [.string V0, .int .i64 W0, .int .i64 X0, .slice Q1 N0.length R1] (fun k_=>k_≠E0) (fun k_=>some k_=(.slice Q1 N0.length R1:Value).ownBlock) rfl rfl ?aP (fun k_ hk_=>((zam (ok':=fun k_=>((fun k_=>k_≠E0)) k_∧some k_≠(u6:Value).ownBlock) (zdc (zee (J0.out) (zel B0.out) (by decide)) o0.out (by decide)) (fun k_ hk=>⟨hk.2,hk.1.2⟩))).1 k_ hk_.symm) ?aF ?aO ?aB ?aS ?aL ?_;(case aP=>exact k34_mkM _ _ _ (⟨V0,W0,X0,N0⟩:S34) (zam (zfv rfl (zam (ok':=fun k_=>((fun k_=>k_≠E0)) k_∧some k_≠(u6:Value).ownBlock) (zdc (zee (J0.out) (zel B0.out) (by decide)) o0.out (by decide)) (fun k_ hk=>⟨hk.2,hk.1.2⟩))) (fun _ h_=>h_)));(case aB=>exact(bs1 C0.out));(case aF=>exact(fun k_ hk=>zfw (pB o0.out) k_ hk));(case aO=>exact(by(with_reducible repeat(first | apply zeh | apply zei | apply zeu));exact zdw B0.out (fun k_ hk=>⟨hk.1,fun e_=>hk.2 e_⟩)));(case aS=>exact(zal (bs1 C0.out)));(case aL=>have:=M2.out;omega);intro v861 w29 ho hb hg hat;rw[← O2.out] at ho;have n_:=jA3 (zeq (pB o0.out) hg (Kd.S_away B0.out (fun _ hk=>hk.1))) (hb) (ho);clear o0 HB B0 J0;obtain⟨o0,HB,Q2⟩:=n_;clear ho hb hg hat))
      repeat(go_quiet (first | (go_at_call 94;(with_reducible refine(spec_l13Item.calls ((rd_T34 l0 D0).f0) ((rd_T34 l0 D0).f1) ((rd_T34 l0 D0).f2) _ _ ((rd_T34 l0 D0).f3) V0 W0 X0 N0 _ ?side1 ?side2 C6.out).mono ?_);(case side1=>exact jcs H1.out);(case side2=>exact G1.out);rintro e w28 ⟨v858,rfl,ho0,hb⟩;have n_:=jA4 (zen (pS B0.out) (zbg ho0) hb) (zax ho0 (zal (bs1 C0.out))) (jbb o0.out hb) (zac (bs1 C0.out) hb);clear B0 o0 HB;obtain⟨B0,J0,o0,HB⟩:=n_;(try clear hb);(try clear hb2);(try clear hk);(try clear hi);(try clear ho0);obtain⟨Q1,R1,P2⟩:=zbd J0.out;subst P2) | ((with_reducible refine zcd (b:= .append) (xs:= #[.tmp 38, .tmp 44]) rfl ?_);at_builtin;refine zfm k34 (w0:=w) w.heap.size rfl (.tmp 38) (.tmp 44) 25 34 (.agg #[(.string ⟨#[]⟩),(.int .i64 0),(.int .i64 0),(.slice none 0 0)]) 56 rfl Try.underlying25 info34 rfl (by decide) (by omega) u6 G0 (⟨V0,W0,X0,N0⟩:S34) [.string V0, .int .i64 W0, .int .i64 X0, .slice Q1 N0.length R1] (fun k_=>k_≠E0) (fun k_=>some k_=(.slice Q1 N0.length R1:Value).ownBlock) rfl rfl ?aP (fun k_ hk_=>((zam (ok':=fun k_=>((fun k_=>k_≠E0)) k_∧some k_≠(u6:Value).ownBlock) (zdc (zee (J0.out) (zel B0.out) (by decide)) o0.out (by decide)) (fun k_ hk=>⟨hk.2,hk.1.2⟩))).1 k_ hk_.symm) ?aF ?aO ?aB ?aS ?aL ?_;(case aP=>exact k34_mkM _ _ _ (⟨V0,W0,X0,N0⟩:S34) (zam (zfv rfl (zam (ok':=fun k_=>((fun k_=>k_≠E0)) k_∧some k_≠(u6:Value).ownBlock) (zdc (zee (J0.out) (zel B0.out) (by decide)) o0.out (by decide)) (fun k_ hk=>⟨hk.2,hk.1.2⟩))) (fun _ h_=>h_)));(case aB=>exact(bs1 C0.out));(case aF=>exact(fun k_ hk=>zfw (pB o0.out) k_ hk));(case aO=>exact(by(with_reducible repeat(first | apply zeh | apply zei | apply zeu));exact zdw B0.out (fun k_ hk=>⟨hk.1,fun e_=>hk.2 e_⟩)));(case aS=>exact(zal (bs1 C0.out)));(case aL=>have:=M2.out;omega);intro v861 w29 ho hb hg hat;rw[← O2.out] at ho;have n_:=jA3 (zeq (pB o0.out) hg (Kd.S_away B0.out (fun _ hk=>hk.1))) (hb) (ho);clear o0 HB B0 J0;obtain⟨o0,HB,Q2⟩:=n_;clear ho hb hg hat));try go_wp2_with (first | (go_at_call 94;(with_reducible refine(spec_l13Item.calls ((rd_T34 l0 D0).f0) ((rd_T34 l0 D0).f1) ((rd_T34 l0 D0).f2) _ _ ((rd_T34 l0 D0).f3) V0 W0 X0 N0 _ ?side1 ?side2 C6.out).mono ?_);(case side1=>exact jcs H1.out);(case side2=>exact G1.out);rintro e w28 ⟨v858,rfl,ho0,hb⟩;have n_:=jA4 (zen (pS B0.out) (zbg ho0) hb) (zax ho0 (zal (bs1 C0.out))) (jbb o0.out hb) (zac (bs1 C0.out) hb);clear B0 o0 HB;obtain⟨B0,J0,o0,HB⟩:=n_;(try clear hb);(try clear hb2);(try clear hk);(try clear hi);(try clear ho0);obtain⟨Q1,R1,P2⟩:=zbd J0.out;subst P2) | ((with_reducible refine zcd (b:= .append) (xs:= #[.tmp 38, .tmp 44]) rfl ?_);at_builtin;refine zfm k34 (w0:=w) w.heap.size rfl (.tmp 38) (.tmp 44) 25 34 (.agg #[(.string ⟨#[]⟩),(.int .i64 0),(.int .i64 0),(.slice none 0 0)]) 56 rfl Try.underlying25 info34 rfl (by decide) (by omega) u6 G0 (⟨V0,W0,X0,N0⟩:S34) [.string V0, .int .i64 W0, .int .i64 X0, .slice Q1 N0.length R1] (fun k_=>k_≠E0) (fun k_=>some k_=(.slice Q1 N0.length R1:Value).ownBlock) rfl rfl ?aP (fun k_ hk_=>((zam (ok':=fun k_=>((fun k_=>k_≠E0)) k_∧some k_≠(u6:Value).ownBlock) (zdc (zee (J0.out) (zel B0.out) (by decide)) o0.out (by decide)) (fun k_ hk=>⟨hk.2,hk.1.2⟩))).1 k_ hk_.symm) ?aF ?aO ?aB ?aS ?aL ?_;(case aP=>exact k34_mkM _ _ _ (⟨V0,W0,X0,N0⟩:S34) (zam (zfv rfl (zam (ok':=fun k_=>((fun k_=>k_≠E0)) k_∧some k_≠(u6:Value).ownBlock) (zdc (zee (J0.out) (zel B0.out) (by decide)) o0.out (by decide)) (fun k_ hk=>⟨hk.2,hk.1.2⟩))) (fun _ h_=>h_)));(case aB=>exact(bs1 C0.out));(case aF=>exact(fun k_ hk=>zfw (pB o0.out) k_ hk));(case aO=>exact(by(with_reducible repeat(first | apply zeh | apply zei | apply zeu));exact zdw B0.out (fun k_ hk=>⟨hk.1,fun e_=>hk.2 e_⟩)));(case aS=>exact(zal (bs1 C0.out)));(case aL=>have:=M2.out;omega);intro v861 w29 ho hb hg hat;rw[← O2.out] at ho;have n_:=jA3 (zeq (pB o0.out) hg (Kd.S_away B0.out (fun _ hk=>hk.1))) (hb) (ho);clear o0 HB B0 J0;obtain⟨o0,HB,Q2⟩:=n_;clear ho hb hg hat)))
      go_roundg k1
      case measure=>have:=o3.out;omega
      case rel=>exact⟨(T3),(wrap64 (D0+1)),jer,H',⟨by have:=o3.out;omega⟩,⟨pS Q2.out⟩,⟨pB o0.out⟩,⟨bs1 C0.out⟩⟩
     rw[if_neg k5] at H
     exact absurd H (by simp)
    rw[if_neg J4] at H
    exact absurd H (by simp)
   rw[if_neg c6] at H
   have d6:=zbf c6
   clear c6
   obtain⟨⟨I1,J1,K1,Y0⟩,A31,H⟩:=bnd H
   try dsimp only at H
   by_cases I5:G0.length<2513169434916
   ·rw[if_pos I5] at H
    have t3:=Aside0.mk I5
    clear I5
    obtain⟨V3,R2⟩:∃ y_:List (S34),y_=(G0++[(⟨I1,J1,K1,Y0⟩:S34)]):=⟨_,rfl⟩
    replace H:=bto R2 H
    have B3:=Aside0.mk R2
    clear R2
    obtain⟨G6,A33,H⟩:=bnd H
    by_cases J5:G6=true
    ·subst J5
     rw[if_pos rfl] at H
     simp only[zaz,zbn] at H
     obtain⟨rfl,rfl⟩:=H
     obtain⟨K5,L5,M5,N5,O5,P5,Q5,R5⟩:=cz4 o0.out
     go_wp2_with (first | (go_at_call 94;(with_reducible refine(spec_l13Item.calls a1_0 a1_1 a1_2 _ _ l1_3 I1 J1 K1 Y0 _ ?side1 ?side2 A31.out).mono ?_);(case side1=>exact jcs HR1_3.out);(case side2=>exact k3.out);rintro e w36 ⟨v867,rfl,ho0,hb⟩;have n_:=jA4 (zen (pS B0.out) (zbg ho0) hb) (zax ho0 (zal (bs1 C0.out))) (jbb o0.out hb) (zac (bs1 C0.out) hb);clear B0 o0 HB;obtain⟨B0,O0,o0,HB⟩:=n_;clear hb ho0;obtain⟨Ao38,co38,eo38⟩:=zbd O0.out;subst eo38) | ((with_reducible refine zcd (b:= .append) (xs:= #[.tmp 46, .tmp 49]) rfl ?_);at_builtin;refine zfm k34 (w0:=w) w.heap.size rfl (.tmp 46) (.tmp 49) 25 34 (.agg #[(.string ⟨#[]⟩),(.int .i64 0),(.int .i64 0),(.slice none 0 0)]) 56 rfl Try.underlying25 info34 rfl (by decide) (by omega) u6 G0 (⟨I1,J1,K1,Y0⟩:S34) [.string I1, .int .i64 J1, .int .i64 K1, .slice Ao38 Y0.length co38] (fun k_=>k_≠E0) (fun k_=>some k_=(.slice Ao38 Y0.length co38:Value).ownBlock) rfl rfl ?aP (fun k_ hk_=>((zam (ok':=fun k_=>((fun k_=>k_≠E0)) k_∧some k_≠(u6:Value).ownBlock) (zdc (zee (O0.out) (zel B0.out) (by decide)) o0.out (by decide)) (fun k_ hk=>⟨hk.2,hk.1.2⟩))).1 k_ hk_.symm) ?aF ?aO ?aB ?aS ?aL ?_;(case aP=>exact k34_mkM _ _ _ (⟨I1,J1,K1,Y0⟩:S34) (zam (zfv rfl (zam (ok':=fun k_=>((fun k_=>k_≠E0)) k_∧some k_≠(u6:Value).ownBlock) (zdc (zee (O0.out) (zel B0.out) (by decide)) o0.out (by decide)) (fun k_ hk=>⟨hk.2,hk.1.2⟩))) (fun _ h_=>h_)));(case aB=>exact(bs1 C0.out));(case aF=>exact(fun k_ hk=>zfw (pB o0.out) k_ hk));(case aO=>exact(by(with_reducible repeat(first | apply zeh | apply zei | apply zeu));exact zdw B0.out (fun k_ hk=>⟨hk.1,fun e_=>hk.2 e_⟩)));(case aS=>exact(zal (bs1 C0.out)));(case aL=>have:=t3.out;omega);intro v870 w37 ho hb hg hat;rw[← B3.out] at ho;have n_:=jA3 (zeq (pB o0.out) hg (Kd.S_away B0.out (fun _ hk=>hk.1))) (hb) (ho);clear o0 HB B0 O0;obtain⟨o0,HB,F0⟩:=n_;clear ho hb hg hat;obtain⟨X6,Y6,H6⟩:=Kd.S_slice F0.out;subst H6) | (go_at_call 42;(with_reducible refine(spec_QueueOk.calls k1 _ _ V3 true _ ?side1 ?side2 A33.out).mono ?_);(case side1=>repeat(first | exact(zfn F0.out).2.2 | (with_reducible first | apply zdd | apply zdq | apply zeb)));(case side2=>exact(zfn F0.out).2.1);rintro e w40 ⟨rfl,hb⟩;have n_:=jA3 (zfp (pS F0.out) hb) (jbb o0.out hb) (zac (bs1 C0.out) hb);clear F0 o0 HB;obtain⟨F0,o0,HB⟩:=n_;(try clear hb);(try clear hb2);(try clear hk);(try clear hi)))
     go_ret2
     exact⟨_,jex,tqS F0.out,(bs1 C0.out)⟩
    replace J5:=zcp.mpr J5
    subst J5
    rw[if_neg (show ¬(false=true) by decide)] at H
    obtain⟨I6,Z6,H⟩:=bnd H
    simp only[zaz,zbn] at H
    obtain⟨rfl,rfl⟩:=H
    obtain⟨S5,U5,V5,W5,X5,Y5,Z5,b6⟩:=cz4 o0.out
    go_wp2_with (first | (go_at_call 94;(with_reducible refine(spec_l13Item.calls a1_0 a1_1 a1_2 _ _ l1_3 I1 J1 K1 Y0 _ ?side1 ?side2 A31.out).mono ?_);(case side1=>exact jcs HR1_3.out);(case side2=>exact k3.out);rintro e w43 ⟨v867,rfl,ho0,hb⟩;have n_:=jA4 (zen (pS B0.out) (zbg ho0) hb) (zax ho0 (zal (bs1 C0.out))) (jbb o0.out hb) (zac (bs1 C0.out) hb);clear B0 o0 HB;obtain⟨B0,O0,o0,HB⟩:=n_;clear hb ho0;obtain⟨W3,X3,J6⟩:=zbd O0.out;subst J6) | ((with_reducible refine zcd (b:= .append) (xs:= #[.tmp 46, .tmp 49]) rfl ?_);at_builtin;refine zfm k34 (w0:=w) w.heap.size rfl (.tmp 46) (.tmp 49) 25 34 (.agg #[(.string ⟨#[]⟩),(.int .i64 0),(.int .i64 0),(.slice none 0 0)]) 56 rfl Try.underlying25 info34 rfl (by decide) (by omega) u6 G0 (⟨I1,J1,K1,Y0⟩:S34) [.string I1, .int .i64 J1, .int .i64 K1, .slice W3 Y0.length X3] (fun k_=>k_≠E0) (fun k_=>some k_=(.slice W3 Y0.length X3:Value).ownBlock) rfl rfl ?aP (fun k_ hk_=>((zam (ok':=fun k_=>((fun k_=>k_≠E0)) k_∧some k_≠(u6:Value).ownBlock) (zdc (zee (O0.out) (zel B0.out) (by decide)) o0.out (by decide)) (fun k_ hk=>⟨hk.2,hk.1.2⟩))).1 k_ hk_.symm) ?aF ?aO ?aB ?aS ?aL ?_;(case aP=>exact k34_mkM _ _ _ (⟨I1,J1,K1,Y0⟩:S34) (zam (zfv rfl (zam (ok':=fun k_=>((fun k_=>k_≠E0)) k_∧some k_≠(u6:Value).ownBlock) (zdc (zee (O0.out) (zel B0.out) (by decide)) o0.out (by decide)) (fun k_ hk=>⟨hk.2,hk.1.2⟩))) (fun _ h_=>h_)));(case aB=>exact(bs1 C0.out));(case aF=>exact(fun k_ hk=>zfw (pB o0.out) k_ hk));(case aO=>exact(by(with_reducible repeat(first | apply zeh | apply zei | apply zeu));exact zdw B0.out (fun k_ hk=>⟨hk.1,fun e_=>hk.2 e_⟩)));(case aS=>exact(zal (bs1 C0.out)));(case aL=>have:=t3.out;omega);intro v870 w44 ho hb hg hat;rw[← B3.out] at ho;have n_:=jA3 (zeq (pB o0.out) hg (Kd.S_away B0.out (fun _ hk=>hk.1))) (hb) (ho);clear o0 HB B0 O0;obtain⟨o0,HB,F0⟩:=n_;clear ho hb hg hat;obtain⟨a7,b7,K6⟩:=Kd.S_slice F0.out;subst K6) | (go_at_call 42;(with_reducible refine(spec_QueueOk.calls k1 _ _ V3 false _ ?side1 ?side2 A33.out).mono ?_);(case side1=>repeat(first | exact(zfn F0.out).2.2 | (with_reducible first | apply zdd | apply zdq | apply zeb)));(case side2=>exact(zfn F0.out).2.1);rintro e w47 ⟨rfl,hb⟩;have n_:=jA3 (zfp (pS F0.out) hb) (jbb o0.out hb) (zac (bs1 C0.out) hb);clear F0 o0 HB;obtain⟨F0,o0,HB⟩:=n_;(try clear hb);(try clear hb2);(try clear hk);(try clear hi)) | (go_at_call 101;(with_reducible refine(spec_l13Queue.calls k1 _ _ l0 I6 _ ?side1 ?side2 Z6.out).mono ?_);(case side1=>exact jcs HR0.out);(case side2=>exact O6.out);rintro e w48 ⟨v874,rfl,ho0,hb⟩;have n_:=jA4 (zen (pS F0.out) (Kd.S_base ho0) hb) (zfz (Kd.S_newB (Kd.S_new' ho0 (Kd.S_lt (pS F0.out))) (pB o0.out)) (zal (bs1 C0.out))) (jbb o0.out hb) (zac (bs1 C0.out) hb);clear F0 o0 HB;obtain⟨F0,Y3,o0,HB⟩:=n_;clear hb ho0))
    go_ret2
    exact⟨_,jex,tqS Y3.out,(bs1 C0.out)⟩
   rw[if_neg I5] at H
   exact absurd H (by simp)
end Go.Proofs.Ytlalkldjpniakaa.P
