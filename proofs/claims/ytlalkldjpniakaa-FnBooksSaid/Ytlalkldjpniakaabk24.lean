import Derived.Test.Ytlalkldjpniakaabk23
import Derived.Test.Ytlalkldjpniakaabk9
namespace Go.Proofs.Ytlalkldjpniakaa.P
open Go.RowKit Go.Proofs.YtlalkldjpniakaaW.PrintWords Go.Proofs.YtlalkldjpniakaaW.PrintLast Go.Proofs.YtlalkldjpniakaaW.PrintMore
attribute [local go_sem] zck zcl zdl zdm zbz zca zcm zcn -- for this text's walks alone
set_option linter.unusedVariables false
set_option linter.unusedSimpArgs false

mutual
def spec_QueueOk.l0:Nat→List (S34)→Int→Option (Bool)
 | 0,_,_=>none
 | k+1,x0,x3=>if x3<(x0.length:Int) then(if 0≤x3 then((spec_ItemOk.f k ((rd_T34 x0 x3).f0) ((rd_T34 x0 x3).f1) ((rd_T34 x0 x3).f2) ((rd_T34 x0 x3).f3)).bind fun t377=>(if t377=true then((spec_Of.f k x0 ((rd_T34 x0 x3).f0)).bind fun t379=>(spec_QueueOk.j1 k x0 x3 (decide (t379>4)))) else(spec_QueueOk.j1 k x0 x3 true))) else(none)) else(some (decide ((x0.length:Int)≤10)))
def spec_QueueOk.j1:Nat→List (S34)→Int→Bool→Option (Bool)
 | 0,_,_,_=>none
 | k+1,x0,x3,x26=>if x26=true then(some false) else(spec_QueueOk.l1 k x0 x3 0)
def spec_QueueOk.l1:Nat→List (S34)→Int→Int→Option (Bool)
 | 0,_,_,_=>none
 | k+1,x0,x3,x4=>if x4<x3 then(if 0≤x4 then(if x4<(x0.length:Int) then(if 0≤x3 then(if x3<(x0.length:Int) then(if((rd_T34 x0 x4).f0).toList=((rd_T34 x0 x3).f0).toList then(if((rd_T34 x0 x4).f1)=((rd_T34 x0 x3).f1) then(if((rd_T34 x0 x3).f1)>0 then(some false) else(spec_QueueOk.l1 k x0 x3 (wrap64 (x4+1)))) else(spec_QueueOk.l1 k x0 x3 (wrap64 (x4+1)))) else(spec_QueueOk.l1 k x0 x3 (wrap64 (x4+1)))) else(none)) else(none)) else(none)) else(none)) else(spec_QueueOk.l0 k x0 (wrap64 (x3+1)))
end
def spec_QueueOk.f (k:Nat) (l0:List (S34)):Option (Bool):=spec_QueueOk.l0 k l0 0
theorem spec_QueueOk.mono_l:∀ k,(∀ y0 y1,LeO (spec_QueueOk.l0 k y0 y1) (spec_QueueOk.l0 (k+1) y0 y1))∧(∀ y0 y1 y2,LeO (spec_QueueOk.j1 k y0 y1 y2) (spec_QueueOk.j1 (k+1) y0 y1 y2))∧(∀ y0 y1 y2,LeO (spec_QueueOk.l1 k y0 y1 y2) (spec_QueueOk.l1 (k+1) y0 y1 y2))
 | 0=>⟨fun _ _ r h=>by simp [spec_QueueOk.l0] at h,fun _ _ _ r h=>by simp [spec_QueueOk.j1] at h,fun _ _ _ r h=>by simp [spec_QueueOk.l1] at h⟩
 | k+1=>by
  obtain⟨ih0,ih1,ih2⟩:=spec_QueueOk.mono_l k
  refine⟨?_,?_,?_⟩
  ·intro y0 y1
   unfold spec_QueueOk.l0
   have m0:=@spec_ItemOk.mono
   have m1:=@spec_Of.mono
   exact mt
  ·intro y0 y1 y2
   unfold spec_QueueOk.j1
   have m0:=@spec_ItemOk.mono
   have m1:=@spec_Of.mono
   exact mt
  intro y0 y1 y2
  unfold spec_QueueOk.l1
  have m0:=@spec_ItemOk.mono
  have m1:=@spec_Of.mono
  exact mt
theorem spec_QueueOk.mono:∀ a0 k,LeO (spec_QueueOk.f k a0) (spec_QueueOk.f (k+1) a0):=by
 intro a0 k
 obtain⟨ih0,ih1,ih2⟩:=spec_QueueOk.mono_l k
 unfold spec_QueueOk.f
 have m0:=@spec_ItemOk.mono
 have m1:=@spec_Of.mono
 exact mt
set_option maxHeartbeats 8000000 in
set_option maxRecDepth 100000 in
theorem spec_QueueOk.calls (k:Nat) (A0:Option Addr) (c0:Nat) (l0:List (S34)) (r:Bool) (w:World) (hr0:Kd.C k34 w A0 l0.length l0) (hc0:l0.length≤c0) (h:spec_QueueOk.f k l0=some r):
  Calls Try.prog 42 #[.slice A0 l0.length c0] w fun e w'=>e= .returned (.bool r)∧Below w.heap.size w w':=by
 have hu34:=Try.underlying34
 have HR0:=Aside0.mk hr0
 have J4:=Aside0.mk hc0
 clear hr0 hc0
 have HB:=Aside0.mk (zbo w.heap.size w)
 have H:(spec_QueueOk.l0 k l0 0)=some r:=h
 clear h
 have H':=Aside0.mk H
 clear H
 go_enter Try.func42,Try.ntmps42
 go_wp2
 go_loopg [3] k (fun kq v3 w'=>∃ (o0:Int),v3= .int .i64 o0∧Aside0 (spec_QueueOk.l0 kq l0 o0=some r)∧Aside0 (kq≤k)∧Aside0 (Below w.heap.size w w'))
 case atStart=>exact⟨(0),jer,H',⟨zaf _⟩,⟨bq⟩⟩
 case round=>
  clear H'
  obtain⟨o0,rfl,HA,J2,HB⟩:=hrel
  cases gk with
  | zero=>exact absurd HA.out (by simp [spec_QueueOk.l0])
  | succ k1=>
   have H:=HA.out
   clear HA
   simp only[spec_QueueOk.l0] at H
   by_cases c2:o0<(l0.length:Int)
   ·rw[if_pos c2] at H
    have V2:=zae c2
    clear c2
    have j4:=Aside0.mk H
    clear H
    go_upto_region 4 with (fail)
    go_cut [26] (fun v26 wc=>∃ (kq:Nat) (N1:Bool),v26= .bool N1∧Aside0 (spec_QueueOk.j1 kq l0 o0 N1=some r)∧Aside0 (kq≤k1)∧Aside0 (Below w.heap.size w wc))
    case first=>
     have H:=j4.out
     clear j4
     by_cases c4:0≤o0
     ·rw[if_pos c4] at H
      have K2:=zae c4
      clear c4
      (first | rw[K2] | (simp only[i64_w,i32_w];rw[K2]) | skip)
      obtain⟨k4,A5,H⟩:=bnd H
      by_cases c6:k4=true
      ·subst c6
       rw[if_pos rfl] at H
       obtain⟨K3,A7,H⟩:=bnd H
       have H':=Aside0.mk H
       clear H
       obtain⟨X2,Y2,R2,Z2,j3,n3,M0,N0,O0,P0,Q0,R0⟩:=jel HR0.out HB.out o0
       cases n3
       go_wp2_with (first | (go_at_call 24;(with_reducible refine(spec_ItemOk.calls k1 ((rd_T34 l0 o0).f0) ((rd_T34 l0 o0).f1) ((rd_T34 l0 o0).f2) _ _ ((rd_T34 l0 o0).f3) true _ ?side1 ?side2 A5.out).mono ?_);(case side1=>exact jcs R0.out);(case side2=>exact Q0.out);rintro e w8 ⟨rfl,hb⟩;replace HB:=Aside0.mk (zac bq hb);(try clear hb);(try clear hb2);(try clear hk);(try clear hi);have n2:0≤(o0:Int):=zad jab;have B2:o0<(l0.length:Int):=zad jab;obtain⟨L3,o4,t4,B4,H0,I0,J0,K0,O1,P1⟩:=at_T34 HR0.out o0 n2 B2;obtain rfl:R2=L3:=(by injection B4);replace H0:=jcB HB.out H0;replace I0:=jcB HB.out I0;replace J0:=jcB HB.out J0;replace K0:=jcB HB.out K0;have W3:=Aside0.mk P1;have X3:=Aside0.mk O1;clear P1 O1;replace n2:=zbr n2;replace B2:=zbr B2) | (go_at_call 19;(with_reducible refine(spec_Of.calls k1 _ _ l0 ((rd_T34 l0 o0).f0) K3 _ ?side1 ?side2 A7.out).mono ?_);(case side1=>exact jcs HR0.out);(case side2=>exact J4.out);rintro e w' ⟨rfl,⟨nd,rfl⟩⟩;(try first | exact⟨rfl,_,zao _ _ _⟩ | exact⟨rfl,_,zer (zao _ _ _) (zeo (World.drewN _) (zci _ _ _))⟩)))
       go_meet
       case rel=>exact⟨_,(decide (K3>4)),jer,H',⟨by have:=J2.out;first | omega | exact zaf _⟩,⟨bq⟩⟩
      replace c6:=zcp.mpr c6
      subst c6
      rw[if_neg (show ¬(false=true) by decide)] at H
      have H':=Aside0.mk H
      clear H
      obtain⟨X2,Y2,R2,Z2,j3,n3,M0,N0,O0,P0,Q0,R0⟩:=jel HR0.out HB.out o0
      cases n3
      go_wp2_with (first | (go_at_call 24;(with_reducible refine(spec_ItemOk.calls k1 ((rd_T34 l0 o0).f0) ((rd_T34 l0 o0).f1) ((rd_T34 l0 o0).f2) _ _ ((rd_T34 l0 o0).f3) false _ ?side1 ?side2 A5.out).mono ?_);(case side1=>exact jcs R0.out);(case side2=>exact Q0.out);rintro e w9 ⟨rfl,hb⟩;replace HB:=Aside0.mk (zac bq hb);(try clear hb);(try clear hb2);(try clear hk);(try clear hi)))
      go_meet
      case rel=>exact⟨_,(true),jer,H',⟨by have:=J2.out;first | omega | exact zaf _⟩,⟨bq⟩⟩
     rw[if_neg c4] at H
     exact absurd H (by simp)
    case rest=>
     clear j4
     try clear c2
     try clear V2
     try clear p2
     try clear c3
     try clear p3
     try clear q3
     try clear hx3
     try clear c4
     try clear K2
     try clear c6
     try clear M0
     try clear N0
     try clear O0
     try clear P0
     try clear H0
     try clear I0
     try clear J0
     try clear K0
     try clear X2
     try clear n2
     try clear Y2
     try clear B2
     obtain⟨kq,N1,rfl,HA,T2,HB⟩:=hcut
     cases kq with
     | zero=>exact absurd HA.out (by simp [spec_QueueOk.j1])
     | succ kj2=>
      have H:=HA.out
      clear HA
      simp only[spec_QueueOk.j1] at H
      by_cases c10:N1=true
      ·subst c10
       rw[if_pos rfl] at H
       obtain rfl:=Option.some.inj H
       go_wp2
       go_ret
       exact⟨jex,bq⟩
      replace c10:=zcp.mpr c10
      subst c10
      rw[if_neg (show ¬(false=true) by decide)] at H
      have H':=Aside0.mk H
      clear H
      go_wp2
      go_loopg [4] kj2 (fun kq v4 w'=>∃ (D0:Int),v4= .int .i64 D0∧Aside0 (spec_QueueOk.l1 kq l0 o0 D0=some r)∧Aside0 (kq≤kj2)∧Aside0 (Below w.heap.size w w'))
      case atStart=>exact⟨(0),jer,H',⟨zaf _⟩,⟨bq⟩⟩
      case round=>
       clear H'
       try clear c1
       try clear c2
       try clear V2
       try clear p2
       try clear c3
       try clear p3
       try clear q3
       try clear hx3
       try clear c4
       try clear K2
       try clear c6
       try clear c10
       try clear M0
       try clear N0
       try clear O0
       try clear P0
       try clear H0
       try clear I0
       try clear J0
       try clear K0
       try clear p2
       try clear p3
       try clear X2
       try clear n2
       try clear q3
       try clear Y2
       try clear B2
       obtain⟨D0,rfl,HA,U2,HB⟩:=hrel
       cases gk with
       | zero=>exact absurd HA.out (by simp [spec_QueueOk.l1])
       | succ k3=>
        have H:=HA.out
        clear HA
        simp only[spec_QueueOk.l1] at H
        by_cases I3:D0<o0
        ·rw[if_pos I3] at H
         have M3:=zae I3
         clear I3
         by_cases c12:0≤D0
         ·rw[if_pos c12] at H
          have F4:=zae c12
          clear c12
          by_cases c13:D0<(l0.length:Int)
          ·rw[if_pos c13] at H
           have G4:=zae c13
           clear c13
           by_cases Y3:0≤o0
           ·rw[if_pos Y3] at H
            have H4:=zae Y3
            clear Y3
            by_cases Z3:o0<(l0.length:Int)
            ·rw[if_pos Z3] at H
             have I4:=zae Z3
             clear Z3
             by_cases o3:((rd_T34 l0 D0).f0).toList=((rd_T34 l0 o0).f0).toList
             ·rw[if_pos o3] at H
              have N3:=beqT o3
              have O3:=zbb.mpr o3
              clear o3
              by_cases t3:((rd_T34 l0 D0).f1)=((rd_T34 l0 o0).f1)
              ·rw[if_pos t3] at H
               have P3:=beqT t3
               have Q3:=zbb.mpr t3
               clear t3
               by_cases J3:((rd_T34 l0 o0).f1)>0
               ·rw[if_pos J3] at H
                have R3:=zae J3
                clear J3
                obtain rfl:=Option.some.inj H
                obtain⟨B3,C3,B0,G1,H1,I1,S0,T0,U0,E0,V0,W0⟩:=jel HR0.out HB.out D0
                cases I1
                obtain⟨D3,E3,L0,J1,K1,M1,X0,Y0,Z0,C0,n1,C1⟩:=jel HR0.out HB.out o0
                obtain rfl:B0=L0:=(by injection M1)
                obtain⟨S3,T3,E1,C2,D2,E2,Q1,R1,S1,F0,U1,V1⟩:=jel HR0.out HB.out D0
                obtain rfl:B0=E1:=(by injection E2)
                have ea_:=Option.some.inj (E0.symm.trans F0)
                injection ea_ with ea_ en_ ec_
                subst ea_
                subst ec_
                clear en_
                obtain⟨U3,V3,F1,F2,G2,H2,X1,Y1,Z1,G0,j2,k2⟩:=jel HR0.out HB.out o0
                obtain rfl:B0=F1:=(by injection H2)
                have ea_:=Option.some.inj (C0.symm.trans G0)
                injection ea_ with ea_ en_ ec_
                subst ea_
                subst ec_
                clear en_
                obtain⟨C4,D4,I2,F3,G3,H3,M2,N2,O2,D1,P2,Q2⟩:=jel HR0.out HB.out o0
                obtain rfl:B0=I2:=(by injection H3)
                have ea_:=Option.some.inj (C0.symm.trans D1)
                injection ea_ with ea_ en_ ec_
                subst ea_
                subst ec_
                clear en_
                go_wp2
                repeat(go_quiet (fail);try go_wp2)
                go_ret
                exact⟨jex,bq⟩
               rw[if_neg J3] at H
               have R3:=zbf J3
               clear J3
               have H':=Aside0.mk H
               clear H
               obtain⟨B3,C3,B0,G1,H1,I1,S0,T0,U0,E0,V0,W0⟩:=jel HR0.out HB.out D0
               cases I1
               obtain⟨D3,E3,L0,J1,K1,M1,X0,Y0,Z0,C0,n1,C1⟩:=jel HR0.out HB.out o0
               obtain rfl:B0=L0:=(by injection M1)
               obtain⟨S3,T3,E1,C2,D2,E2,Q1,R1,S1,F0,U1,V1⟩:=jel HR0.out HB.out D0
               obtain rfl:B0=E1:=(by injection E2)
               have ea_:=Option.some.inj (E0.symm.trans F0)
               injection ea_ with ea_ en_ ec_
               subst ea_
               subst ec_
               clear en_
               obtain⟨U3,V3,F1,F2,G2,H2,X1,Y1,Z1,G0,j2,k2⟩:=jel HR0.out HB.out o0
               obtain rfl:B0=F1:=(by injection H2)
               have ea_:=Option.some.inj (C0.symm.trans G0)
               injection ea_ with ea_ en_ ec_
               subst ea_
               subst ec_
               clear en_
               obtain⟨C4,D4,I2,F3,G3,H3,M2,N2,O2,D1,P2,Q2⟩:=jel HR0.out HB.out o0
               obtain rfl:B0=I2:=(by injection H3)
               have ea_:=Option.some.inj (C0.symm.trans D1)
               injection ea_ with ea_ en_ ec_
               subst ea_
               subst ec_
               clear en_
               go_wp2
               repeat(go_quiet (fail);try go_wp2)
               go_roundg k3
               case measure=>have:=J2.out;have:=T2.out;have:=U2.out;omega
               case rel=>exact⟨(wrap64 (D0+1)),jer,H',⟨by have:=J2.out;have:=T2.out;have:=U2.out;omega⟩,⟨bq⟩⟩
              rw[if_neg t3] at H
              have P3:=zau.mpr t3
              have Q3:=zcz.mpr t3
              have H':=Aside0.mk H
              clear H
              obtain⟨B3,C3,B0,G1,H1,I1,S0,T0,U0,E0,V0,W0⟩:=jel HR0.out HB.out D0
              cases I1
              obtain⟨D3,E3,L0,J1,K1,M1,X0,Y0,Z0,C0,n1,C1⟩:=jel HR0.out HB.out o0
              obtain rfl:B0=L0:=(by injection M1)
              obtain⟨S3,T3,E1,C2,D2,E2,Q1,R1,S1,F0,U1,V1⟩:=jel HR0.out HB.out D0
              obtain rfl:B0=E1:=(by injection E2)
              have ea_:=Option.some.inj (E0.symm.trans F0)
              injection ea_ with ea_ en_ ec_
              subst ea_
              subst ec_
              clear en_
              obtain⟨U3,V3,F1,F2,G2,H2,X1,Y1,Z1,G0,j2,k2⟩:=jel HR0.out HB.out o0
              obtain rfl:B0=F1:=(by injection H2)
              have ea_:=Option.some.inj (C0.symm.trans G0)
              injection ea_ with ea_ en_ ec_
              subst ea_
              subst ec_
              clear en_
              go_wp2
              repeat(go_quiet (fail);try go_wp2)
              go_roundg k3
              case measure=>have:=J2.out;have:=T2.out;have:=U2.out;omega
              case rel=>exact⟨(wrap64 (D0+1)),jer,H',⟨by have:=J2.out;have:=T2.out;have:=U2.out;omega⟩,⟨bq⟩⟩
             rw[if_neg o3] at H
             have N3:=zau.mpr o3
             have O3:=zcz.mpr o3
             have H':=Aside0.mk H
             clear H
             obtain⟨B3,C3,B0,G1,H1,I1,S0,T0,U0,E0,V0,W0⟩:=jel HR0.out HB.out D0
             cases I1
             obtain⟨D3,E3,L0,J1,K1,M1,X0,Y0,Z0,C0,n1,C1⟩:=jel HR0.out HB.out o0
             obtain rfl:B0=L0:=(by injection M1)
             go_wp2
             repeat(go_quiet (fail);try go_wp2)
             go_roundg k3
             case measure=>have:=J2.out;have:=T2.out;have:=U2.out;omega
             case rel=>exact⟨(wrap64 (D0+1)),jer,H',⟨by have:=J2.out;have:=T2.out;have:=U2.out;omega⟩,⟨bq⟩⟩
            rw[if_neg Z3] at H
            exact absurd H (by simp)
           rw[if_neg Y3] at H
           exact absurd H (by simp)
          rw[if_neg c13] at H
          exact absurd H (by simp)
         rw[if_neg c12] at H
         exact absurd H (by simp)
        rw[if_neg I3] at H
        have M3:=zbf I3
        clear I3
        have H':=Aside0.mk H
        clear H
        go_wp2
        go_roundg k3
        case measure=>have:=J2.out;have:=T2.out;have:=U2.out;omega
        case rel=>exact⟨(wrap64 (o0+1)),jer,H',⟨by have:=J2.out;have:=T2.out;have:=U2.out;omega⟩,⟨bq⟩⟩
   rw[if_neg c2] at H
   have V2:=zbf c2
   clear c2
   obtain rfl:=Option.some.inj H
   go_wp2
   go_ret
   exact⟨jex,bq⟩
end Go.Proofs.Ytlalkldjpniakaa.P
