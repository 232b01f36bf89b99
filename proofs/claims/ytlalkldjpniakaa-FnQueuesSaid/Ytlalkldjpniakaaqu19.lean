import Derived.Test.Ytlalkldjpniakaaqu9
import Derived.Test.Ytlalkldjpniakaaqu12
import Derived.Test.Ytlalkldjpniakaaqu17
namespace Go.Proofs.Ytlalkldjpniakaa.P
open Go.RowKit Go.Proofs.YtlalkldjpniakaaW.PrintWords Go.Proofs.YtlalkldjpniakaaW.PrintLast Go.Proofs.YtlalkldjpniakaaW.PrintMore
attribute [local go_sem] zbr zbs zch zci zbk zbl zbt zbu -- for this text's walks alone
set_option linter.unusedVariables false
set_option linter.unusedSimpArgs false

mutual
def spec_QueueOk.l0:Nat→List (S34)→Int→Option (Bool)
 | 0,_,_=>none
 | k+1,x0,x3=>if x3<(x0.length:Int) then(if 0≤x3 then((spec_ItemOk.f k ((rd_T34 x0 x3).f0) ((rd_T34 x0 x3).f1) ((rd_T34 x0 x3).f2) ((rd_T34 x0 x3).f3)).bind fun t377=>(if t377=true then((spec_Of.f k x0 ((rd_T34 x0 x3).f0)).bind fun t379=>(spec_QueueOk.j1 k x0 x3 (decide (t379>4)))) else(spec_QueueOk.j1 k x0 x3 true))) else(none)) else(some (decide ((x0.length:Int)≤10)))
def spec_QueueOk.j1:Nat→List (S34)→Int→Bool→Option (Bool)
 | 0,_,_,_=>none
 | k+1,x0,x3,x26=>if x26=true then(some false) else(spec_QueueOk.l1 k x0 x3 0)
def spec_QueueOk.l1:Nat→List (S34)→Int→Int→Option (Bool)
 | 0,_,_,_=>none
 | k+1,x0,x3,x4=>if x4<x3 then(if 0≤x4 then(if x4<(x0.length:Int) then(if 0≤x3 then(if x3<(x0.length:Int) then(if((rd_T34 x0 x4).f0).toList=((rd_T34 x0 x3).f0).toList then(if((rd_T34 x0 x4).f1)=((rd_T34 x0 x3).f1) then(if((rd_T34 x0 x3).f1)>0 then(some false) else(spec_QueueOk.l1 k x0 x3 (wrap64 (x4+1)))) else(spec_QueueOk.l1 k x0 x3 (wrap64 (x4+1)))) else(spec_QueueOk.l1 k x0 x3 (wrap64 (x4+1)))) else(none)) else(none)) else(none)) else(none)) else(spec_QueueOk.l0 k x0 (wrap64 (x3+1)))
end
def spec_QueueOk.f (k:Nat) (l0:List (S34)):Option (Bool):=spec_QueueOk.l0 k l0 0
theorem spec_QueueOk.mono_l:∀ k,(∀ y0 y1,LeO (spec_QueueOk.l0 k y0 y1) (spec_QueueOk.l0 (k+1) y0 y1))∧(∀ y0 y1 y2,LeO (spec_QueueOk.j1 k y0 y1 y2) (spec_QueueOk.j1 (k+1) y0 y1 y2))∧(∀ y0 y1 y2,LeO (spec_QueueOk.l1 k y0 y1 y2) (spec_QueueOk.l1 (k+1) y0 y1 y2))
 | 0=>⟨fun _ _ r h=>by simp [spec_QueueOk.l0] at h,fun _ _ _ r h=>by simp [spec_QueueOk.j1] at h,fun _ _ _ r h=>by simp [spec_QueueOk.l1] at h⟩
 | k+1=>by
  obtain⟨ih0,ih1,ih2⟩:=spec_QueueOk.mono_l k
  refine⟨?_,?_,?_⟩
  ·intro y0 y1
   unfold spec_QueueOk.l0
   have m0:=@spec_ItemOk.mono
   have m1:=@spec_Of.mono
   exact mt
  ·intro y0 y1 y2
   unfold spec_QueueOk.j1
   have m0:=@spec_ItemOk.mono
   have m1:=@spec_Of.mono
   exact mt
  intro y0 y1 y2
  unfold spec_QueueOk.l1
  have m0:=@spec_ItemOk.mono
  have m1:=@spec_Of.mono
  exact mt
theorem spec_QueueOk.mono:∀ a0 k,LeO (spec_QueueOk.f k a0) (spec_QueueOk.f (k+1) a0):=by
 intro a0 k
 obtain⟨ih0,ih1,ih2⟩:=spec_QueueOk.mono_l k
 unfold spec_QueueOk.f
 have m0:=@spec_ItemOk.mono
 have m1:=@spec_Of.mono
 exact mt
set_option maxHeartbeats 8000000 in
set_option maxRecDepth 100000 in
theorem spec_QueueOk.calls (k:Nat) (A0:Option Addr) (c0:Nat) (l0:List (S34)) (r:Bool) (w:World) (hr0:Kd.C k34 w A0 l0.length l0) (hc0:l0.length≤c0) (h:spec_QueueOk.f k l0=some r):
  Calls Try.prog 42 #[.slice A0 l0.length c0] w fun e w'=>e= .returned (.bool r)∧Below w.heap.size w w':=by
 have hu34:=Try.underlying34
 have HR0:=Aside0.mk hr0
 have HC0:=Aside0.mk hc0
 clear hr0 hc0
 have HB:=Aside0.mk (zbe w.heap.size w)
 have H:(spec_QueueOk.l0 k l0 0)=some r:=h
 clear h
 have H':=Aside0.mk H
 clear H
 go_enter Try.func42,Try.ntmps42
 go_wp2
 go_loopg [3] k (fun kq v3 w'=>∃ (x3_1:Int),v3= .int .i64 x3_1∧Aside0 (spec_QueueOk.l0 kq l0 x3_1=some r)∧Aside0 (kq≤k)∧Aside0 (Below w.heap.size w w'))
 case atStart=>exact⟨(0),jer,H',⟨zbc _⟩,⟨bq⟩⟩
 case round=>
  clear H'
  obtain⟨x3_1,rfl,HA,HK1,HB⟩:=hrel
  cases gk with
  | zero=>exact absurd HA.out (by simp [spec_QueueOk.l0])
  | succ k1=>
   have H:=HA.out
   clear HA
   simp only[spec_QueueOk.l0] at H
   by_cases c2:x3_1<(l0.length:Int)
   ·rw[if_pos c2] at H
    have c2b0:=zag c2
    clear c2
    have HC3:=Aside0.mk H
    clear H
    go_upto_region 4 with (fail)
    go_cut [26] (fun v26 wc=>∃ (kq:Nat) (x26_2:Bool),v26= .bool x26_2∧Aside0 (spec_QueueOk.j1 kq l0 x3_1 x26_2=some r)∧Aside0 (kq≤k1)∧Aside0 (Below w.heap.size w wc))
    case first=>
     have H:=HC3.out
     clear HC3
     by_cases c4:0≤x3_1
     ·rw[if_pos c4] at H
      have c4b0:=zag c4
      clear c4
      (first | rw[c4b0] | (simp only[i64_w,i32_w];rw[c4b0]) | skip)
      obtain⟨t377,A5,H⟩:=bnd H
      by_cases c6:t377=true
      ·subst c6
       rw[if_pos rfl] at H
       obtain⟨t379,A7,H⟩:=bnd H
       have H':=Aside0.mk H
       clear H
       obtain⟨p376,q376,ad376,A376_3,c376_3,e376,hx376_0,hx376_1,hx376_2,hx376_3,HC376_3,HR376_3⟩:=jel HR0.out HB.out x3_1
       cases e376
       go_wp2_with (first | (go_at_call 24;(with_reducible refine(spec_ItemOk.calls k1 ((rd_T34 l0 x3_1).f0) ((rd_T34 l0 x3_1).f1) ((rd_T34 l0 x3_1).f2) _ _ ((rd_T34 l0 x3_1).f3) true _ ?side1 ?side2 A5.out).mono ?_);(case side1=>exact jcs HR376_3.out);(case side2=>exact HC376_3.out);rintro e w8 ⟨rfl,hb⟩;replace HB:=Aside0.mk (zah bq hb);(try clear hb);(try clear hb2);(try clear hk);(try clear hi);have p378:0≤(x3_1:Int):=zac jab;have q378:x3_1<(l0.length:Int):=zac jab;obtain⟨ad378,A378_3,c378_3,e378,hx378_0,hx378_1,hx378_2,hx378_3,hl378_3,hi378_3⟩:=at_T34 HR0.out x3_1 p378 q378;obtain rfl:ad376=ad378:=(by injection e378);replace hx378_0:=jcB HB.out hx378_0;replace hx378_1:=jcB HB.out hx378_1;replace hx378_2:=jcB HB.out hx378_2;replace hx378_3:=jcB HB.out hx378_3;have HR378_3:=Aside0.mk hi378_3;have HC378_3:=Aside0.mk hl378_3;clear hi378_3 hl378_3;replace p378:=zbd p378;replace q378:=zbd q378) | (go_at_call 19;(with_reducible refine(spec_Of.calls k1 _ _ l0 ((rd_T34 l0 x3_1).f0) t379 _ ?side1 ?side2 A7.out).mono ?_);(case side1=>exact jcs HR0.out);(case side2=>exact HC0.out);rintro e w' ⟨rfl,⟨nd,rfl⟩⟩;(try first | exact⟨rfl,_,zaf _ _ _⟩ | exact⟨rfl,_,zcr (zaf _ _ _) (zcs (World.drewN _) (zbi _ _ _))⟩)))
       go_meet
       case rel=>exact⟨_,(decide (t379>4)),jer,H',⟨by have:=HK1.out;first | omega | exact zbc _⟩,⟨bq⟩⟩
      replace c6:=zcd.mpr c6
      subst c6
      rw[if_neg (show ¬(false=true) by decide)] at H
      have H':=Aside0.mk H
      clear H
      obtain⟨p376,q376,ad376,A376_3,c376_3,e376,hx376_0,hx376_1,hx376_2,hx376_3,HC376_3,HR376_3⟩:=jel HR0.out HB.out x3_1
      cases e376
      go_wp2_with (first | (go_at_call 24;(with_reducible refine(spec_ItemOk.calls k1 ((rd_T34 l0 x3_1).f0) ((rd_T34 l0 x3_1).f1) ((rd_T34 l0 x3_1).f2) _ _ ((rd_T34 l0 x3_1).f3) false _ ?side1 ?side2 A5.out).mono ?_);(case side1=>exact jcs HR376_3.out);(case side2=>exact HC376_3.out);rintro e w9 ⟨rfl,hb⟩;replace HB:=Aside0.mk (zah bq hb);(try clear hb);(try clear hb2);(try clear hk);(try clear hi)))
      go_meet
      case rel=>exact⟨_,(true),jer,H',⟨by have:=HK1.out;first | omega | exact zbc _⟩,⟨bq⟩⟩
     rw[if_neg c4] at H
     exact absurd H (by simp)
    case rest=>
     clear HC3
     try clear c2
     try clear c2b0
     try clear p2
     try clear c3
     try clear p3
     try clear q3
     try clear hx3
     try clear c4
     try clear c4b0
     try clear c6
     try clear hx376_0
     try clear hx376_1
     try clear hx376_2
     try clear hx376_3
     try clear hx378_0
     try clear hx378_1
     try clear hx378_2
     try clear hx378_3
     try clear p376
     try clear p378
     try clear q376
     try clear q378
     obtain⟨kq,x26_2,rfl,HA,HJ2,HB⟩:=hcut
     cases kq with
     | zero=>exact absurd HA.out (by simp [spec_QueueOk.j1])
     | succ kj2=>
      have H:=HA.out
      clear HA
      simp only[spec_QueueOk.j1] at H
      by_cases c10:x26_2=true
      ·subst c10
       rw[if_pos rfl] at H
       obtain rfl:=Option.some.inj H
       go_wp2
       go_ret
       exact⟨jex,bq⟩
      replace c10:=zcd.mpr c10
      subst c10
      rw[if_neg (show ¬(false=true) by decide)] at H
      have H':=Aside0.mk H
      clear H
      go_wp2
      go_loopg [4] kj2 (fun kq v4 w'=>∃ (x4_3:Int),v4= .int .i64 x4_3∧Aside0 (spec_QueueOk.l1 kq l0 x3_1 x4_3=some r)∧Aside0 (kq≤kj2)∧Aside0 (Below w.heap.size w w'))
      case atStart=>exact⟨(0),jer,H',⟨zbc _⟩,⟨bq⟩⟩
      case round=>
       clear H'
       try clear c1
       try clear c2
       try clear c2b0
       try clear p2
       try clear c3
       try clear p3
       try clear q3
       try clear hx3
       try clear c4
       try clear c4b0
       try clear c6
       try clear c10
       try clear hx376_0
       try clear hx376_1
       try clear hx376_2
       try clear hx376_3
       try clear hx378_0
       try clear hx378_1
       try clear hx378_2
       try clear hx378_3
       try clear p2
       try clear p3
       try clear p376
       try clear p378
       try clear q3
       try clear q376
       try clear q378
       obtain⟨x4_3,rfl,HA,HK3,HB⟩:=hrel
       cases gk with
       | zero=>exact absurd HA.out (by simp [spec_QueueOk.l1])
       | succ k3=>
        have H:=HA.out
        clear HA
        simp only[spec_QueueOk.l1] at H
        by_cases c11:x4_3<x3_1
        ·rw[if_pos c11] at H
         have c11b0:=zag c11
         clear c11
         by_cases c12:0≤x4_3
         ·rw[if_pos c12] at H
          have c12b0:=zag c12
          clear c12
          by_cases c13:x4_3<(l0.length:Int)
          ·rw[if_pos c13] at H
           have c13b0:=zag c13
           clear c13
           by_cases c14:0≤x3_1
           ·rw[if_pos c14] at H
            have c14b0:=zag c14
            clear c14
            by_cases c15:x3_1<(l0.length:Int)
            ·rw[if_pos c15] at H
             have c15b0:=zag c15
             clear c15
             by_cases c16:((rd_T34 l0 x4_3).f0).toList=((rd_T34 l0 x3_1).f0).toList
             ·rw[if_pos c16] at H
              have c16b0:=beqT c16
              have c16b1:=zbj.mpr c16
              clear c16
              by_cases c17:((rd_T34 l0 x4_3).f1)=((rd_T34 l0 x3_1).f1)
              ·rw[if_pos c17] at H
               have c17b0:=beqT c17
               have c17b1:=zbj.mpr c17
               clear c17
               by_cases c18:((rd_T34 l0 x3_1).f1)>0
               ·rw[if_pos c18] at H
                have c18b0:=zag c18
                clear c18
                obtain rfl:=Option.some.inj H
                obtain⟨p380,q380,ad380,A380_3,c380_3,e380,hx380_0,hx380_1,hx380_2,hx380_3,HC380_3,HR380_3⟩:=jel HR0.out HB.out x4_3
                cases e380
                obtain⟨p381,q381,ad381,A381_3,c381_3,e381,hx381_0,hx381_1,hx381_2,hx381_3,HC381_3,HR381_3⟩:=jel HR0.out HB.out x3_1
                obtain rfl:ad380=ad381:=(by injection e381)
                obtain⟨p382,q382,ad382,A382_3,c382_3,e382,hx382_0,hx382_1,hx382_2,hx382_3,HC382_3,HR382_3⟩:=jel HR0.out HB.out x4_3
                obtain rfl:ad380=ad382:=(by injection e382)
                have ea_:=Option.some.inj (hx380_3.symm.trans hx382_3)
                injection ea_ with ea_ en_ ec_
                subst ea_
                subst ec_
                clear en_
                obtain⟨p383,q383,ad383,A383_3,c383_3,e383,hx383_0,hx383_1,hx383_2,hx383_3,HC383_3,HR383_3⟩:=jel HR0.out HB.out x3_1
                obtain rfl:ad380=ad383:=(by injection e383)
                have ea_:=Option.some.inj (hx381_3.symm.trans hx383_3)
                injection ea_ with ea_ en_ ec_
                subst ea_
                subst ec_
                clear en_
                obtain⟨p384,q384,ad384,A384_3,c384_3,e384,hx384_0,hx384_1,hx384_2,hx384_3,HC384_3,HR384_3⟩:=jel HR0.out HB.out x3_1
                obtain rfl:ad380=ad384:=(by injection e384)
                have ea_:=Option.some.inj (hx381_3.symm.trans hx384_3)
                injection ea_ with ea_ en_ ec_
                subst ea_
                subst ec_
                clear en_
                go_wp2
                repeat(go_quiet (fail);try go_wp2)
                go_ret
                exact⟨jex,bq⟩
               rw[if_neg c18] at H
               have c18b0:=zaw c18
               clear c18
               have H':=Aside0.mk H
               clear H
               obtain⟨p380,q380,ad380,A380_3,c380_3,e380,hx380_0,hx380_1,hx380_2,hx380_3,HC380_3,HR380_3⟩:=jel HR0.out HB.out x4_3
               cases e380
               obtain⟨p381,q381,ad381,A381_3,c381_3,e381,hx381_0,hx381_1,hx381_2,hx381_3,HC381_3,HR381_3⟩:=jel HR0.out HB.out x3_1
               obtain rfl:ad380=ad381:=(by injection e381)
               obtain⟨p382,q382,ad382,A382_3,c382_3,e382,hx382_0,hx382_1,hx382_2,hx382_3,HC382_3,HR382_3⟩:=jel HR0.out HB.out x4_3
               obtain rfl:ad380=ad382:=(by injection e382)
               have ea_:=Option.some.inj (hx380_3.symm.trans hx382_3)
               injection ea_ with ea_ en_ ec_
               subst ea_
               subst ec_
               clear en_
               obtain⟨p383,q383,ad383,A383_3,c383_3,e383,hx383_0,hx383_1,hx383_2,hx383_3,HC383_3,HR383_3⟩:=jel HR0.out HB.out x3_1
               obtain rfl:ad380=ad383:=(by injection e383)
               have ea_:=Option.some.inj (hx381_3.symm.trans hx383_3)
               injection ea_ with ea_ en_ ec_
               subst ea_
               subst ec_
               clear en_
               obtain⟨p384,q384,ad384,A384_3,c384_3,e384,hx384_0,hx384_1,hx384_2,hx384_3,HC384_3,HR384_3⟩:=jel HR0.out HB.out x3_1
               obtain rfl:ad380=ad384:=(by injection e384)
               have ea_:=Option.some.inj (hx381_3.symm.trans hx384_3)
               injection ea_ with ea_ en_ ec_
               subst ea_
               subst ec_
               clear en_
               go_wp2
               repeat(go_quiet (fail);try go_wp2)
               go_roundg k3
               case measure=>have:=HK1.out;have:=HJ2.out;have:=HK3.out;omega
               case rel=>exact⟨(wrap64 (x4_3+1)),jer,H',⟨by have:=HK1.out;have:=HJ2.out;have:=HK3.out;omega⟩,⟨bq⟩⟩
              rw[if_neg c17] at H
              have c17b0:=zbb.mpr c17
              have c17b1:=zda.mpr c17
              have H':=Aside0.mk H
              clear H
              obtain⟨p380,q380,ad380,A380_3,c380_3,e380,hx380_0,hx380_1,hx380_2,hx380_3,HC380_3,HR380_3⟩:=jel HR0.out HB.out x4_3
              cases e380
              obtain⟨p381,q381,ad381,A381_3,c381_3,e381,hx381_0,hx381_1,hx381_2,hx381_3,HC381_3,HR381_3⟩:=jel HR0.out HB.out x3_1
              obtain rfl:ad380=ad381:=(by injection e381)
              obtain⟨p382,q382,ad382,A382_3,c382_3,e382,hx382_0,hx382_1,hx382_2,hx382_3,HC382_3,HR382_3⟩:=jel HR0.out HB.out x4_3
              obtain rfl:ad380=ad382:=(by injection e382)
              have ea_:=Option.some.inj (hx380_3.symm.trans hx382_3)
              injection ea_ with ea_ en_ ec_
              subst ea_
              subst ec_
              clear en_
              obtain⟨p383,q383,ad383,A383_3,c383_3,e383,hx383_0,hx383_1,hx383_2,hx383_3,HC383_3,HR383_3⟩:=jel HR0.out HB.out x3_1
              obtain rfl:ad380=ad383:=(by injection e383)
              have ea_:=Option.some.inj (hx381_3.symm.trans hx383_3)
              injection ea_ with ea_ en_ ec_
              subst ea_
              subst ec_
              clear en_
              go_wp2
              repeat(go_quiet (fail);try go_wp2)
              go_roundg k3
              case measure=>have:=HK1.out;have:=HJ2.out;have:=HK3.out;omega
              case rel=>exact⟨(wrap64 (x4_3+1)),jer,H',⟨by have:=HK1.out;have:=HJ2.out;have:=HK3.out;omega⟩,⟨bq⟩⟩
             rw[if_neg c16] at H
             have c16b0:=zbb.mpr c16
             have c16b1:=zda.mpr c16
             have H':=Aside0.mk H
             clear H
             obtain⟨p380,q380,ad380,A380_3,c380_3,e380,hx380_0,hx380_1,hx380_2,hx380_3,HC380_3,HR380_3⟩:=jel HR0.out HB.out x4_3
             cases e380
             obtain⟨p381,q381,ad381,A381_3,c381_3,e381,hx381_0,hx381_1,hx381_2,hx381_3,HC381_3,HR381_3⟩:=jel HR0.out HB.out x3_1
             obtain rfl:ad380=ad381:=(by injection e381)
             go_wp2
             repeat(go_quiet (fail);try go_wp2)
             go_roundg k3
             case measure=>have:=HK1.out;have:=HJ2.out;have:=HK3.out;omega
             case rel=>exact⟨(wrap64 (x4_3+1)),jer,H',⟨by have:=HK1.out;have:=HJ2.out;have:=HK3.out;omega⟩,⟨bq⟩⟩
            rw[if_neg c15] at H
            exact absurd H (by simp)
           rw[if_neg c14] at H
           exact absurd H (by simp)
          rw[if_neg c13] at H
          exact absurd H (by simp)
         rw[if_neg c12] at H
         exact absurd H (by simp)
        rw[if_neg c11] at H
        have c11b0:=zaw c11
        clear c11
        have H':=Aside0.mk H
        clear H
        go_wp2
        go_roundg k3
        case measure=>have:=HK1.out;have:=HJ2.out;have:=HK3.out;omega
        case rel=>exact⟨(wrap64 (x3_1+1)),jer,H',⟨by have:=HK1.out;have:=HJ2.out;have:=HK3.out;omega⟩,⟨bq⟩⟩
   rw[if_neg c2] at H
   have c2b0:=zaw c2
   clear c2
   obtain rfl:=Option.some.inj H
   go_wp2
   go_ret
   exact⟨jex,bq⟩
end Go.Proofs.Ytlalkldjpniakaa.P
/- The queue's function values once more, where what they have caught is told by its cells. -/
namespace Go.Proofs.Ytlalkldjpniakaa.P
open Go.RowKit Go.Proofs.YtlalkldjpniakaaW.PrintWords Go.Proofs.YtlalkldjpniakaaW.PrintLast Go.Proofs.YtlalkldjpniakaaW.PrintMore
set_option linter.unusedVariables false
set_option linter.unusedSimpArgs false
theorem cell_same {w w':World} {g:Nat} {o:Obj} (h:w.heap[g]? =some o) (h':w'.heap[g]? =some o) (a:Addr) (e:a.block=g):w'.cell? a=w.cell? a:=by
  subst e
  simp [World.cell?,h,h']
theorem obj_of_cell {w:World} {a:Addr} {v:Value} (h:w.cell? a=some v):∃ o,w.heap[a.block]? =some o:=by
  have:=World.block_lt_of_cell? w a h
  exact⟨_,Array.getElem?_eq_getElem this⟩
theorem queue_pred2 (r:ByteArray) (t:Int) (gc:Nat) (o:Obj) (w0:World) (h0:w0.heap[gc]? =some o) (c0:w0.cell? ⟨gc,0,none⟩=some (.string r)) (c1:w0.cell? ⟨gc,1,none⟩=some (.int .i64 t)):PredI 100 #[.pointer (some ⟨gc,0,none⟩)] gc o (likeI r t):=by
  intro W x A c ho
  have h0:=(cell_same h0 ho ⟨gc,0,none⟩ rfl).trans c0
  have h1:=(cell_same (by assumption) ho ⟨gc,1,none⟩ rfl).trans c1
  have hlt:gc<W.heap.size:=(Array.getElem?_eq_some_iff.1 ho).1
  have hne:gc≠W.heap.size:=by omega
  have hu34:=Try.underlying34
  clear ho
  obtain⟨q0,q1,q2,q3⟩:=x
  show Calls Try.prog 100 #[.agg #[.string q0, .int .i64 q1, .int .i64 q2, .slice A q3.length c], .pointer (some ⟨gc,0,none⟩)] W fun e w'=>e= .returned (.bool (q0.toList==r.toList && q1==t))∧Below W.heap.size W w'
  cases e0:(q0.toList==r.toList) with
  | true=>
    cases e1:(q1==t) with
    | true=>
      go_enter Try.func100,Try.ntmps100
      go_wp2
      all_goals (go_ret;exact⟨by simp_all,(Below.refl _ W).alloc (Nat.le_refl _) _⟩)
    | false=>
      go_enter Try.func100,Try.ntmps100
      go_wp2
      all_goals (go_ret;exact⟨by simp_all,(Below.refl _ W).alloc (Nat.le_refl _) _⟩)
  | false=>
    go_enter Try.func100,Try.ntmps100
    go_wp2
    all_goals (go_ret;exact⟨by simp_all,(Below.refl _ W).alloc (Nat.le_refl _) _⟩)
end Go.Proofs.Ytlalkldjpniakaa.P
