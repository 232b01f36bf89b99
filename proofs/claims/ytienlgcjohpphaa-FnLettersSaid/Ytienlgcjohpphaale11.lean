import Derived.Test.Ytienlgcjohpphaale9
import Derived.Test.Ytienlgcjohpphaale10
namespace Go.Proofs.Ytienlgcjohpphaa.P
open Go.RowKit Go.Proofs.YtienlgcjohpphaaW.PrintWords Go.Proofs.YtienlgcjohpphaaW.PrintLast Go.Proofs.YtienlgcjohpphaaW.PrintMore
attribute [local go_sem] zcn zco zdk zdl zce zcf zcp zcq -- for this text's walks alone
set_option linter.unusedVariables false
set_option linter.unusedSimpArgs false
set_option maxHeartbeats 8000000
set_option maxRecDepth 100000

def spec_l3More.l0:Nat→List Int→Int→Option (List Int)
 | 0,_,_=>none
 | k+1,x3,x4=>if x4<64 then(if 0≤(wrap64 (x4 - 2)) then(if(wrap64 (x4 - 2))<(x3.length:Int) then((spec_l3Mix.f (rd x3 (wrap64 (x4 - 2))) 17 19 10 true).bind fun t130=>(if 0≤(wrap64 (x4 - 7)) then(if(wrap64 (x4 - 7))<(x3.length:Int) then(if 0≤(wrap64 (x4 - 15)) then(if(wrap64 (x4 - 15))<(x3.length:Int) then((spec_l3Mix.f (rd x3 (wrap64 (x4 - 15))) 7 18 3 true).bind fun t133=>(if 0≤(wrap64 (x4 - 16)) then(if(wrap64 (x4 - 16))<(x3.length:Int) then((spec_Word.f (wrap64 ((wrap64 ((wrap64 (t130+(rd x3 (wrap64 (x4 - 7)))))+t133))+(rd x3 (wrap64 (x4 - 16)))))).bind fun t135=>(if x3.length<17592186044416 then(spec_l3More.l0 k (x3++[t135]) (wrap64 (x4+1))) else(none))) else(none)) else(none))) else(none)) else(none)) else(none)) else(none))) else(none)) else(none)) else(some x3)
def spec_l3More.f (k:Nat) (l0:List Int):Option (List Int):=(spec_Words.f k l0 true).bind fun t126=>(spec_l3More.l0 k t126 16)
theorem spec_l3More.mono_l:∀ k,(∀ y0 y1,LeO (spec_l3More.l0 k y0 y1) (spec_l3More.l0 (k+1) y0 y1))
 | 0=>fun _ _ r h=>by simp [spec_l3More.l0] at h
 | k+1=>by
  have ih0:=spec_l3More.mono_l k
  intro y0 y1
  unfold spec_l3More.l0
  have m0:=@spec_Words.mono
  exact mt
theorem spec_l3More.mono:∀ a0 k,LeO (spec_l3More.f k a0) (spec_l3More.f (k+1) a0):=by
 intro a0 k
 have ih0:=spec_l3More.mono_l k
 unfold spec_l3More.f
 have m0:=@spec_Words.mono
 exact mt
def spec_l3More.T5:Bool×List (List Nat×List Nat):=(true,[([],[]),([],[]),([],[]),([2],[2]),([1,3],[1,3]),([4],[4]),([5],[5]),([],[]),([],[]),([8],[8]),([7,9],[7,9]),([10],[10]),([6,11],[6,11]),([],[]),([],[]),([14],[14]),([13,15],[13,15]),([16],[16]),([17,6],[17]),([12,18],[12,18]),([],[]),([],[]),([21],[21]),([20,22],[20,22]),([23],[23]),([19,24],[19,24]),([25,18],[25]),([26],[26]),([0,27,26],[0,27]),([28,28,0,1,2,3,4,5,6,7,8,9,10,11,12,13,14,15,16,17,18,19,20,21,22,23,24,25,26,27,28],[0,1,7,13,20,28])])
def spec_l3More.B5:List Nat:=[0,0,0,4,14,30,62,0,0,256,896,1920,4094,0,0,16384,57344,122880,254078,524286,0,0,2097152,7340032,15728640,33554430,67108862,134217726,268435455,536870911]
theorem spec_l3More.tab5:rtab .any (opsOf Try.f67 5)=spec_l3More.T5:=by kernel_rfl
theorem spec_l3More.bits5:waitsOk spec_l3More.T5.2 spec_l3More.B5=true:=by kernel_rfl
theorem spec_l3More.calls (k:Nat) (A0:Option Addr) (c0:Nat) (l0:List Int) (r:List Int) (w:World) (hr0:Kd.C (Kd.int .u8) w A0 l0.length l0) (hc0:l0.length≤c0) (h:spec_l3More.f k l0=some r):
  Calls Try.prog 67 #[.slice A0 l0.length c0] w fun e w'=>∃ v0_:Value,e= .returned (v0_)∧Kd.R (Kd.int .i64) 3 w' w.heap.size (fun _=>True) v0_ r∧Below w.heap.size w w':=by
 have HR0:=Aside0.mk hr0
 have HC0:=Aside0.mk hc0
 clear hr0 hc0
 have HB:=Aside0.mk (zbk w.heap.size w)
 have H:((spec_Words.f k l0 true).bind fun t126=>(spec_l3More.l0 k t126 16))=some r:=h
 clear h
 obtain⟨t126,A2,H⟩:=bnd H
 have H':=Aside0.mk H
 clear H
 go_enter Try.func67,Try.ntmps67
 go_wp2_with (first | (refine jgc 100 ?_;refine jgs 6 Try.func100 #[.slice A0 l0.length c0, .bool true] ?_;(with_reducible refine(spec_Words.calls k _ _ l0 true t126 _ ?side1 ?side2 A2.out).mono ?_);(case side1=>repeat(first | exact HR0.out | (with_reducible first | apply zbs | apply zbt | apply zcg)));(case side2=>exact HC0.out);rintro e w3 ⟨v127,rfl,ho0,hb⟩;refine⟨_,rfl,?_⟩;have xb_:=below_ofs bq hb;have n_:=jA2 (zaq ho0 (zah xb_)) (zal xb_ hb);clear HB;obtain⟨HO128,HB⟩:=n_;clear xb_ hb ho0))
 go_loopg [3,4] k (fun kq v3 v4 w'=>∃ (x3_1:List Int) (x4_1:Int),v4= .int .i64 x4_1∧Aside0 (spec_l3More.l0 kq x3_1 x4_1=some r)∧Aside0 (kq≤k)∧Aside0 (Kd.R (Kd.int .i64) 3 w' w.heap.size (fun _=>True) v3 x3_1)∧Aside0 (Below w.heap.size w w'))
 case atStart=>exact⟨(t126),(16),jer,H',⟨zav _⟩,⟨pR HO128.out⟩,⟨bq⟩⟩
 case round=>
  clear H'
  try clear c1
  try clear p2
  obtain⟨x3_1,x4_1,rfl,HA,HK1,HO_3,HB⟩:=hrel
  cases gk with
  | zero=>exact absurd HA.out (by simp [spec_l3More.l0])
  | succ k1=>
   have H:=HA.out
   clear HA
   simp only[spec_l3More.l0] at H
   by_cases c4:x4_1<64
   ·rw[if_pos c4] at H
    have c4b0:=zab c4
    clear c4
    obtain⟨ji5,hji5⟩:∃ j_:Int,(wrap64 (x4_1 - 2))=j_:=⟨_,rfl⟩
    replace H:(if 0≤(ji5) then(if(ji5)<(x3_1.length:Int) then((spec_l3Mix.f (rd x3_1 (ji5)) 17 19 10 true).bind fun t130=>(if 0≤(wrap64 (x4_1 - 7)) then(if(wrap64 (x4_1 - 7))<(x3_1.length:Int) then(if 0≤(wrap64 (x4_1 - 15)) then(if(wrap64 (x4_1 - 15))<(x3_1.length:Int) then((spec_l3Mix.f (rd x3_1 (wrap64 (x4_1 - 15))) 7 18 3 true).bind fun t133=>(if 0≤(wrap64 (x4_1 - 16)) then(if(wrap64 (x4_1 - 16))<(x3_1.length:Int) then((spec_Word.f (wrap64 ((wrap64 ((wrap64 (t130+(rd x3_1 (wrap64 (x4_1 - 7)))))+t133))+(rd x3_1 (wrap64 (x4_1 - 16)))))).bind fun t135=>(if x3_1.length<17592186044416 then(spec_l3More.l0 k1 (x3_1++[t135]) (wrap64 (x4_1+1))) else(none))) else(none)) else(none))) else(none)) else(none)) else(none)) else(none))) else(none)) else(none))=some r:=by first | (rw[hji5] at H;exact H) | (simp only[hji5] at H ⊢;exact H)
    have hji5w:(IntKind.i64.wrap (x4_1 - 2))=ji5:=(i64_w _).trans hji5
    by_cases c6:0≤(ji5)
    ·rw[if_pos c6] at H
     have c6b0:=zab c6
     clear c6
     by_cases c7:(ji5)<(x3_1.length:Int)
     ·rw[if_pos c7] at H
      have c7b0:=zab c7
      clear c7
      obtain⟨t130,A8,H⟩:=bnd H
      obtain⟨ji9,hji9⟩:∃ j_:Int,(wrap64 (x4_1 - 7))=j_:=⟨_,rfl⟩
      replace H:(if 0≤(ji9) then(if(ji9)<(x3_1.length:Int) then(if 0≤(wrap64 (x4_1 - 15)) then(if(wrap64 (x4_1 - 15))<(x3_1.length:Int) then((spec_l3Mix.f (rd x3_1 (wrap64 (x4_1 - 15))) 7 18 3 true).bind fun t133=>(if 0≤(wrap64 (x4_1 - 16)) then(if(wrap64 (x4_1 - 16))<(x3_1.length:Int) then((spec_Word.f (wrap64 ((wrap64 ((wrap64 (t130+(rd x3_1 (ji9))))+t133))+(rd x3_1 (wrap64 (x4_1 - 16)))))).bind fun t135=>(if x3_1.length<17592186044416 then(spec_l3More.l0 k1 (x3_1++[t135]) (wrap64 (x4_1+1))) else(none))) else(none)) else(none))) else(none)) else(none)) else(none)) else(none))=some r:=by first | (rw[hji9] at H;exact H) | (simp only[hji9] at H ⊢;exact H)
      (try rw[hji9] at A8)
      have hji9w:(IntKind.i64.wrap (x4_1 - 7))=ji9:=(i64_w _).trans hji9
      by_cases c10:0≤(ji9)
      ·rw[if_pos c10] at H
       have c10b0:=zab c10
       clear c10
       by_cases c11:(ji9)<(x3_1.length:Int)
       ·rw[if_pos c11] at H
        have c11b0:=zab c11
        clear c11
        obtain⟨ji12,hji12⟩:∃ j_:Int,(wrap64 (x4_1 - 15))=j_:=⟨_,rfl⟩
        replace H:(if 0≤(ji12) then(if(ji12)<(x3_1.length:Int) then((spec_l3Mix.f (rd x3_1 (ji12)) 7 18 3 true).bind fun t133=>(if 0≤(wrap64 (x4_1 - 16)) then(if(wrap64 (x4_1 - 16))<(x3_1.length:Int) then((spec_Word.f (wrap64 ((wrap64 ((wrap64 (t130+(rd x3_1 (ji9))))+t133))+(rd x3_1 (wrap64 (x4_1 - 16)))))).bind fun t135=>(if x3_1.length<17592186044416 then(spec_l3More.l0 k1 (x3_1++[t135]) (wrap64 (x4_1+1))) else(none))) else(none)) else(none))) else(none)) else(none))=some r:=by first | (rw[hji12] at H;exact H) | (simp only[hji12] at H ⊢;exact H)
        (try rw[hji12] at A8)
        have hji12w:(IntKind.i64.wrap (x4_1 - 15))=ji12:=(i64_w _).trans hji12
        by_cases c13:0≤(ji12)
        ·rw[if_pos c13] at H
         have c13b0:=zab c13
         clear c13
         by_cases c14:(ji12)<(x3_1.length:Int)
         ·rw[if_pos c14] at H
          have c14b0:=zab c14
          clear c14
          obtain⟨t133,A15,H⟩:=bnd H
          obtain⟨ji16,hji16⟩:∃ j_:Int,(wrap64 (x4_1 - 16))=j_:=⟨_,rfl⟩
          replace H:(if 0≤(ji16) then(if(ji16)<(x3_1.length:Int) then((spec_Word.f (wrap64 ((wrap64 ((wrap64 (t130+(rd x3_1 (ji9))))+t133))+(rd x3_1 (ji16))))).bind fun t135=>(if x3_1.length<17592186044416 then(spec_l3More.l0 k1 (x3_1++[t135]) (wrap64 (x4_1+1))) else(none))) else(none)) else(none))=some r:=by first | (rw[hji16] at H;exact H) | (simp only[hji16] at H ⊢;exact H)
          (try rw[hji16] at A8)
          (try rw[hji16] at A15)
          have hji16w:(IntKind.i64.wrap (x4_1 - 16))=ji16:=(i64_w _).trans hji16
          by_cases c17:0≤(ji16)
          ·rw[if_pos c17] at H
           have c17b0:=zab c17
           clear c17
           by_cases c18:(ji16)<(x3_1.length:Int)
           ·rw[if_pos c18] at H
            have c18b0:=zab c18
            clear c18
            obtain⟨t135,A19,H⟩:=bnd H
            by_cases c20:x3_1.length<17592186044416
            ·rw[if_pos c20] at H
             have LMc20:=Aside0.mk c20
             clear c20
             obtain⟨y136,hy136⟩:∃ y_:List Int,y_=(x3_1++[t135]):=⟨_,rfl⟩
             replace H:(spec_l3More.l0 k1 y136 (wrap64 (x4_1+1)))=some r:=jrw hy136 H
             have Ny136:=Aside0.mk hy136
             clear hy136
             have H':=Aside0.mk H
             clear H
             try go_wp2
             have n_:=jA2 (zar HO_3.out) (zay HB.out)
             clear HO_3 HB
             obtain⟨HO_3,HB⟩:=n_
             obtain⟨Ao22,co22,eo22⟩:=zbb HO_3.out
             (first | subst eo22 | (injection eo22 with f1_ f2_ f3_;have f4_:=f1_.symm;have f5_:=f3_.symm;clear f1_ f2_ f3_;subst f4_;subst f5_))
             have p129:0≤((ji5):Int):=zad jab
             have q129:(ji5)<(x3_1.length:Int):=zad jab
             obtain⟨ad129,e129,hx129_0⟩:=zcd (zam HO_3.out).2.2 (ji5) p129 q129
             cases e129
             replace p129:=zas p129
             replace q129:=zas q129
             have p131:0≤((ji9):Int):=zad jab
             have q131:(ji9)<(x3_1.length:Int):=zad jab
             obtain⟨ad131,e131,hx131_0⟩:=zcd (zam HO_3.out).2.2 (ji9) p131 q131
             obtain rfl:ad129=ad131:=(by injection e131)
             replace p131:=zas p131
             replace q131:=zas q131
             have p132:0≤((ji12):Int):=zad jab
             have q132:(ji12)<(x3_1.length:Int):=zad jab
             obtain⟨ad132,e132,hx132_0⟩:=zcd (zam HO_3.out).2.2 (ji12) p132 q132
             obtain rfl:ad129=ad132:=(by injection e132)
             replace p132:=zas p132
             replace q132:=zas q132
             have p134:0≤((ji16):Int):=zad jab
             have q134:(ji16)<(x3_1.length:Int):=zad jab
             obtain⟨ad134,e134,hx134_0⟩:=zcd (zam HO_3.out).2.2 (ji16) p134 q134
             obtain rfl:ad129=ad134:=(by injection e134)
             replace p134:=zas p134
             replace q134:=zas q134
             refine start_ (n:=30) (S:=fun w'=>w'.cell? (ad129.add ((ji5)).toNat)=some (.int .i64 (rd x3_1 (ji5)))∧w'.cell? (ad129.add ((ji9)).toNat)=some (.int .i64 (rd x3_1 (ji9)))∧w'.cell? (ad129.add ((ji12)).toNat)=some (.int .i64 (rd x3_1 (ji12)))∧w'.cell? (ad129.add ((ji16)).toNat)=some (.int .i64 (rd x3_1 (ji16)))) (ds:=[27,28]) #[false,false,false,false,false,false,false,false,false,false,false,false,false,false,false,false,false,false,false,false,false,false,false,false,false,false,false,false,false,false] (by kernel_rfl) rfl rfl ⟨hx129_0,hx131_0,hx132_0,hx134_0⟩ (fun hHeld=>?_);refine zgh spec_l3More.tab5 spec_l3More.bits5 (fun HT_ HW_=>?_)
             generalize wr.drew=w21 at HO_3 HB hx129_0 hx131_0 hx132_0 hx134_0 hHeld ⊢
             refine pu 0 11 HT_.out ?_
             refine pu 1 12 HT_.out ?_
             refine pu 2 13 HT_.out ?_
             refine pu 3 14 HT_.out ?_
             refine pu 4 15 HT_.out ?_
             refine pu 7 18 HT_.out ?_
             refine pu 8 19 HT_.out ?_
             refine pu 9 20 HT_.out ?_
             refine pu 10 21 HT_.out ?_
             refine pu 13 24 HT_.out ?_
             refine pu 14 25 HT_.out ?_
             refine pu 15 26 HT_.out ?_
             refine pu 16 27 HT_.out ?_
             refine pu 20 31 HT_.out ?_
             refine pu 21 32 HT_.out ?_
             refine pu 22 33 HT_.out ?_
             refine pu 23 34 HT_.out ?_
             refine tk 5 16 HT_.out HW_.out hHeld ?_
             refine tk 11 22 HT_.out HW_.out hHeld ?_
             refine tk 17 28 HT_.out HW_.out hHeld ?_
             refine tk 24 35 HT_.out HW_.out hHeld ?_
             refine one_ (i:=6) (N:=some 17) #[true,true,true,true,true,true,true,true,true,true,true,true,false,true,true,true,true,true,false,false,true,true,true,true,true,false,false,false,false,false] rfl rfl (one_of HT_.out (by kernel_rfl)) (by decide) (fun K hK=>?_)
             refine goes_ Try.func70 (by kernel_rfl) rfl #[.int .i64 (rd x3_1 (ji5)), .int .i64 17, .int .i64 19, .int .i64 10, .bool true] (by rfl) rfl rfl (by(try simp only[zgr,List.map_cons,List.map_nil]);first | done | (simp only[hji5];rfl) | rfl | (simp only[zdb,zdc];rfl)) ?_
             with_reducible refine(spec_l3Mix.calls (rd x3_1 (ji5)) 17 19 10 true t130 _ A8.out).mono ?_
             rintro e w' ⟨rfl,⟨nd,rfl⟩⟩
             refine⟨_,rfl,?_⟩
             refine hK.out _ _ ⟨hHeld.1,hHeld.2.1,hHeld.2.2.1,hHeld.2.2.2⟩ (fun hHeld=>?_)
             clear hK K
             refine norm_ (a':=?_) ?_ ?_
             rotate_left
             ·show Act.put _ (some 17) _=_
              simp only[Act.put,zaa,zae,zaf,i64_w,i32_w]
              rfl
             refine pu 12 23 HT_.out ?_
             refine one_ (i:=18) (N:=some 29) #[true,true,true,true,true,true,true,true,true,true,true,true,true,true,true,true,true,true,true,false,true,true,true,true,true,false,false,false,false,false] rfl rfl (one_of HT_.out (by kernel_rfl)) (by decide) (fun K hK=>?_)
             refine goes_ Try.func70 (by kernel_rfl) rfl #[.int .i64 (rd x3_1 (ji12)), .int .i64 7, .int .i64 18, .int .i64 3, .bool true] (by rfl) rfl rfl (by(try simp only[zgr,List.map_cons,List.map_nil]);first | done | (simp only[hji12];rfl) | rfl | (simp only[zdb,zdc];rfl)) ?_
             with_reducible refine(spec_l3Mix.calls (rd x3_1 (ji12)) 7 18 3 true t133 _ A15.out).mono ?_
             rintro e w' ⟨rfl,⟨nd,rfl⟩⟩
             refine⟨_,rfl,?_⟩
             refine hK.out _ _ ⟨hHeld.1,hHeld.2.1,hHeld.2.2.1,hHeld.2.2.2⟩ (fun hHeld=>?_)
             clear hK K
             refine norm_ (a':=?_) ?_ ?_
             rotate_left
             ·show Act.put _ (some 29) _=_
              simp only[Act.put,zaa,zae,zaf,i64_w,i32_w]
              rfl
             refine pu 19 30 HT_.out ?_
             refine pu 25 36 HT_.out ?_
             refine one_ (i:=26) (N:=some 37) #[true,true,true,true,true,true,true,true,true,true,true,true,true,true,true,true,true,true,true,true,true,true,true,true,true,true,true,false,false,false] rfl rfl (one_of HT_.out (by kernel_rfl)) (by decide) (fun K hK=>?_)
             refine goes_ Try.func69 (by kernel_rfl) rfl #[.int .i64 (wrap64 ((wrap64 ((wrap64 (t130+(rd x3_1 (ji9))))+t133))+(rd x3_1 (ji16))))] (by rfl) rfl rfl (by(try simp only[zgr,List.map_cons,List.map_nil]);first | done | (simp only[hji16,hji9];rfl) | rfl | (simp only[zdb,zdc];rfl)) ?_
             with_reducible refine(spec_Word.calls (wrap64 ((wrap64 ((wrap64 (t130+(rd x3_1 (ji9))))+t133))+(rd x3_1 (ji16)))) t135 _ A19.out).mono ?_
             rintro e w' ⟨rfl,⟨nd,rfl⟩⟩
             refine⟨_,rfl,?_⟩
             refine hK.out _ _ ⟨hHeld.1,hHeld.2.1,hHeld.2.2.1,hHeld.2.2.2⟩ (fun hHeld=>?_)
             clear hK K
             refine norm_ (a':=?_) ?_ ?_
             rotate_left
             ·show Act.put _ (some 37) _=_
              simp only[Act.put,zaa,zae,zaf,i64_w,i32_w]
              rfl
             refine last_ (i:=27) (N:=some 38) #[true,true,true,true,true,true,true,true,true,true,true,true,true,true,true,true,true,true,true,true,true,true,true,true,true,true,true,true,false,false] rfl rfl (one_of HT_.out (by kernel_rfl)) (by decide) (fun K hK=>?_)
             refine value_ (w1:=?_) (v:=?_) (by rfl) rfl ?_ ?_
             rotate_left 2
             ·go_simp
              constructor
              ·rfl
              rfl
             refine hK.out _ _ ?_
             clear hK K
             refine norm_ (a':=?_) ?_ ?_
             rotate_left
             ·show Act.put _ (some 38) _=_
              simp only[Act.put,zaa,zae,zaf,i64_w,i32_w]
              rfl
             refine last_ (i:=28) (N:=some 39) #[true,true,true,true,true,true,true,true,true,true,true,true,true,true,true,true,true,true,true,true,true,true,true,true,true,true,true,true,true,false] rfl rfl (one_of HT_.out (by kernel_rfl)) (by decide) (fun K hK=>?_)
             refine Kd.R_append_step (Kd.int .i64) (w0:=w) w.heap.size (by rfl) (.tmp 11) (.tmp 38) 22 3 (.int .i64 0) 8 rfl Try.underlying22 info3 rfl (by decide) (by omega) (.slice (some ad129) x3_1.length co22) x3_1 t135 [.int .i64 t135] (fun _=>True) (fun _=>False) rfl rfl ?aP (fun _ hk=>hk.elim) ?aF ?aO ?aB ?aS ?aL ?_
             (case aP=>exact rfl)
             (case aB=>exact bq)
             (case aF=>exact(fun _ _=>trivial))
             (case aO=>exact(pR HO_3.out))
             (case aS=>exact(zah bq))
             (case aL=>have:=LMc20.out;omega)
             intro v137 w23 ho hb hg hat
             rw[← Ny136.out] at ho
             have n_:=jA2 (hb) (ho)
             clear HB HO_3
             obtain⟨HB,HO138⟩:=n_
             clear ho hb hg hat
             refine hK.out _ _ ?_
             clear hK K
             refine norm_ (a':=?_) ?_ ?_
             rotate_left
             ·show Act.put _ (some 39) _=_
              simp only[Act.put,zaa,zae,zaf,i64_w,i32_w]
              rfl
             refine pu 29 3 HT_.out ?_
             refine done_ (done_of HT_.out (by kernel_rfl)) ?_
             try go_wp2
             go_roundg k1
             case measure=>have:=HK1.out;omega
             case rel=>exact⟨(y136),(wrap64 (x4_1+1)),jer,H',⟨by have:=HK1.out;omega⟩,⟨pR HO138.out⟩,⟨bq⟩⟩
            rw[if_neg c20] at H
            exact absurd H (by simp)
           rw[if_neg c18] at H
           exact absurd H (by simp)
          rw[if_neg c17] at H
          exact absurd H (by simp)
         rw[if_neg c14] at H
         exact absurd H (by simp)
        rw[if_neg c13] at H
        exact absurd H (by simp)
       rw[if_neg c11] at H
       exact absurd H (by simp)
      rw[if_neg c10] at H
      exact absurd H (by simp)
     rw[if_neg c7] at H
     exact absurd H (by simp)
    rw[if_neg c6] at H
    exact absurd H (by simp)
   rw[if_neg c4] at H
   have c4b0:=zbj c4
   clear c4
   obtain rfl:=Option.some.inj H
   go_wp2
   go_ret
   exact⟨_,jex,by(with_reducible repeat(first | apply zat | apply zau | apply zar));exact HO_3.out,bq⟩
def spec_l3Table.f:Option (List Int):=some (([1116352408,1899447441,3049323471,3921009573,961987163,1508970993,2453635748,2870763221,3624381080,310598401,607225278,1426881987,1925078388,2162078206,2614888103,3248222580,3835390401,4022224774,264347078,604807628,770255983,1249150122,1555081692,1996064986,2554220882,2821834349,2952996808,3210313671,3336571891,3584528711,113926993,338241895,666307205,773529912,1294757372,1396182291,1695183700,1986661051,2177026350,2456956037,2730485921,2820302411,3259730800,3345764771,3516065817,3600352804,4094571909,275423344,430227734,506948616,659060556,883997877,958139571,1322822218,1537002063,1747873779,1955562222,2024104815,2227730452,2361852424,2428436474,2756734187,3204031479,3329325298]:List Int))
theorem spec_l3Table.calls (r:List Int) (w:World) (h:spec_l3Table.f=some r):
  Calls Try.prog 68 #[] w fun e w'=>∃ v0_:Value,e= .returned (v0_)∧Kd.R (Kd.int .i64) 3 w' w.heap.size (fun _=>True) v0_ r∧Below w.heap.size w w':=by
 have HB:=Aside0.mk (zbk w.heap.size w)
 have H:(some (([1116352408,1899447441,3049323471,3921009573,961987163,1508970993,2453635748,2870763221,3624381080,310598401,607225278,1426881987,1925078388,2162078206,2614888103,3248222580,3835390401,4022224774,264347078,604807628,770255983,1249150122,1555081692,1996064986,2554220882,2821834349,2952996808,3210313671,3336571891,3584528711,113926993,338241895,666307205,773529912,1294757372,1396182291,1695183700,1986661051,2177026350,2456956037,2730485921,2820302411,3259730800,3345764771,3516065817,3600352804,4094571909,275423344,430227734,506948616,659060556,883997877,958139571,1322822218,1537002063,1747873779,1955562222,2024104815,2227730452,2361852424,2428436474,2756734187,3204031479,3329325298]:List Int)))=some r:=h
 clear h
 obtain⟨y139,hy139⟩:∃ y_:List Int,y_=(([1116352408,1899447441,3049323471,3921009573,961987163,1508970993,2453635748,2870763221,3624381080,310598401,607225278,1426881987,1925078388,2162078206,2614888103,3248222580,3835390401,4022224774,264347078,604807628,770255983,1249150122,1555081692,1996064986,2554220882,2821834349,2952996808,3210313671,3336571891,3584528711,113926993,338241895,666307205,773529912,1294757372,1396182291,1695183700,1986661051,2177026350,2456956037,2730485921,2820302411,3259730800,3345764771,3516065817,3600352804,4094571909,275423344,430227734,506948616,659060556,883997877,958139571,1322822218,1537002063,1747873779,1955562222,2024104815,2227730452,2361852424,2428436474,2756734187,3204031479,3329325298]:List Int)):=⟨_,rfl⟩
 replace H:(some y139)=some r:=jrw hy139 H
 have Ny139:=Aside0.mk hy139
 clear hy139
 obtain rfl:=Option.some.inj H
 go_enter Try.func68,Try.ntmps68
 go_wp2_with (first | (refine jgd 1 ?_;refine Kd.R_lit (Kd.int .i64) _ 3 ?hg (N:=1) ?hd (xs:=([1116352408,1899447441,3049323471,3921009573,961987163,1508970993,2453635748,2870763221,3624381080,310598401,607225278,1426881987,1925078388,2162078206,2614888103,3248222580,3835390401,4022224774,264347078,604807628,770255983,1249150122,1555081692,1996064986,2554220882,2821834349,2952996808,3210313671,3336571891,3584528711,113926993,338241895,666307205,773529912,1294757372,1396182291,1695183700,1986661051,2177026350,2456956037,2730485921,2820302411,3259730800,3345764771,3516065817,3600352804,4094571909,275423344,430227734,506948616,659060556,883997877,958139571,1322822218,1537002063,1747873779,1955562222,2024104815,2227730452,2361852424,2428436474,2756734187,3204031479,3329325298]:List Int)) (inner:=[.int .i64 1116352408, .int .i64 1899447441, .int .i64 3049323471, .int .i64 3921009573, .int .i64 961987163, .int .i64 1508970993, .int .i64 2453635748, .int .i64 2870763221, .int .i64 3624381080, .int .i64 310598401, .int .i64 607225278, .int .i64 1426881987, .int .i64 1925078388, .int .i64 2162078206, .int .i64 2614888103, .int .i64 3248222580, .int .i64 3835390401, .int .i64 4022224774, .int .i64 264347078, .int .i64 604807628, .int .i64 770255983, .int .i64 1249150122, .int .i64 1555081692, .int .i64 1996064986, .int .i64 2554220882, .int .i64 2821834349, .int .i64 2952996808, .int .i64 3210313671, .int .i64 3336571891, .int .i64 3584528711, .int .i64 113926993, .int .i64 338241895, .int .i64 666307205, .int .i64 773529912, .int .i64 1294757372, .int .i64 1396182291, .int .i64 1695183700, .int .i64 1986661051, .int .i64 2177026350, .int .i64 2456956037, .int .i64 2730485921, .int .i64 2820302411, .int .i64 3259730800, .int .i64 3345764771, .int .i64 3516065817, .int .i64 3600352804, .int .i64 4094571909, .int .i64 275423344, .int .i64 430227734, .int .i64 506948616, .int .i64 659060556, .int .i64 883997877, .int .i64 958139571, .int .i64 1322822218, .int .i64 1537002063, .int .i64 1747873779, .int .i64 1955562222, .int .i64 2024104815, .int .i64 2227730452, .int .i64 2361852424, .int .i64 2428436474, .int .i64 2756734187, .int .i64 3204031479, .int .i64 3329325298]) (ok:=fun _=>True) (okp:=fun _=>True) ?hr ?hp (fun _ hk=>hk) trivial (zbk _ _) (zav _) (by simp) ?_;(case hd=>rfl);(case hg=>rfl);(case hr=>first | (go_simp;done) | (go_simp;rfl));(case hp=>exact(zan (show Kd.M (Kd.int .i64) _ _ _ 1116352408 [.int .i64 1116352408] from rfl) (zan (show Kd.M (Kd.int .i64) _ _ _ 1899447441 [.int .i64 1899447441] from rfl) (zan (show Kd.M (Kd.int .i64) _ _ _ 3049323471 [.int .i64 3049323471] from rfl) (zan (show Kd.M (Kd.int .i64) _ _ _ 3921009573 [.int .i64 3921009573] from rfl) (zan (show Kd.M (Kd.int .i64) _ _ _ 961987163 [.int .i64 961987163] from rfl) (zan (show Kd.M (Kd.int .i64) _ _ _ 1508970993 [.int .i64 1508970993] from rfl) (zan (show Kd.M (Kd.int .i64) _ _ _ 2453635748 [.int .i64 2453635748] from rfl) (zan (show Kd.M (Kd.int .i64) _ _ _ 2870763221 [.int .i64 2870763221] from rfl) (zan (show Kd.M (Kd.int .i64) _ _ _ 3624381080 [.int .i64 3624381080] from rfl) (zan (show Kd.M (Kd.int .i64) _ _ _ 310598401 [.int .i64 310598401] from rfl) (zan (show Kd.M (Kd.int .i64) _ _ _ 607225278 [.int .i64 607225278] from rfl) (zan (show Kd.M (Kd.int .i64) _ _ _ 1426881987 [.int .i64 1426881987] from rfl) (zan (show Kd.M (Kd.int .i64) _ _ _ 1925078388 [.int .i64 1925078388] from rfl) (zan (show Kd.M (Kd.int .i64) _ _ _ 2162078206 [.int .i64 2162078206] from rfl) (zan (show Kd.M (Kd.int .i64) _ _ _ 2614888103 [.int .i64 2614888103] from rfl) (zan (show Kd.M (Kd.int .i64) _ _ _ 3248222580 [.int .i64 3248222580] from rfl) (zan (show Kd.M (Kd.int .i64) _ _ _ 3835390401 [.int .i64 3835390401] from rfl) (zan (show Kd.M (Kd.int .i64) _ _ _ 4022224774 [.int .i64 4022224774] from rfl) (zan (show Kd.M (Kd.int .i64) _ _ _ 264347078 [.int .i64 264347078] from rfl) (zan (show Kd.M (Kd.int .i64) _ _ _ 604807628 [.int .i64 604807628] from rfl) (zan (show Kd.M (Kd.int .i64) _ _ _ 770255983 [.int .i64 770255983] from rfl) (zan (show Kd.M (Kd.int .i64) _ _ _ 1249150122 [.int .i64 1249150122] from rfl) (zan (show Kd.M (Kd.int .i64) _ _ _ 1555081692 [.int .i64 1555081692] from rfl) (zan (show Kd.M (Kd.int .i64) _ _ _ 1996064986 [.int .i64 1996064986] from rfl) (zan (show Kd.M (Kd.int .i64) _ _ _ 2554220882 [.int .i64 2554220882] from rfl) (zan (show Kd.M (Kd.int .i64) _ _ _ 2821834349 [.int .i64 2821834349] from rfl) (zan (show Kd.M (Kd.int .i64) _ _ _ 2952996808 [.int .i64 2952996808] from rfl) (zan (show Kd.M (Kd.int .i64) _ _ _ 3210313671 [.int .i64 3210313671] from rfl) (zan (show Kd.M (Kd.int .i64) _ _ _ 3336571891 [.int .i64 3336571891] from rfl) (zan (show Kd.M (Kd.int .i64) _ _ _ 3584528711 [.int .i64 3584528711] from rfl) (zan (show Kd.M (Kd.int .i64) _ _ _ 113926993 [.int .i64 113926993] from rfl) (zan (show Kd.M (Kd.int .i64) _ _ _ 338241895 [.int .i64 338241895] from rfl) (zan (show Kd.M (Kd.int .i64) _ _ _ 666307205 [.int .i64 666307205] from rfl) (zan (show Kd.M (Kd.int .i64) _ _ _ 773529912 [.int .i64 773529912] from rfl) (zan (show Kd.M (Kd.int .i64) _ _ _ 1294757372 [.int .i64 1294757372] from rfl) (zan (show Kd.M (Kd.int .i64) _ _ _ 1396182291 [.int .i64 1396182291] from rfl) (zan (show Kd.M (Kd.int .i64) _ _ _ 1695183700 [.int .i64 1695183700] from rfl) (zan (show Kd.M (Kd.int .i64) _ _ _ 1986661051 [.int .i64 1986661051] from rfl) (zan (show Kd.M (Kd.int .i64) _ _ _ 2177026350 [.int .i64 2177026350] from rfl) (zan (show Kd.M (Kd.int .i64) _ _ _ 2456956037 [.int .i64 2456956037] from rfl) (zan (show Kd.M (Kd.int .i64) _ _ _ 2730485921 [.int .i64 2730485921] from rfl) (zan (show Kd.M (Kd.int .i64) _ _ _ 2820302411 [.int .i64 2820302411] from rfl) (zan (show Kd.M (Kd.int .i64) _ _ _ 3259730800 [.int .i64 3259730800] from rfl) (zan (show Kd.M (Kd.int .i64) _ _ _ 3345764771 [.int .i64 3345764771] from rfl) (zan (show Kd.M (Kd.int .i64) _ _ _ 3516065817 [.int .i64 3516065817] from rfl) (zan (show Kd.M (Kd.int .i64) _ _ _ 3600352804 [.int .i64 3600352804] from rfl) (zan (show Kd.M (Kd.int .i64) _ _ _ 4094571909 [.int .i64 4094571909] from rfl) (zan (show Kd.M (Kd.int .i64) _ _ _ 275423344 [.int .i64 275423344] from rfl) (zan (show Kd.M (Kd.int .i64) _ _ _ 430227734 [.int .i64 430227734] from rfl) (zan (show Kd.M (Kd.int .i64) _ _ _ 506948616 [.int .i64 506948616] from rfl) (zan (show Kd.M (Kd.int .i64) _ _ _ 659060556 [.int .i64 659060556] from rfl) (zan (show Kd.M (Kd.int .i64) _ _ _ 883997877 [.int .i64 883997877] from rfl) (zan (show Kd.M (Kd.int .i64) _ _ _ 958139571 [.int .i64 958139571] from rfl) (zan (show Kd.M (Kd.int .i64) _ _ _ 1322822218 [.int .i64 1322822218] from rfl) (zan (show Kd.M (Kd.int .i64) _ _ _ 1537002063 [.int .i64 1537002063] from rfl) (zan (show Kd.M (Kd.int .i64) _ _ _ 1747873779 [.int .i64 1747873779] from rfl) (zan (show Kd.M (Kd.int .i64) _ _ _ 1955562222 [.int .i64 1955562222] from rfl) (zan (show Kd.M (Kd.int .i64) _ _ _ 2024104815 [.int .i64 2024104815] from rfl) (zan (show Kd.M (Kd.int .i64) _ _ _ 2227730452 [.int .i64 2227730452] from rfl) (zan (show Kd.M (Kd.int .i64) _ _ _ 2361852424 [.int .i64 2361852424] from rfl) (zan (show Kd.M (Kd.int .i64) _ _ _ 2428436474 [.int .i64 2428436474] from rfl) (zan (show Kd.M (Kd.int .i64) _ _ _ 2756734187 [.int .i64 2756734187] from rfl) (zan (show Kd.M (Kd.int .i64) _ _ _ 3204031479 [.int .i64 3204031479] from rfl) (zan (show Kd.M (Kd.int .i64) _ _ _ 3329325298 [.int .i64 3329325298] from rfl) (zeb _ _))))))))))))))))))))))))))))))))))))))))))))))))))))))))))))))))));intro v140 w1 ho2 hb hg_ hnew_;have xb_:=below_ofs bq hb;clear hg_ hnew_;(first | rw[← Ny139.out] at ho2 | (simp only[Int.reduceToNat] at ho2;rw[← Ny139.out] at ho2));have n_:=jA2 (zaq ho2 (zah xb_)) (zal xb_ hb);clear HB;obtain⟨HO141,HB⟩:=n_;clear xb_ hb ho2))
 go_ret
 exact⟨_,jex,by(with_reducible repeat(first | apply zat | apply zau | apply zar));exact HO141.out,bq⟩
end Go.Proofs.Ytienlgcjohpphaa.P
