import Derived.Test.Ytienlgcjohpphaale17
import Derived.Test.Ytienlgcjohpphaale18
namespace Go.Proofs.Ytienlgcjohpphaa.P
open Go.RowKit Go.Proofs.YtienlgcjohpphaaW.PrintWords Go.Proofs.YtienlgcjohpphaaW.PrintLast Go.Proofs.YtienlgcjohpphaaW.PrintMore
attribute [local go_sem] zcn zco zdk zdl zce zcf zcp zcq -- for this text's walks alone
set_option linter.unusedVariables false
set_option linter.unusedSimpArgs false

def impl_schedule.l0:Nat→List Int→Int→Option (List Int)
 | 0,_,_=>none
 | k+1,x3,x4=>if x4<64 then(if 0≤(wrap64 (x4 - 2)) then(if(wrap64 (x4 - 2))<(x3.length:Int) then((impl_mixed.f (rd x3 (wrap64 (x4 - 2))) 17 19 10 true).bind fun t226=>(if 0≤(wrap64 (x4 - 7)) then(if(wrap64 (x4 - 7))<(x3.length:Int) then(if 0≤(wrap64 (x4 - 15)) then(if(wrap64 (x4 - 15))<(x3.length:Int) then((impl_mixed.f (rd x3 (wrap64 (x4 - 15))) 7 18 3 true).bind fun t229=>(if 0≤(wrap64 (x4 - 16)) then(if(wrap64 (x4 - 16))<(x3.length:Int) then((impl_Word.f (wrap64 ((wrap64 ((wrap64 (t226+(rd x3 (wrap64 (x4 - 7)))))+t229))+(rd x3 (wrap64 (x4 - 16)))))).bind fun t231=>(if x3.length<17592186044416 then(impl_schedule.l0 k (x3++[t231]) (wrap64 (x4+1))) else(none))) else(none)) else(none))) else(none)) else(none)) else(none)) else(none))) else(none)) else(none)) else(some x3)
def impl_schedule.f (k:Nat) (l0:List Int):Option (List Int):=(impl_Words.f k l0 true).bind fun t222=>(impl_schedule.l0 k t222 16)
theorem impl_schedule.mono_l:∀ k,(∀ y0 y1,LeO (impl_schedule.l0 k y0 y1) (impl_schedule.l0 (k+1) y0 y1))
 | 0=>fun _ _ r h=>by simp [impl_schedule.l0] at h
 | k+1=>by
  have ih0:=impl_schedule.mono_l k
  intro y0 y1
  unfold impl_schedule.l0
  have m0:=@impl_Words.mono
  exact mt
theorem impl_schedule.mono:∀ a0 k,LeO (impl_schedule.f k a0) (impl_schedule.f (k+1) a0):=by
 intro a0 k
 have ih0:=impl_schedule.mono_l k
 unfold impl_schedule.f
 have m0:=@impl_Words.mono
 exact mt
def impl_schedule.T5:Bool×List (List Nat×List Nat):=(true,[([],[]),([],[]),([],[]),([2],[2]),([1,3],[1,3]),([4],[4]),([5],[5]),([],[]),([],[]),([8],[8]),([7,9],[7,9]),([10],[10]),([6,11],[6,11]),([],[]),([],[]),([14],[14]),([13,15],[13,15]),([16],[16]),([17,6],[17]),([12,18],[12,18]),([],[]),([],[]),([21],[21]),([20,22],[20,22]),([23],[23]),([19,24],[19,24]),([25,18],[25]),([26],[26]),([0,27,26],[0,27]),([28,28,0,1,2,3,4,5,6,7,8,9,10,11,12,13,14,15,16,17,18,19,20,21,22,23,24,25,26,27,28],[0,1,7,13,20,28])])
def impl_schedule.B5:List Nat:=[0,0,0,4,14,30,62,0,0,256,896,1920,4094,0,0,16384,57344,122880,254078,524286,0,0,2097152,7340032,15728640,33554430,67108862,134217726,268435455,536870911]
theorem impl_schedule.tab5:rtab .any (opsOf Try.f73 5)=impl_schedule.T5:=by kernel_rfl
theorem impl_schedule.bits5:waitsOk impl_schedule.T5.2 impl_schedule.B5=true:=by kernel_rfl
set_option maxHeartbeats 8000000 in
set_option maxRecDepth 100000 in
theorem impl_schedule.calls (k:Nat) (A0:Option Addr) (c0:Nat) (l0:List Int) (r:List Int) (w:World) (hr0:Kd.C (Kd.int .u8) w A0 l0.length l0) (hc0:l0.length≤c0) (h:impl_schedule.f k l0=some r):
  Calls Try.prog 73 #[.slice A0 l0.length c0] w fun e w'=>∃ v0_:Value,e= .returned (v0_)∧Kd.R (Kd.int .i64) 3 w' w.heap.size (fun _=>True) v0_ r∧Below w.heap.size w w':=by
 have HR0:=Aside0.mk hr0
 have HC0:=Aside0.mk hc0
 clear hr0 hc0
 have HB:=Aside0.mk (zbk w.heap.size w)
 have H:((impl_Words.f k l0 true).bind fun t222=>(impl_schedule.l0 k t222 16))=some r:=h
 clear h
 obtain⟨t222,A2,H⟩:=bnd H
 have H':=Aside0.mk H
 clear H
 go_enter Try.func73,Try.ntmps73
 go_wp2_with (first | (refine jgc 102 ?_;refine jgs 6 Try.func102 #[.slice A0 l0.length c0, .bool true] ?_;(with_reducible refine(impl_Words.calls k _ _ l0 true t222 _ ?side1 ?side2 A2.out).mono ?_);(case side1=>repeat(first | exact HR0.out | (with_reducible first | apply zbs | apply zbt | apply zcg)));(case side2=>exact HC0.out);rintro e w3 ⟨v223,rfl,ho0,hb⟩;refine⟨_,rfl,?_⟩;have xb_:=below_ofs bq hb;have n_:=jA2 (zaq ho0 (zah xb_)) (zal xb_ hb);clear HB;obtain⟨HO224,HB⟩:=n_;clear xb_ hb ho0))
 go_loopg [3,4] k (fun kq v3 v4 w'=>∃ (x3_1:List Int) (x4_1:Int),v4= .int .i64 x4_1∧Aside0 (impl_schedule.l0 kq x3_1 x4_1=some r)∧Aside0 (kq≤k)∧Aside0 (Kd.R (Kd.int .i64) 3 w' w.heap.size (fun _=>True) v3 x3_1)∧Aside0 (Below w.heap.size w w'))
 case atStart=>exact⟨(t222),(16),jer,H',⟨zav _⟩,⟨pR HO224.out⟩,⟨bq⟩⟩
 case round=>
  clear H'
  try clear c1
  try clear p2
  obtain⟨x3_1,x4_1,rfl,HA,HK1,HO_3,HB⟩:=hrel
  cases gk with
  | zero=>exact absurd HA.out (by simp [impl_schedule.l0])
  | succ k1=>
   have H:=HA.out
   clear HA
   simp only[impl_schedule.l0] at H
   by_cases c4:x4_1<64
   ·rw[if_pos c4] at H
    have c4b0:=zab c4
    clear c4
    obtain⟨ji5,hji5⟩:∃ j_:Int,(wrap64 (x4_1 - 2))=j_:=⟨_,rfl⟩
    replace H:(if 0≤(ji5) then(if(ji5)<(x3_1.length:Int) then((impl_mixed.f (rd x3_1 (ji5)) 17 19 10 true).bind fun t226=>(if 0≤(wrap64 (x4_1 - 7)) then(if(wrap64 (x4_1 - 7))<(x3_1.length:Int) then(if 0≤(wrap64 (x4_1 - 15)) then(if(wrap64 (x4_1 - 15))<(x3_1.length:Int) then((impl_mixed.f (rd x3_1 (wrap64 (x4_1 - 15))) 7 18 3 true).bind fun t229=>(if 0≤(wrap64 (x4_1 - 16)) then(if(wrap64 (x4_1 - 16))<(x3_1.length:Int) then((impl_Word.f (wrap64 ((wrap64 ((wrap64 (t226+(rd x3_1 (wrap64 (x4_1 - 7)))))+t229))+(rd x3_1 (wrap64 (x4_1 - 16)))))).bind fun t231=>(if x3_1.length<17592186044416 then(impl_schedule.l0 k1 (x3_1++[t231]) (wrap64 (x4_1+1))) else(none))) else(none)) else(none))) else(none)) else(none)) else(none)) else(none))) else(none)) else(none))=some r:=by first | (rw[hji5] at H;exact H) | (simp only[hji5] at H ⊢;exact H)
    have hji5w:(IntKind.i64.wrap (x4_1 - 2))=ji5:=(i64_w _).trans hji5
    by_cases c6:0≤(ji5)
    ·rw[if_pos c6] at H
     have c6b0:=zab c6
     clear c6
     by_cases c7:(ji5)<(x3_1.length:Int)
     ·rw[if_pos c7] at H
      have c7b0:=zab c7
      clear c7
      obtain⟨t226,A8,H⟩:=bnd H
      obtain⟨ji9,hji9⟩:∃ j_:Int,(wrap64 (x4_1 - 7))=j_:=⟨_,rfl⟩
      replace H:(if 0≤(ji9) then(if(ji9)<(x3_1.length:Int) then(if 0≤(wrap64 (x4_1 - 15)) then(if(wrap64 (x4_1 - 15))<(x3_1.length:Int) then((impl_mixed.f (rd x3_1 (wrap64 (x4_1 - 15))) 7 18 3 true).bind fun t229=>(if 0≤(wrap64 (x4_1 - 16)) then(if(wrap64 (x4_1 - 16))<(x3_1.length:Int) then((impl_Word.f (wrap64 ((wrap64 ((wrap64 (t226+(rd x3_1 (ji9))))+t229))+(rd x3_1 (wrap64 (x4_1 - 16)))))).bind fun t231=>(if x3_1.length<17592186044416 then(impl_schedule.l0 k1 (x3_1++[t231]) (wrap64 (x4_1+1))) else(none))) else(none)) else(none))) else(none)) else(none)) else(none)) else(none))=some r:=by first | (rw[hji9] at H;exact H) | (simp only[hji9] at H ⊢;exact H)
      (try rw[hji9] at A8)
      have hji9w:(IntKind.i64.wrap (x4_1 - 7))=ji9:=(i64_w _).trans hji9
      by_cases c10:0≤(ji9)
      ·rw[if_pos c10] at H
       have c10b0:=zab c10
       clear c10
       by_cases c11:(ji9)<(x3_1.length:Int)
       ·rw[if_pos c11] at H
        have c11b0:=zab c11
        clear c11
        obtain⟨ji12,hji12⟩:∃ j_:Int,(wrap64 (x4_1 - 15))=j_:=⟨_,rfl⟩
        replace H:(if 0≤(ji12) then(if(ji12)<(x3_1.length:Int) then((impl_mixed.f (rd x3_1 (ji12)) 7 18 3 true).bind fun t229=>(if 0≤(wrap64 (x4_1 - 16)) then(if(wrap64 (x4_1 - 16))<(x3_1.length:Int) then((impl_Word.f (wrap64 ((wrap64 ((wrap64 (t226+(rd x3_1 (ji9))))+t229))+(rd x3_1 (wrap64 (x4_1 - 16)))))).bind fun t231=>(if x3_1.length<17592186044416 then(impl_schedule.l0 k1 (x3_1++[t231]) (wrap64 (x4_1+1))) else(none))) else(none)) else(none))) else(none)) else(none))=some r:=by first | (rw[hji12] at H;exact H) | (simp only[hji12] at H ⊢;exact H)
        (try rw[hji12] at A8)
        have hji12w:(IntKind.i64.wrap (x4_1 - 15))=ji12:=(i64_w _).trans hji12
        by_cases c13:0≤(ji12)
        ·rw[if_pos c13] at H
         have c13b0:=zab c13
         clear c13
         by_cases c14:(ji12)<(x3_1.length:Int)
         ·rw[if_pos c14] at H
          have c14b0:=zab c14
          clear c14
          obtain⟨t229,A15,H⟩:=bnd H
          obtain⟨ji16,hji16⟩:∃ j_:Int,(wrap64 (x4_1 - 16))=j_:=⟨_,rfl⟩
          replace H:(if 0≤(ji16) then(if(ji16)<(x3_1.length:Int) then((impl_Word.f (wrap64 ((wrap64 ((wrap64 (t226+(rd x3_1 (ji9))))+t229))+(rd x3_1 (ji16))))).bind fun t231=>(if x3_1.length<17592186044416 then(impl_schedule.l0 k1 (x3_1++[t231]) (wrap64 (x4_1+1))) else(none))) else(none)) else(none))=some r:=by first | (rw[hji16] at H;exact H) | (simp only[hji16] at H ⊢;exact H)
          (try rw[hji16] at A8)
          (try rw[hji16] at A15)
          have hji16w:(IntKind.i64.wrap (x4_1 - 16))=ji16:=(i64_w _).trans hji16
          by_cases c17:0≤(ji16)
          ·rw[if_pos c17] at H
           have c17b0:=zab c17
           clear c17
           by_cases c18:(ji16)<(x3_1.length:Int)
           ·rw[if_pos c18] at H
            have c18b0:=zab c18
            clear c18
            obtain⟨t231,A19,H⟩:=bnd H
            by_cases c20:x3_1.length<17592186044416
            ·rw[if_pos c20] at H
             have LMc20:=Aside0.mk c20
             clear c20
             obtain⟨y232,hy232⟩:∃ y_:List Int,y_=(x3_1++[t231]):=⟨_,rfl⟩
             replace H:(impl_schedule.l0 k1 y232 (wrap64 (x4_1+1)))=some r:=jrw hy232 H
             have Ny232:=Aside0.mk hy232
             clear hy232
             have H':=Aside0.mk H
             clear H
             try go_wp2
             have n_:=jA2 (zar HO_3.out) (zay HB.out)
             clear HO_3 HB
             obtain⟨HO_3,HB⟩:=n_
             obtain⟨Ao22,co22,eo22⟩:=zbb HO_3.out
             (first | subst eo22 | (injection eo22 with f1_ f2_ f3_;have f4_:=f1_.symm;have f5_:=f3_.symm;clear f1_ f2_ f3_;subst f4_;subst f5_))
             have p225:0≤((ji5):Int):=zad jab
             have q225:(ji5)<(x3_1.length:Int):=zad jab
             obtain⟨ad225,e225,hx225_0⟩:=zcd (zam HO_3.out).2.2 (ji5) p225 q225
             cases e225
             replace p225:=zas p225
             replace q225:=zas q225
             have p227:0≤((ji9):Int):=zad jab
             have q227:(ji9)<(x3_1.length:Int):=zad jab
             obtain⟨ad227,e227,hx227_0⟩:=zcd (zam HO_3.out).2.2 (ji9) p227 q227
             obtain rfl:ad225=ad227:=(by injection e227)
             replace p227:=zas p227
             replace q227:=zas q227
             have p228:0≤((ji12):Int):=zad jab
             have q228:(ji12)<(x3_1.length:Int):=zad jab
             obtain⟨ad228,e228,hx228_0⟩:=zcd (zam HO_3.out).2.2 (ji12) p228 q228
             obtain rfl:ad225=ad228:=(by injection e228)
             replace p228:=zas p228
             replace q228:=zas q228
             have p230:0≤((ji16):Int):=zad jab
             have q230:(ji16)<(x3_1.length:Int):=zad jab
             obtain⟨ad230,e230,hx230_0⟩:=zcd (zam HO_3.out).2.2 (ji16) p230 q230
             obtain rfl:ad225=ad230:=(by injection e230)
             replace p230:=zas p230
             replace q230:=zas q230
             refine start_ (n:=30) (S:=fun w'=>w'.cell? (ad225.add ((ji5)).toNat)=some (.int .i64 (rd x3_1 (ji5)))∧w'.cell? (ad225.add ((ji9)).toNat)=some (.int .i64 (rd x3_1 (ji9)))∧w'.cell? (ad225.add ((ji12)).toNat)=some (.int .i64 (rd x3_1 (ji12)))∧w'.cell? (ad225.add ((ji16)).toNat)=some (.int .i64 (rd x3_1 (ji16)))) (ds:=[27,28]) #[false,false,false,false,false,false,false,false,false,false,false,false,false,false,false,false,false,false,false,false,false,false,false,false,false,false,false,false,false,false] (by kernel_rfl) rfl rfl ⟨hx225_0,hx227_0,hx228_0,hx230_0⟩ (fun hHeld=>?_);refine zgh impl_schedule.tab5 impl_schedule.bits5 (fun HT_ HW_=>?_)
             generalize wr.drew=w21 at HO_3 HB hx225_0 hx227_0 hx228_0 hx230_0 hHeld ⊢
             refine pu 0 11 HT_.out ?_
             refine pu 1 12 HT_.out ?_
             refine pu 2 13 HT_.out ?_
             refine pu 3 14 HT_.out ?_
             refine pu 4 15 HT_.out ?_
             refine pu 7 18 HT_.out ?_
             refine pu 8 19 HT_.out ?_
             refine pu 9 20 HT_.out ?_
             refine pu 10 21 HT_.out ?_
             refine pu 13 24 HT_.out ?_
             refine pu 14 25 HT_.out ?_
             refine pu 15 26 HT_.out ?_
             refine pu 16 27 HT_.out ?_
             refine pu 20 31 HT_.out ?_
             refine pu 21 32 HT_.out ?_
             refine pu 22 33 HT_.out ?_
             refine pu 23 34 HT_.out ?_
             refine tk 5 16 HT_.out HW_.out hHeld ?_
             refine tk 11 22 HT_.out HW_.out hHeld ?_
             refine tk 17 28 HT_.out HW_.out hHeld ?_
             refine tk 24 35 HT_.out HW_.out hHeld ?_
             refine one_ (i:=6) (N:=some 17) #[true,true,true,true,true,true,true,true,true,true,true,true,false,true,true,true,true,true,false,false,true,true,true,true,true,false,false,false,false,false] rfl rfl (one_of HT_.out (by kernel_rfl)) (by decide) (fun K hK=>?_)
             refine goes_ Try.func74 (by kernel_rfl) rfl #[.int .i64 (rd x3_1 (ji5)), .int .i64 17, .int .i64 19, .int .i64 10, .bool true] (by rfl) rfl rfl (by(try simp only[zgr,List.map_cons,List.map_nil]);first | done | (simp only[hji5];rfl) | rfl | (simp only[zdb,zdc];rfl)) ?_
             with_reducible refine(impl_mixed.calls (rd x3_1 (ji5)) 17 19 10 true t226 _ A8.out).mono ?_
             rintro e w' ⟨rfl,⟨nd,rfl⟩⟩
             refine⟨_,rfl,?_⟩
             refine hK.out _ _ ⟨hHeld.1,hHeld.2.1,hHeld.2.2.1,hHeld.2.2.2⟩ (fun hHeld=>?_)
             clear hK K
             refine norm_ (a':=?_) ?_ ?_
             rotate_left
             ·show Act.put _ (some 17) _=_
              simp only[Act.put,zaa,zae,zaf,i64_w,i32_w]
              rfl
             refine pu 12 23 HT_.out ?_
             refine one_ (i:=18) (N:=some 29) #[true,true,true,true,true,true,true,true,true,true,true,true,true,true,true,true,true,true,true,false,true,true,true,true,true,false,false,false,false,false] rfl rfl (one_of HT_.out (by kernel_rfl)) (by decide) (fun K hK=>?_)
             refine goes_ Try.func74 (by kernel_rfl) rfl #[.int .i64 (rd x3_1 (ji12)), .int .i64 7, .int .i64 18, .int .i64 3, .bool true] (by rfl) rfl rfl (by(try simp only[zgr,List.map_cons,List.map_nil]);first | done | (simp only[hji12];rfl) | rfl | (simp only[zdb,zdc];rfl)) ?_
             with_reducible refine(impl_mixed.calls (rd x3_1 (ji12)) 7 18 3 true t229 _ A15.out).mono ?_
             rintro e w' ⟨rfl,⟨nd,rfl⟩⟩
             refine⟨_,rfl,?_⟩
             refine hK.out _ _ ⟨hHeld.1,hHeld.2.1,hHeld.2.2.1,hHeld.2.2.2⟩ (fun hHeld=>?_)
             clear hK K
             refine norm_ (a':=?_) ?_ ?_
             rotate_left
             ·show Act.put _ (some 29) _=_
              simp only[Act.put,zaa,zae,zaf,i64_w,i32_w]
              rfl
             refine pu 19 30 HT_.out ?_
             refine pu 25 36 HT_.out ?_
             refine one_ (i:=26) (N:=some 37) #[true,true,true,true,true,true,true,true,true,true,true,true,true,true,true,true,true,true,true,true,true,true,true,true,true,true,true,false,false,false] rfl rfl (one_of HT_.out (by kernel_rfl)) (by decide) (fun K hK=>?_)
             refine goes_ Try.func71 (by kernel_rfl) rfl #[.int .i64 (wrap64 ((wrap64 ((wrap64 (t226+(rd x3_1 (ji9))))+t229))+(rd x3_1 (ji16))))] (by rfl) rfl rfl (by(try simp only[zgr,List.map_cons,List.map_nil]);first | done | (simp only[hji16,hji9];rfl) | rfl | (simp only[zdb,zdc];rfl)) ?_
             with_reducible refine(impl_Word.calls (wrap64 ((wrap64 ((wrap64 (t226+(rd x3_1 (ji9))))+t229))+(rd x3_1 (ji16)))) t231 _ A19.out).mono ?_
             rintro e w' ⟨rfl,⟨nd,rfl⟩⟩
             refine⟨_,rfl,?_⟩
             refine hK.out _ _ ⟨hHeld.1,hHeld.2.1,hHeld.2.2.1,hHeld.2.2.2⟩ (fun hHeld=>?_)
             clear hK K
             refine norm_ (a':=?_) ?_ ?_
             rotate_left
             ·show Act.put _ (some 37) _=_
              simp only[Act.put,zaa,zae,zaf,i64_w,i32_w]
              rfl
             refine last_ (i:=27) (N:=some 38) #[true,true,true,true,true,true,true,true,true,true,true,true,true,true,true,true,true,true,true,true,true,true,true,true,true,true,true,true,false,false] rfl rfl (one_of HT_.out (by kernel_rfl)) (by decide) (fun K hK=>?_)
             refine value_ (w1:=?_) (v:=?_) (by rfl) rfl ?_ ?_
             rotate_left 2
             ·go_simp
              constructor
              ·rfl
              rfl
             refine hK.out _ _ ?_
             clear hK K
             refine norm_ (a':=?_) ?_ ?_
             rotate_left
             ·show Act.put _ (some 38) _=_
              simp only[Act.put,zaa,zae,zaf,i64_w,i32_w]
              rfl
             refine last_ (i:=28) (N:=some 39) #[true,true,true,true,true,true,true,true,true,true,true,true,true,true,true,true,true,true,true,true,true,true,true,true,true,true,true,true,true,false] rfl rfl (one_of HT_.out (by kernel_rfl)) (by decide) (fun K hK=>?_)
             refine Kd.R_append_step (Kd.int .i64) (w0:=w) w.heap.size (by rfl) (.tmp 11) (.tmp 38) 22 3 (.int .i64 0) 8 rfl Try.underlying22 info3 rfl (by decide) (by omega) (.slice (some ad225) x3_1.length co22) x3_1 t231 [.int .i64 t231] (fun _=>True) (fun _=>False) rfl rfl ?aP (fun _ hk=>hk.elim) ?aF ?aO ?aB ?aS ?aL ?_
             (case aP=>exact rfl)
             (case aB=>exact bq)
             (case aF=>exact(fun _ _=>trivial))
             (case aO=>exact(pR HO_3.out))
             (case aS=>exact(zah bq))
             (case aL=>have:=LMc20.out;omega)
             intro v233 w23 ho hb hg hat
             rw[← Ny232.out] at ho
             have n_:=jA2 (hb) (ho)
             clear HB HO_3
             obtain⟨HB,HO234⟩:=n_
             clear ho hb hg hat
             refine hK.out _ _ ?_
             clear hK K
             refine norm_ (a':=?_) ?_ ?_
             rotate_left
             ·show Act.put _ (some 39) _=_
              simp only[Act.put,zaa,zae,zaf,i64_w,i32_w]
              rfl
             refine pu 29 3 HT_.out ?_
             refine done_ (done_of HT_.out (by kernel_rfl)) ?_
             try go_wp2
             go_roundg k1
             case measure=>have:=HK1.out;omega
             case rel=>exact⟨(y232),(wrap64 (x4_1+1)),jer,H',⟨by have:=HK1.out;omega⟩,⟨pR HO234.out⟩,⟨bq⟩⟩
            rw[if_neg c20] at H
            exact absurd H (by simp)
           rw[if_neg c18] at H
           exact absurd H (by simp)
          rw[if_neg c17] at H
          exact absurd H (by simp)
         rw[if_neg c14] at H
         exact absurd H (by simp)
        rw[if_neg c13] at H
        exact absurd H (by simp)
       rw[if_neg c11] at H
       exact absurd H (by simp)
      rw[if_neg c10] at H
      exact absurd H (by simp)
     rw[if_neg c7] at H
     exact absurd H (by simp)
    rw[if_neg c6] at H
    exact absurd H (by simp)
   rw[if_neg c4] at H
   have c4b0:=zbj c4
   clear c4
   obtain rfl:=Option.some.inj H
   go_wp2
   go_ret
   exact⟨_,jex,by(with_reducible repeat(first | apply zat | apply zau | apply zar));exact HO_3.out,bq⟩
end Go.Proofs.Ytienlgcjohpphaa.P
