import Derived.Test.Ytlalkldjpniakaabk8
namespace Go.Proofs.Ytlalkldjpniakaa.P
open Go.RowKit Go.Proofs.YtlalkldjpniakaaW.PrintWords Go.Proofs.YtlalkldjpniakaaW.PrintLast Go.Proofs.YtlalkldjpniakaaW.PrintMore
attribute [local go_sem] zck zcl zdl zdm zbz zca zcm zcn -- for this text's walks alone
set_option linter.unusedVariables false
set_option linter.unusedSimpArgs false
set_option maxHeartbeats 8000000
set_option maxRecDepth 100000

def spec_l13Route.f (k:Nat) (a0:ByteArray):Option (Bool):=(spec_Unhex.f k a0).bind fun bt169=>(if bt169.2=true then(some ((bt169.1.length:Int)==8)) else(some false))
theorem spec_l13Route.mono:∀ a0 k,LeO (spec_l13Route.f k a0) (spec_l13Route.f (k+1) a0):=by
 intro a0 k
 unfold spec_l13Route.f
 have m0:=@spec_Unhex.mono
 exact mt
theorem spec_l13Route.wk {P:Prop} (h:P:=by
 go_enter Try.func88,Try.ntmps88
 go_wp2_with (first | (refine jgc 106 ?_;refine jgs 7 Try.func106 #[.string a0] ?_;(with_reducible refine(spec_Unhex.calls k a0 t169 true _ A2.out).mono ?_);rintro e w_ ⟨v171,rfl,ho0,hb⟩;refine⟨_,rfl,?_⟩;have xb_:=below_ofs bq hb;have n_:=jA2 (zax ho0 (zal xb_)) (zac xb_ hb);clear HB;obtain⟨HO172,HB⟩:=n_;clear xb_ hb ho0;obtain⟨Ao5,co5,eo5⟩:=zbd HO172.out;subst eo5) | (refine jgc 106 ?_;refine jgs 7 Try.func106 #[.string a0] ?_;(with_reducible refine(spec_Unhex.calls k a0 t169 false _ A2.out).mono ?_);rintro e w_ ⟨v171,rfl,ho0,hb⟩;refine⟨_,rfl,?_⟩;have xb_:=below_ofs bq hb;have n_:=jA2 (zax ho0 (zal xb_)) (zac xb_ hb);clear HB;obtain⟨HO172,HB⟩:=n_;clear xb_ hb ho0))
 go_ret
 exact⟨jex,bq⟩):P:=h
theorem spec_l13Route.calls (k:Nat) (a0:ByteArray) (r:Bool) (w:World) (h:spec_l13Route.f k a0=some r):
  Calls Try.prog 88 #[.string a0] w fun e w'=>e= .returned (.bool r)∧Below w.heap.size w w':=by
 have HB:=Aside0.mk (zbo w.heap.size w)
 have H:((spec_Unhex.f k a0).bind fun bt169=>(if bt169.2=true then(some ((bt169.1.length:Int)==8)) else(some false)))=some r:=h
 clear h
 obtain⟨⟨t169,o0⟩,A2,H⟩:=bnd H
 try dsimp only at H
 by_cases c3:o0=true
 ·subst c3
  rw[if_pos rfl] at H
  obtain rfl:=Option.some.inj H
  exact spec_l13Route.wk
 replace c3:=zcp.mpr c3
 subst c3
 rw[if_neg (show ¬(false=true) by decide)] at H
 obtain rfl:=Option.some.inj H
 exact spec_l13Route.wk
def spec_l1In.f (a0:Int) (a1:Int) (a2:Int):Option (Bool):=if a0≥a1 then(some (decide (a0≤a2))) else(some false)
theorem spec_l1In.wk {P:Prop} (h:P:=by
 go_enter Try.func89,Try.ntmps89
 go_wp2
 go_ret
 exact⟨by first | rfl | (simp;done) | (simp [*];done),by repeat(first | exact Drawn0.refl _ | apply Drawn0.step)⟩):P:=h
theorem spec_l1In.calls (a0:Int) (a1:Int) (a2:Int) (r:Bool) (w:World) (h:spec_l1In.f a0 a1 a2=some r):
  Calls Try.prog 89 #[.int .i64 a0, .int .i64 a1, .int .i64 a2] w fun e w'=>e= .returned (.bool r)∧Drawn0 w w':=by
 have H:(if a0≥a1 then(some (decide (a0≤a2))) else(some false))=some r:=h
 clear h
 by_cases c4:a0≥a1
 ·rw[if_pos c4] at H
  have o0:=zae c4
  clear c4
  obtain rfl:=Option.some.inj H
  exact spec_l1In.wk
 rw[if_neg c4] at H
 have o0:=zbf c4
 clear c4
 obtain rfl:=Option.some.inj H
 exact spec_l1In.wk
def spec_ItemOk.f (k:Nat) (a0_0:ByteArray) (a0_1:Int) (a0_2:Int) (l0_3:List Int):Option (Bool):=(spec_l13Route.f k a0_0).bind fun t174=>(if t174=true then((spec_l1In.f a0_1 0 9).bind fun t175=>(if t175=true then((spec_l1In.f a0_2 0 100000).bind fun t176=>(if t176=true then(some (decide ((l0_3.length:Int)≤1560))) else(some false))) else(some false))) else(some false))
theorem spec_ItemOk.mono:∀ a0 a1 a2 a3 k,LeO (spec_ItemOk.f k a0 a1 a2 a3) (spec_ItemOk.f (k+1) a0 a1 a2 a3):=by
 intro a0 a1 a2 a3 k
 unfold spec_ItemOk.f
 have m0:=@spec_l13Route.mono
 exact mt
theorem spec_ItemOk.wk {P:Prop} (h:P:=by
 go_enter Try.func24,Try.ntmps24
 go_wp2_with (first | (refine jgd 1 ?_;(try(refine gate_guard (by rfl) ?_;dsimp only));refine bx 1 (#[.string a0_0, .int .i64 a0_1, .int .i64 a0_2, .slice A0_3 l0_3.length c0_3]) 34 ?_;intro gb173 hg w_ hbox hb;have xb_:=below_ofs bq hb;have n_:=jA4 (zac xb_ hb) (hbox) (ge0 hg xb_:w.heap.size≤gb173) (ge0 hg xb_:w.heap.size≤gb173);clear HB;obtain⟨HB,BK173,GW173,GE173⟩:=n_;clear xb_ hb hbox hg;obtain⟨c0,c1,c2,c3,z0,z1,z2,z3⟩:=cz4 BK173.out) | (refine jgc 88 ?_;refine jgs 5 Try.func88 #[.string a0_0] ?_;(with_reducible refine(spec_l13Route.calls k a0_0 _ _ A2.out).mono ?_);rintro e w_ ⟨rfl,hb⟩;refine⟨_,rfl,?_⟩;have n_:=jA2 (jbb BK173.out hb) (zac (bs1 GE173.out) hb);clear BK173 HB;obtain⟨BK173,HB⟩:=n_;(try clear hb);(try clear hb2);(try clear hk);(try clear hi);obtain⟨c0,c1,c2,c3,z0,z1,z2,z3⟩:=cz4 BK173.out) | (go_at_call 89;(with_reducible refine(spec_l1In.calls a0_1 0 9 _ _ A4.out).mono ?_);rintro e w' ⟨rfl,⟨nd,rfl⟩⟩) | (go_at_call 89;(with_reducible refine(spec_l1In.calls a0_2 0 100000 _ _ A6.out).mono ?_);rintro e w' ⟨rfl,⟨nd,rfl⟩⟩))
 go_ret
 exact⟨jex,(bs1 GE173.out)⟩):P:=h
theorem spec_ItemOk.calls (k:Nat) (a0_0:ByteArray) (a0_1:Int) (a0_2:Int) (A0_3:Option Addr) (c0_3:Nat) (l0_3:List Int) (r:Bool) (w:World) (hr0_3:Kd.C (Kd.int .u8) w A0_3 l0_3.length l0_3) (hc0_3:l0_3.length≤c0_3) (h:spec_ItemOk.f k a0_0 a0_1 a0_2 l0_3=some r):
  Calls Try.prog 24 #[.agg #[.string a0_0, .int .i64 a0_1, .int .i64 a0_2, .slice A0_3 l0_3.length c0_3]] w fun e w'=>e= .returned (.bool r)∧Below w.heap.size w w':=by
 have hu34:=Try.underlying34
 have HR0_3:=Aside0.mk hr0_3
 have o0:=Aside0.mk hc0_3
 clear hr0_3 hc0_3
 have HB:=Aside0.mk (zbo w.heap.size w)
 have H:((spec_l13Route.f k a0_0).bind fun t174=>(if t174=true then((spec_l1In.f a0_1 0 9).bind fun t175=>(if t175=true then((spec_l1In.f a0_2 0 100000).bind fun t176=>(if t176=true then(some (decide ((l0_3.length:Int)≤1560))) else(some false))) else(some false))) else(some false)))=some r:=h
 clear h
 obtain⟨t174,A2,H⟩:=bnd H
 by_cases c3:t174=true
 ·subst c3
  rw[if_pos rfl] at H
  obtain⟨t175,A4,H⟩:=bnd H
  by_cases c5:t175=true
  ·subst c5
   rw[if_pos rfl] at H
   obtain⟨t176,A6,H⟩:=bnd H
   by_cases c7:t176=true
   ·subst c7
    rw[if_pos rfl] at H
    obtain rfl:=Option.some.inj H
    exact spec_ItemOk.wk
   replace c7:=zcp.mpr c7
   subst c7
   rw[if_neg (show ¬(false=true) by decide)] at H
   obtain rfl:=Option.some.inj H
   exact spec_ItemOk.wk
  replace c5:=zcp.mpr c5
  subst c5
  rw[if_neg (show ¬(false=true) by decide)] at H
  obtain rfl:=Option.some.inj H
  exact spec_ItemOk.wk
 replace c3:=zcp.mpr c3
 subst c3
 rw[if_neg (show ¬(false=true) by decide)] at H
 obtain rfl:=Option.some.inj H
 exact spec_ItemOk.wk
def spec_l14Item.f (a0_0:Int) (a0_1:ByteArray) (a0_2:Int) (a0_3:Int) (l0_4:List Int):Option (ByteArray×Int×Int×List Int):=(some (([]:List Int):List Int)).bind fun y271=>(if y271.length+l0_4.length<140737488355328 then(some (a0_1,a0_2,a0_3,(y271++l0_4))) else(none))
def spec_l14Item.T1:Bool×List (List Nat×List Nat):=(true,[([],[]),([0],[0]),([],[]),([2],[2]),([],[]),([4],[4]),([],[]),([],[]),([7],[7]),([6,8],[6,8]),([1,3,5,9],[1,3,5,9]),([10,9,0,1,2,3,4,5,6,7,8,9,10],[10])])
def spec_l14Item.B1:List Nat:=[0,1,0,4,0,16,0,0,128,448,1023,2047]
theorem spec_l14Item.tab1:rtab .any (opsOf Try.f92 1)=spec_l14Item.T1:=by kernel_rfl
theorem spec_l14Item.bits1:waitsOk spec_l14Item.T1.2 spec_l14Item.B1=true:=by kernel_rfl
theorem spec_l14Item.calls (a0_0:Int) (a0_1:ByteArray) (a0_2:Int) (a0_3:Int) (A0_4:Option Addr) (c0_4:Nat) (l0_4:List Int) (r1:ByteArray) (r2:Int) (r3:Int) (r4:List Int) (w:World) (hr0_4:Kd.C (Kd.int .u8) w A0_4 l0_4.length l0_4) (hc0_4:l0_4.length≤c0_4) (h:spec_l14Item.f a0_0 a0_1 a0_2 a0_3 l0_4=some (r1,r2,r3,r4)):
  Calls Try.prog 92 #[.agg #[.int .i64 a0_0, .string a0_1, .int .i64 a0_2, .int .i64 a0_3, .slice A0_4 l0_4.length c0_4]] w fun e w'=>∃ v3_:Value,e= .returned (.agg #[.string r1, .int .i64 r2, .int .i64 r3,v3_])∧Kd.R (Kd.int .u8) 5 w' w.heap.size (fun _=>True) v3_ r4∧Below w.heap.size w w':=by
 have hu48:=Try.underlying48
 have hu34:=Try.underlying34
 have HR0_4:=Aside0.mk hr0_4
 have HC0_4:=Aside0.mk hc0_4
 clear hr0_4 hc0_4
 have HB:=Aside0.mk (zbo w.heap.size w)
 have H:((some (([]:List Int):List Int)).bind fun y271=>(if y271.length+l0_4.length<140737488355328 then(some (a0_1,a0_2,a0_3,(y271++l0_4))) else(none)))=some (r1,r2,r3,r4):=h
 clear h
 obtain⟨y271,J0⟩:∃ y_:List Int,y_=(([]:List Int)):=⟨_,rfl⟩
 replace H:=bto J0 H
 have L0:=Aside0.mk J0
 clear J0
 by_cases c2:y271.length+l0_4.length<140737488355328
 ·rw[if_pos c2] at H
  have Q0:=Aside0.mk c2
  clear c2
  obtain⟨N0,K0⟩:∃ y_:List Int,y_=(y271++l0_4):=⟨_,rfl⟩
  replace H:(some (a0_1,a0_2,a0_3,N0))=some (r1,r2,r3,r4):=jrw K0 H
  have O0:=Aside0.mk K0
  clear K0
  simp only[zaz,zbn] at H
  obtain⟨rfl,rfl,rfl,rfl⟩:=H
  go_enter Try.func92,Try.ntmps92
  try go_wp2_with (first | (refine jgd 1 ?_;refine bx 1 (#[.int .i64 a0_0, .string a0_1, .int .i64 a0_2, .int .i64 a0_3, .slice A0_4 l0_4.length c0_4]) 48 ?_;intro F0 hg w3 hbox hb;have n_:=jA4 (zac bq hb) (hbox) (ge0 hg bq:w.heap.size≤F0) (ge0 hg bq:w.heap.size≤F0);clear HB;obtain⟨HB,B0,R0,G0⟩:=n_;clear hb hbox hg) | (refine jgd 2 ?_;refine bx 2 (#[.string (⟨#[]⟩:ByteArray), .int .i64 0, .int .i64 0, .slice none 0 0]) 34 ?_;intro C0 hg w4 hbox hb;have n_:=jA7 (jbb B0.out hb) (zac (bs1 G0.out) hb) (hbox) (ge0 hg (bs1 G0.out):w.heap.size≤C0) (ge0 hg (bs1 G0.out):w.heap.size≤C0) (nl hg (pB B0.out):F0≠C0) (ng hg (pB B0.out):C0≠F0);clear B0 HB;obtain⟨B0,HB,D0,S0,H0,o0,E0⟩:=n_;clear hb hbox hg))
  have n_:=jA3 (zan B0.out) (zan D0.out) (zba HB.out)
  clear B0 D0 HB
  obtain⟨B0,D0,HB⟩:=n_
  refine start_ (n:=12) (S:=fun w'=>w'.cell? ⟨F0,0,none⟩=some (.int .i64 a0_0)∧w'.cell? ⟨F0,1,none⟩=some (.string a0_1)∧w'.cell? ⟨F0,2,none⟩=some (.int .i64 a0_2)∧w'.cell? ⟨F0,3,none⟩=some (.int .i64 a0_3)∧w'.cell? ⟨F0,4,none⟩=some (.slice A0_4 l0_4.length c0_4)) (ds:=[]) #[false,false,false,false,false,false,false,false,false,false,false,false] (by kernel_rfl) rfl rfl ⟨(zbi B0.out 0).trans rfl,(zbi B0.out 1).trans rfl,(zbi B0.out 2).trans rfl,(zbi B0.out 3).trans rfl,(zbi B0.out 4).trans rfl⟩ (fun hHeld=>?_);refine with_tabW spec_l14Item.tab1 spec_l14Item.bits1 (fun HT_ HW_=>?_)
  generalize w4.drew=w5 at B0 D0 HB hHeld ⊢
  refine pu 0 3 HT_.out ?_
  refine pu 2 5 HT_.out ?_
  refine pu 4 7 HT_.out ?_
  refine pu 7 10 HT_.out ?_
  refine tk 1 4 HT_.out HW_.out hHeld ?_
  refine tk 3 6 HT_.out HW_.out hHeld ?_
  refine tk 5 8 HT_.out HW_.out hHeld ?_
  refine tk 8 11 HT_.out HW_.out hHeld ?_
  refine one_ (i:=6) (N:=some 9) #[true,true,true,true,true,true,true,true,true,false,false,false] rfl rfl (one_of HT_.out (by kernel_rfl)) (by decide) (fun K hK=>?_)
  refine Kd.R_lit_step (Kd.int .u8) _ 5 ?hg (N:=9) ?hd (xs:=([]:List Int)) (inner:=[]) (ok:=fun _=>True) (okp:=fun _=>True) ?hr ?hp (fun _ hk=>hk) trivial (zbo _ _) (zaf _) (by simp) ?_;(case hd=>rfl);(case hg=>rfl);(case hr=>first | (go_simp;done) | (go_simp;rfl));(case hp=>exact(zfq _ _))
  intro v272 w6 P0 hb hg_ hnew_
  clear hg_ hnew_
  (first | rw[← L0.out] at P0 | (simp only[Int.reduceToNat] at P0;rw[← L0.out] at P0))
  have n_:=jA4 (zax P0 (zal (bs2 G0.out H0.out))) (jbb B0.out hb) (jbb D0.out hb) (zac (bs2 G0.out H0.out) hb)
  clear B0 D0 HB
  obtain⟨I0,B0,D0,HB⟩:=n_
  clear hb P0
  refine hK.out _ _ ⟨(zbi B0.out 0).trans rfl,(zbi B0.out 1).trans rfl,(zbi B0.out 2).trans rfl,(zbi B0.out 3).trans rfl,(zbi B0.out 4).trans rfl⟩ (fun hHeld=>?_)
  clear hK K
  refine norm_ (a':=?_) ?_ ?_
  rotate_left
  ·show Act.put _ (some 9) _=_
   simp only[Act.put,zaq,zbj,zbk,i64_w,i32_w]
   rfl
  refine one_ (i:=9) (N:=some 12) #[true,true,true,true,true,true,true,true,true,true,false,false] rfl rfl (one_of HT_.out (by kernel_rfl)) (by decide) (fun K hK=>?_)
  refine Kd.R_append_rows_step (Kd.int .u8) (w0:=w) w.heap.size (by rfl) (.tmp 9) (.tmp 11) 29 5 (.int .u8 0) 1 rfl Try.underlying29 info5 rfl (by decide) (by omega) v272 y271 l0_4 _ _ _ (fun _=>True) (fun _=>False) rfl rfl ?aO ?aR (fun _ _ h=>h) (fun _ h=>h.elim) ?aF ?aB ?aS ?aL ?_
  (case aR=>exact jcs HR0_4.out)
  (case aB=>exact(bs2 G0.out H0.out))
  (case aF=>exact(fun _ _=>trivial))
  (case aO=>exact(pR I0.out))
  (case aS=>exact(zal (bs2 G0.out H0.out)))
  (case aL=>have:=Q0.out;omega)
  intro v275 w8 ho hb hg hat
  rw[← O0.out] at ho
  have n_:=jA4 (zeq (pB B0.out) hg (zgk I0.out B0.out (by decide))) (zeq (pB D0.out) hg (zgk I0.out D0.out (by decide))) (hb) (ho)
  clear B0 D0 HB I0
  obtain⟨B0,D0,HB,M0⟩:=n_
  clear ho hb hg hat
  obtain⟨T0,U0,V0⟩:=zbd M0.out
  (first | subst V0 | (injection V0 with f1_ f2_ f3_;have f4_:=f1_.symm;have f5_:=f3_.symm;clear f1_ f2_ f3_;subst f4_;subst f5_))
  refine hK.out _ _ ⟨(zbi B0.out 0).trans rfl,(zbi B0.out 1).trans rfl,(zbi B0.out 2).trans rfl,(zbi B0.out 3).trans rfl,(zbi B0.out 4).trans rfl⟩ (fun hHeld=>?_)
  clear hK K
  refine norm_ (a':=?_) ?_ ?_
  rotate_left
  ·show Act.put _ (some 12) _=_
   simp only[Act.put,zaq,zbj,zbk,i64_w,i32_w]
   rfl
  refine pu 10 13 HT_.out ?_
  refine one_ (i:=11) (N:=none) #[true,true,true,true,true,true,true,true,true,true,true,true] rfl rfl (one_of HT_.out (by kernel_rfl)) (by decide) (fun K hK=>?_)
  have hs10:w8.cell? ⟨C0,0,none⟩=some (.string (⟨#[]⟩:ByteArray)):=(zbi D0.out 0).trans rfl
  have hfs10:=zgi D0.out 0
  have hns10_0:=o0.out
  have hms10_0:=E0.out
  have hs11:w8.cell? ⟨C0,1,none⟩=some (.int .i64 0):=(zbi D0.out 1).trans rfl
  have hfs11:=zgi D0.out 1
  have hns11_0:=o0.out
  have hms11_0:=E0.out
  have hs12:w8.cell? ⟨C0,2,none⟩=some (.int .i64 0):=(zbi D0.out 2).trans rfl
  have hfs12:=zgi D0.out 2
  have hns12_0:=o0.out
  have hms12_0:=E0.out
  have hs13:w8.cell? ⟨C0,3,none⟩=some (.slice none 0 0):=(zbi D0.out 3).trans rfl
  have hfs13:=zgi D0.out 3
  have hns13_0:=o0.out
  have hms13_0:=E0.out
  refine skip_ (w1:=?_) (by rfl) rfl ?_ ?_
  rotate_left
  ·go_simp
   rfl
  refine hK.out _ _ ⟨((zde (p:=⟨C0,_,none⟩) o0.out _).trans (((zde (p:=⟨C0,_,none⟩) o0.out _).trans (((zde (p:=⟨C0,_,none⟩) o0.out _).trans (((zde (p:=⟨C0,_,none⟩) o0.out _).trans (hHeld.1)))))))),((zde (p:=⟨C0,_,none⟩) o0.out _).trans (((zde (p:=⟨C0,_,none⟩) o0.out _).trans (((zde (p:=⟨C0,_,none⟩) o0.out _).trans (((zde (p:=⟨C0,_,none⟩) o0.out _).trans (hHeld.2.1)))))))),((zde (p:=⟨C0,_,none⟩) o0.out _).trans (((zde (p:=⟨C0,_,none⟩) o0.out _).trans (((zde (p:=⟨C0,_,none⟩) o0.out _).trans (((zde (p:=⟨C0,_,none⟩) o0.out _).trans (hHeld.2.2.1)))))))),((zde (p:=⟨C0,_,none⟩) o0.out _).trans (((zde (p:=⟨C0,_,none⟩) o0.out _).trans (((zde (p:=⟨C0,_,none⟩) o0.out _).trans (((zde (p:=⟨C0,_,none⟩) o0.out _).trans (hHeld.2.2.2.1)))))))),((zde (p:=⟨C0,_,none⟩) o0.out _).trans (((zde (p:=⟨C0,_,none⟩) o0.out _).trans (((zde (p:=⟨C0,_,none⟩) o0.out _).trans (((zde (p:=⟨C0,_,none⟩) o0.out _).trans (hHeld.2.2.2.2))))))))⟩ (fun hHeld=>?_)
  clear hK K
  refine done_ (done_of HT_.out (by kernel_rfl)) ?_
  try go_wp2
  refine zdp (zes rfl _ _ C0 34 #[.string a0_1, .int .i64 a0_2, .int .i64 a0_3, .slice T0 N0.length U0] (0,0) _ rfl (by(with_reducible repeat(first | refine zaj ?_ _ | refine zan ?_ | refine zak ?_ _));refine zbw (cs:= #[.string a0_1, .int .i64 a0_2, .int .i64 a0_3, .slice none 0 0]) ?_ 3 _ rfl;(with_reducible repeat(first | refine zaj ?_ _ | refine zan ?_ | refine zak ?_ _));refine zbw (cs:= #[.string a0_1, .int .i64 a0_2, .int .i64 0, .slice none 0 0]) ?_ 2 _ rfl;(with_reducible repeat(first | refine zaj ?_ _ | refine zan ?_ | refine zak ?_ _));refine zbw (cs:= #[.string a0_1, .int .i64 0, .int .i64 0, .slice none 0 0]) ?_ 1 _ rfl;(with_reducible repeat(first | refine zaj ?_ _ | refine zan ?_ | refine zak ?_ _));refine zbw (cs:= #[.string (⟨#[]⟩:ByteArray), .int .i64 0, .int .i64 0, .slice none 0 0]) ?_ 0 _ rfl;(with_reducible repeat(first | refine zaj ?_ _ | refine zan ?_ | refine zak ?_ _));exact D0.out) Try.underlying34 rfl (by kernel_rfl)) rfl ?_
  exact⟨_,jex,by(with_reducible repeat(first | apply zbl | apply zbm | apply zbs));exact zam (zcx (p:=⟨C0,3,none⟩) (rf3 M0.out D0.out) (fun _ hk=>hk.2) (.slice T0 N0.length U0)) (fun _ hk=>trivial),(bs2 G0.out H0.out)⟩
 rw[if_neg c2] at H
 exact absurd H (by simp)
def spec_LineOk.f (k:Nat) (a0_0:Int) (a0_1:ByteArray) (a0_2:Int) (a0_3:Int) (l0_4:List Int):Option (Bool):=if a0_0=1 then((spec_l14Item.f a0_0 a0_1 a0_2 a0_3 l0_4).bind fun bt278=>((spec_ItemOk.f k bt278.1 bt278.2.1 bt278.2.2.1 bt278.2.2.2).bind fun t284=>(some t284))) else(if a0_0=2 then((spec_l13Route.f k a0_1).bind fun t285=>(if t285=true then(if a0_2=0 then(if a0_3=0 then(some ((l0_4.length:Int)==0)) else(some false)) else(some false)) else(some false))) else(if a0_0=3 then(if a0_1.toList=([]:List UInt8) then(if a0_2=0 then((spec_l1In.f a0_3 0 100000).bind fun t286=>(if t286=true then(some ((l0_4.length:Int)==0)) else(some false))) else(some false)) else(some false)) else(some false)))
theorem spec_LineOk.mono:∀ a0 a1 a2 a3 a4 k,LeO (spec_LineOk.f k a0 a1 a2 a3 a4) (spec_LineOk.f (k+1) a0 a1 a2 a3 a4):=by
 intro a0 a1 a2 a3 a4 k
 unfold spec_LineOk.f
 have m0:=@spec_ItemOk.mono
 have m1:=@spec_l13Route.mono
 exact mt
theorem spec_LineOk.wk {P:Prop} (h:P:=by
 go_enter Try.func34,Try.ntmps34
 go_wp2_with (first | (refine jgd 1 ?_;(try(refine gate_guard (by rfl) ?_;dsimp only));refine bx 1 (#[.int .i64 a0_0, .string a0_1, .int .i64 a0_2, .int .i64 a0_3, .slice A0_4 l0_4.length c0_4]) 48 ?_;intro gb277 hg w_ hbox hb;have xb_:=below_ofs bq hb;have n_:=jA4 (zac xb_ hb) (hbox) (ge0 hg xb_:w.heap.size≤gb277) (ge0 hg xb_:w.heap.size≤gb277);clear HB;obtain⟨HB,BK277,GW277,GE277⟩:=n_;clear xb_ hb hbox hg;obtain⟨c0,c1,c2,c3,c4,z0,z1,z2,z3,z4⟩:=cz5 BK277.out) | (refine jgc 92 ?_;refine jgs 8 Try.func92 #[.agg #[.int .i64 a0_0, .string a0_1, .int .i64 a0_2, .int .i64 a0_3, .slice A0_4 l0_4.length c0_4]] ?_;(with_reducible refine(spec_l14Item.calls a0_0 a0_1 a0_2 a0_3 _ _ l0_4 t278 t279 t280 t281 _ ?side1 ?side2 A3.out).mono ?_);(case side1=>exact jcs HR0_4.out);(case side2=>exact HC0_4.out);rintro e w_ ⟨v282,rfl,ho0,hb⟩;refine⟨_,rfl,?_⟩;have n_:=jA3 (zax ho0 (zal (bs1 GE277.out))) (jbb BK277.out hb) (zac (bs1 GE277.out) hb);clear BK277 HB;obtain⟨HO283,BK277,HB⟩:=n_;clear hb ho0;obtain⟨Ao8,co8,eo8⟩:=zbd HO283.out;subst eo8) | (refine jgc 24 ?_;refine jgs 9 Try.func24 #[.agg #[.string t278, .int .i64 t279, .int .i64 t280, .slice Ao8 t281.length co8]] ?_;(with_reducible refine(spec_ItemOk.calls k t278 t279 t280 _ _ t281 t284 _ ?side1 ?side2 A4.out).mono ?_);(case side1=>repeat(first | exact(zbp HO283.out).2.2 | (with_reducible first | apply zdd | apply zdq | apply zeb)));(case side2=>exact(zbp HO283.out).2.1);rintro e w_ ⟨rfl,hb⟩;refine⟨_,rfl,?_⟩;have n_:=jA3 (zdb (pR HO283.out) hb) (jbb BK277.out hb) (zac (bs1 GE277.out) hb);clear HO283 BK277 HB;obtain⟨HO283,BK277,HB⟩:=n_;(try clear hb);(try clear hb2);(try clear hk);(try clear hi)) | (refine jgc 88 ?_;refine jgs 14 Try.func88 #[.string a0_1] ?_;(with_reducible refine(spec_l13Route.calls k a0_1 _ _ A11.out).mono ?_);rintro e w_ ⟨rfl,hb⟩;refine⟨_,rfl,?_⟩;have n_:=jA2 (jbb BK277.out hb) (zac (bs1 GE277.out) hb);clear BK277 HB;obtain⟨BK277,HB⟩:=n_;(try clear hb);(try clear hb2);(try clear hk);(try clear hi);obtain⟨c0,c1,c2,c3,c4,z0,z1,z2,z3,z4⟩:=cz5 BK277.out) | (go_at_call 89;(with_reducible refine(spec_l1In.calls a0_3 0 100000 _ _ A33.out).mono ?_);rintro e w' ⟨rfl,⟨nd,rfl⟩⟩))
 go_ret
 exact⟨jex,(bs1 GE277.out)⟩):P:=h
theorem spec_LineOk.calls (k:Nat) (a0_0:Int) (a0_1:ByteArray) (a0_2:Int) (a0_3:Int) (A0_4:Option Addr) (c0_4:Nat) (l0_4:List Int) (r:Bool) (w:World) (hr0_4:Kd.C (Kd.int .u8) w A0_4 l0_4.length l0_4) (hc0_4:l0_4.length≤c0_4) (h:spec_LineOk.f k a0_0 a0_1 a0_2 a0_3 l0_4=some r):
  Calls Try.prog 34 #[.agg #[.int .i64 a0_0, .string a0_1, .int .i64 a0_2, .int .i64 a0_3, .slice A0_4 l0_4.length c0_4]] w fun e w'=>e= .returned (.bool r)∧Below w.heap.size w w':=by
 have hu48:=Try.underlying48
 have HR0_4:=Aside0.mk hr0_4
 have HC0_4:=Aside0.mk hc0_4
 clear hr0_4 hc0_4
 have HB:=Aside0.mk (zbo w.heap.size w)
 have H:(if a0_0=1 then((spec_l14Item.f a0_0 a0_1 a0_2 a0_3 l0_4).bind fun bt278=>((spec_ItemOk.f k bt278.1 bt278.2.1 bt278.2.2.1 bt278.2.2.2).bind fun t284=>(some t284))) else(if a0_0=2 then((spec_l13Route.f k a0_1).bind fun t285=>(if t285=true then(if a0_2=0 then(if a0_3=0 then(some ((l0_4.length:Int)==0)) else(some false)) else(some false)) else(some false))) else(if a0_0=3 then(if a0_1.toList=([]:List UInt8) then(if a0_2=0 then((spec_l1In.f a0_3 0 100000).bind fun t286=>(if t286=true then(some ((l0_4.length:Int)==0)) else(some false))) else(some false)) else(some false)) else(some false))))=some r:=h
 clear h
 by_cases c2:a0_0=1
 ·rw[if_pos c2] at H
  have R0:=beqT c2
  have S0:=zbb.mpr c2
  clear c2
  obtain⟨⟨t278,t279,t280,t281⟩,A3,H⟩:=bnd H
  try dsimp only at H
  obtain⟨t284,A4,H⟩:=bnd H
  obtain rfl:=Option.some.inj H
  exact spec_LineOk.wk
 rw[if_neg c2] at H
 have R0:=zau.mpr c2
 have S0:=zcz.mpr c2
 by_cases c10:a0_0=2
 ·rw[if_pos c10] at H
  have E0:=beqT c10
  have F0:=zbb.mpr c10
  clear c10
  obtain⟨t285,A11,H⟩:=bnd H
  by_cases c12:t285=true
  ·subst c12
   rw[if_pos rfl] at H
   by_cases c13:a0_2=0
   ·rw[if_pos c13] at H
    have G0:=beqT c13
    have H0:=zbb.mpr c13
    clear c13
    by_cases o0:a0_3=0
    ·rw[if_pos o0] at H
     have I0:=beqT o0
     have J0:=zbb.mpr o0
     clear o0
     obtain rfl:=Option.some.inj H
     exact spec_LineOk.wk
    rw[if_neg o0] at H
    have I0:=zau.mpr o0
    have J0:=zcz.mpr o0
    obtain rfl:=Option.some.inj H
    exact spec_LineOk.wk
   rw[if_neg c13] at H
   have G0:=zau.mpr c13
   have H0:=zcz.mpr c13
   obtain rfl:=Option.some.inj H
   exact spec_LineOk.wk
  replace c12:=zcp.mpr c12
  subst c12
  rw[if_neg (show ¬(false=true) by decide)] at H
  obtain rfl:=Option.some.inj H
  exact spec_LineOk.wk
 rw[if_neg c10] at H
 have E0:=zau.mpr c10
 have F0:=zcz.mpr c10
 by_cases B0:a0_0=3
 ·rw[if_pos B0] at H
  have K0:=beqT B0
  have L0:=zbb.mpr B0
  clear B0
  by_cases C0:a0_1.toList=([]:List UInt8)
  ·rw[if_pos C0] at H
   have M0:=beqT C0
   have N0:=zbb.mpr C0
   clear C0
   by_cases D0:a0_2=0
   ·rw[if_pos D0] at H
    have O0:=beqT D0
    have P0:=zbb.mpr D0
    clear D0
    obtain⟨t286,A33,H⟩:=bnd H
    by_cases Q0:t286=true
    ·subst Q0
     rw[if_pos rfl] at H
     obtain rfl:=Option.some.inj H
     exact spec_LineOk.wk
    replace Q0:=zcp.mpr Q0
    subst Q0
    rw[if_neg (show ¬(false=true) by decide)] at H
    obtain rfl:=Option.some.inj H
    exact spec_LineOk.wk
   rw[if_neg D0] at H
   have O0:=zau.mpr D0
   have P0:=zcz.mpr D0
   obtain rfl:=Option.some.inj H
   exact spec_LineOk.wk
  rw[if_neg C0] at H
  have M0:=zau.mpr C0
  have N0:=zcz.mpr C0
  obtain rfl:=Option.some.inj H
  exact spec_LineOk.wk
 rw[if_neg B0] at H
 have K0:=zau.mpr B0
 have L0:=zcz.mpr B0
 obtain rfl:=Option.some.inj H
 exact spec_LineOk.wk
def stringslite_IndexByte.f (a0:ByteArray) (a1:Int):Option (Int):=some (Lib.indexByte a0.data.toList a1.toNat.toUInt8)
theorem stringslite_IndexByte.calls (a0:ByteArray) (a1:Int) (r:Int) (w:World) (h:stringslite_IndexByte.f a0 a1=some r):
  Calls Try.prog 149 #[.string a0, .int .u8 a1] w fun e w'=>e= .returned (.int .i64 r)∧Drawn0 w w':=by
 obtain rfl:=Option.some.inj h
 clear h
 go_enter Try.func149,Try.ntmps149
 go_wp2
 rw[run_callFunc_extern Try.func156 (by kernel_rfl) (by kernel_rfl) (by kernel_rfl) (e:=Extern.BytealgIndexByte.indexByte) (by kernel_rfl),Lib.run_indexByteString]
 simp only[Result.andThen]
 rw[Oper.upon_value]
 go_wp2
 go_ret
 exact⟨rfl,Drawn0.refl _⟩
def strings_IndexByte.f (a0:ByteArray) (a1:Int):Option (Int):=(stringslite_IndexByte.f a0 a1).bind fun t177=>(some t177)
theorem strings_IndexByte.calls (a0:ByteArray) (a1:Int) (r:Int) (w:World) (h:strings_IndexByte.f a0 a1=some r):
  Calls Try.prog 137 #[.string a0, .int .u8 a1] w fun e w'=>e= .returned (.int .i64 r)∧Drawn0 w w':=by
 have H:((stringslite_IndexByte.f a0 a1).bind fun t177=>(some t177))=some r:=h
 clear h
 obtain⟨t177,A3,H⟩:=bnd H
 obtain rfl:=Option.some.inj H
 go_enter Try.func137,Try.ntmps137
 go_wp2_with (first | (refine jgc 149 ?_;refine jgs 7 Try.func149 #[.string a0, .int .u8 a1] ?_;(with_reducible refine(stringslite_IndexByte.calls a0 a1 t177 _ A3.out).mono ?_);rintro e w' ⟨rfl,⟨nd,rfl⟩⟩;refine⟨_,rfl,?_⟩))
 go_ret
 exact⟨by first | rfl | (simp;done) | (simp [*];done),by repeat(first | exact Drawn0.refl _ | apply Drawn0.step)⟩
end Go.Proofs.Ytlalkldjpniakaa.P
