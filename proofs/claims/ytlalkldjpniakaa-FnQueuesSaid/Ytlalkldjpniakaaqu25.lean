import Derived.Test.Ytlalkldjpniakaaqu24
namespace Go.Proofs.Ytlalkldjpniakaa.P
open Go.RowKit Go.Proofs.YtlalkldjpniakaaW.PrintWords Go.Proofs.YtlalkldjpniakaaW.PrintLast Go.Proofs.YtlalkldjpniakaaW.PrintMore
attribute [local go_sem] zbr zbs zch zci zbk zbl zbt zbu -- for this text's walks alone
set_option linter.unusedVariables false
set_option linter.unusedSimpArgs false
set_option maxHeartbeats 8000000
set_option maxRecDepth 100000

def spec_l1Below.f (s0_0:List Int) (s0_1:Int) (s0_2:Int) (a1:Int):Option (Int×Int×Int):=if a1≤0 then(some (0,s0_1,s0_2)) else(if a1≤256 then((spec_l1Byte.f s0_0 s0_1 s0_2).bind fun bt746=>(if a1=0 then(none) else(some (Int.tmod bt746.1 a1,bt746.2.1,bt746.2.2)))) else((spec_l1Byte.f s0_0 s0_1 s0_2).bind fun bt749=>((spec_l1Byte.f s0_0 bt749.2.1 bt749.2.2).bind fun bt752=>((spec_l1Byte.f s0_0 bt752.2.1 bt752.2.2).bind fun bt755=>((spec_l1Byte.f s0_0 bt755.2.1 bt755.2.2).bind fun bt758=>(if a1=0 then(none) else(some (Int.tmod (wrap64 ((wrap64 ((wrap64 ((wrap64 (bt749.1*16777216))+(wrap64 (bt752.1*65536))))+(wrap64 (bt755.1*256))))+bt758.1)) a1,bt758.2.1,bt758.2.2))))))))
theorem spec_l1Below.wk {P:Prop} (h:P:=by
 go_enter Try.func143,Try.ntmps143
 go_wp2_with (first | (refine jgc 151 ?_;refine jgs 18 Try.func151 #[.pointer (some ⟨g,0,none⟩)] ?_;(with_reducible refine(spec_l1Byte.calls g s0_0 s0_1 s0_2 t749 t750 t751 w0 _ ?side1 ?side2 A8.out).mono ?_);(case side1=>repeat(first | (with_reducible first | exact HI0.out | apply IsS132.alloc | apply IsS132.drewN | apply IsS132.drew | apply IsS132.set_1 | apply IsS132.set_2) | exact HI0.out));(case side2=>repeat(first | (with_reducible first | exact HB.out | apply zap | apply zai | apply zan | refine zao ?_ (IsS132.ge HI0.out)) | exact HB.out));rintro e w13 ⟨rfl,hi,hb,hk⟩;refine⟨_,rfl,?_⟩;have n_:=jA3 (zaq jk hk (.inl rfl)) (hb) (hi);clear HK HB HI0;obtain⟨HK,HB,HI0⟩:=n_;(try clear hb);(try clear hb2);(try clear hk);(try clear hi)) | (refine jgc 151 ?_;refine jgs 20 Try.func151 #[.pointer (some ⟨g,0,none⟩)] ?_;(with_reducible refine(spec_l1Byte.calls g s0_0 t750 t751 t752 t753 t754 w0 _ ?side1 ?side2 A9.out).mono ?_);(case side1=>repeat(first | (with_reducible first | exact HI0.out | apply IsS132.alloc | apply IsS132.drewN | apply IsS132.drew | apply IsS132.set_1 | apply IsS132.set_2) | exact HI0.out));(case side2=>repeat(first | (with_reducible first | exact HB.out | apply zap | apply zai | apply zan | refine zao ?_ (IsS132.ge HI0.out)) | exact HB.out));rintro e w14 ⟨rfl,hi,hb,hk⟩;refine⟨_,rfl,?_⟩;have n_:=jA3 (zaq jk hk (.inl rfl)) (hb) (hi);clear HK HB HI0;obtain⟨HK,HB,HI0⟩:=n_;(try clear hb);(try clear hb2);(try clear hk);(try clear hi)) | (refine jgc 151 ?_;refine jgs 22 Try.func151 #[.pointer (some ⟨g,0,none⟩)] ?_;(with_reducible refine(spec_l1Byte.calls g s0_0 t753 t754 t755 t756 t757 w0 _ ?side1 ?side2 A10.out).mono ?_);(case side1=>repeat(first | (with_reducible first | exact HI0.out | apply IsS132.alloc | apply IsS132.drewN | apply IsS132.drew | apply IsS132.set_1 | apply IsS132.set_2) | exact HI0.out));(case side2=>repeat(first | (with_reducible first | exact HB.out | apply zap | apply zai | apply zan | refine zao ?_ (IsS132.ge HI0.out)) | exact HB.out));rintro e w15 ⟨rfl,hi,hb,hk⟩;refine⟨_,rfl,?_⟩;have n_:=jA3 (zaq jk hk (.inl rfl)) (hb) (hi);clear HK HB HI0;obtain⟨HK,HB,HI0⟩:=n_;(try clear hb);(try clear hb2);(try clear hk);(try clear hi)) | (refine jgc 151 ?_;refine jgs 24 Try.func151 #[.pointer (some ⟨g,0,none⟩)] ?_;(with_reducible refine(spec_l1Byte.calls g s0_0 t756 t757 t758 t759 t760 w0 _ ?side1 ?side2 A11.out).mono ?_);(case side1=>repeat(first | (with_reducible first | exact HI0.out | apply IsS132.alloc | apply IsS132.drewN | apply IsS132.drew | apply IsS132.set_1 | apply IsS132.set_2) | exact HI0.out));(case side2=>repeat(first | (with_reducible first | exact HB.out | apply zap | apply zai | apply zan | refine zao ?_ (IsS132.ge HI0.out)) | exact HB.out));rintro e w16 ⟨rfl,hi,hb,hk⟩;refine⟨_,rfl,?_⟩;have n_:=jA3 (zaq jk hk (.inl rfl)) (hb) (hi);clear HK HB HI0;obtain⟨HK,HB,HI0⟩:=n_;(try clear hb);(try clear hb2);(try clear hk);(try clear hi)) | (refine jgc 151 ?_;refine jgs 14 Try.func151 #[.pointer (some ⟨g,0,none⟩)] ?_;(with_reducible refine(spec_l1Byte.calls g s0_0 s0_1 s0_2 t746 t747 t748 w0 _ ?side1 ?side2 A5.out).mono ?_);(case side1=>repeat(first | (with_reducible first | exact HI0.out | apply IsS132.alloc | apply IsS132.drewN | apply IsS132.drew | apply IsS132.set_1 | apply IsS132.set_2) | exact HI0.out));(case side2=>repeat(first | (with_reducible first | exact HB.out | apply zap | apply zai | apply zan | refine zao ?_ (IsS132.ge HI0.out)) | exact HB.out));rintro e w7 ⟨rfl,hi,hb,hk⟩;refine⟨_,rfl,?_⟩;have n_:=jA3 (zaq jk hk (.inl rfl)) (hb) (hi);clear HK HB HI0;obtain⟨HK,HB,HI0⟩:=n_;(try clear hb);(try clear hb2);(try clear hk);(try clear hi)))
 go_ret
 exact⟨jex,by repeat(first | (with_reducible first | exact HI0.out | apply IsS132.alloc | apply IsS132.drewN | apply IsS132.drew | apply IsS132.set_1 | apply IsS132.set_2) | exact HI0.out),by repeat(first | (with_reducible first | exact HB.out | apply zap | apply zai | apply zan | refine zao ?_ (IsS132.ge HI0.out)) | exact HB.out),by repeat(first | (with_reducible first | exact HK.out | apply zcy | apply zdp | apply zef | apply zdq) | exact HK.out)⟩):P:=h
theorem spec_l1Below.calls (g:Nat) (s0_0:List Int) (s0_1:Int) (s0_2:Int) (a1:Int) (r1:Int) (r2:Int) (r3:Int) (w0 w:World) (hI:IsS132 w0 w g s0_0 s0_1 s0_2) (hB:Below w0.heap.size w0 w) (h:spec_l1Below.f s0_0 s0_1 s0_2 a1=some (r1,r2,r3)):
  Calls Try.prog 143 #[.pointer (some ⟨g,0,none⟩), .int .i64 a1] w fun e w'=>e= .returned (.int .i64 r1)∧IsS132 w0 w' g s0_0 r2 r3∧Below w0.heap.size w0 w'∧KeepBut w w' g none:=by
 have HI0:=Aside0.mk hI
 have HK:=Aside0.mk (KeepBut.refl w g none)
 have HL:=Aside0.mk hB.size
 clear hI
 have HW0:=Aside0.mk hB.size
 have HB:=Aside0.mk hB
 clear hB
 have H:(if a1≤0 then(some (0,s0_1,s0_2)) else(if a1≤256 then((spec_l1Byte.f s0_0 s0_1 s0_2).bind fun bt746=>(if a1=0 then(none) else(some (Int.tmod bt746.1 a1,bt746.2.1,bt746.2.2)))) else((spec_l1Byte.f s0_0 s0_1 s0_2).bind fun bt749=>((spec_l1Byte.f s0_0 bt749.2.1 bt749.2.2).bind fun bt752=>((spec_l1Byte.f s0_0 bt752.2.1 bt752.2.2).bind fun bt755=>((spec_l1Byte.f s0_0 bt755.2.1 bt755.2.2).bind fun bt758=>(if a1=0 then(none) else(some (Int.tmod (wrap64 ((wrap64 ((wrap64 ((wrap64 (bt749.1*16777216))+(wrap64 (bt752.1*65536))))+(wrap64 (bt755.1*256))))+bt758.1)) a1,bt758.2.1,bt758.2.2)))))))))=some (r1,r2,r3):=h
 clear h
 by_cases c3:a1≤0
 ·rw[if_pos c3] at H
  have c3b0:=zag c3
  clear c3
  simp only[zax,zay] at H
  obtain⟨rfl,rfl,rfl⟩:=H
  exact spec_l1Below.wk
 rw[if_neg c3] at H
 have c3b0:=zaw c3
 clear c3
 by_cases c4:a1≤256
 ·rw[if_pos c4] at H
  have c4b0:=zag c4
  clear c4
  obtain⟨⟨t746,t747,t748⟩,A5,H⟩:=bnd H
  try dsimp only at H
  by_cases c6:a1=0
  ·rw[if_pos c6] at H
   exact absurd H (by simp)
  rw[if_neg c6] at H
  have c6b0:=zbb.mpr c6
  have c6b1:=zda.mpr c6
  simp only[zax,zay] at H
  obtain⟨rfl,rfl,rfl⟩:=H
  exact spec_l1Below.wk
 rw[if_neg c4] at H
 have c4b0:=zaw c4
 clear c4
 obtain⟨⟨t749,t750,t751⟩,A8,H⟩:=bnd H
 try dsimp only at H
 obtain⟨⟨t752,t753,t754⟩,A9,H⟩:=bnd H
 try dsimp only at H
 obtain⟨⟨t755,t756,t757⟩,A10,H⟩:=bnd H
 try dsimp only at H
 obtain⟨⟨t758,t759,t760⟩,A11,H⟩:=bnd H
 try dsimp only at H
 by_cases c12:a1=0
 ·rw[if_pos c12] at H
  exact absurd H (by simp)
 rw[if_neg c12] at H
 have c12b0:=zbb.mpr c12
 have c12b1:=zda.mpr c12
 simp only[zax,zay] at H
 obtain⟨rfl,rfl,rfl⟩:=H
 exact spec_l1Below.wk
def spec_l1Pick.f (s0_0:List Int) (s0_1:Int) (s0_2:Int) (l1:List ByteArray):Option (ByteArray×Int×Int):=(spec_l1Below.f s0_0 s0_1 s0_2 (l1.length:Int)).bind fun bt761=>(if 0≤bt761.1 then(if bt761.1<(l1.length:Int) then(some (rdOf ByteArray.empty l1 bt761.1,bt761.2.1,bt761.2.2)) else(none)) else(none))
theorem spec_l1Pick.calls (g:Nat) (s0_0:List Int) (s0_1:Int) (s0_2:Int) (A1:Option Addr) (c1:Nat) (l1:List ByteArray) (r1:ByteArray) (r2:Int) (r3:Int) (w0 w:World) (hI:IsS132 w0 w g s0_0 s0_1 s0_2) (hB:Below w0.heap.size w0 w) (hr1:Kd.C Kd.string w A1 l1.length l1) (hc1:l1.length≤c1) (hf1:∀ ad,A1=some ad→0<l1.length→ad.block≠g) (h:spec_l1Pick.f s0_0 s0_1 s0_2 l1=some (r1,r2,r3)):
  Calls Try.prog 145 #[.pointer (some ⟨g,0,none⟩), .slice A1 l1.length c1] w fun e w'=>e= .returned (.string r1)∧IsS132 w0 w' g s0_0 r2 r3∧Below w0.heap.size w0 w'∧KeepBut w w' g none:=by
 have HR1:=Aside0.mk hr1
 have HC1:=Aside0.mk hc1
 clear hr1 hc1
 have HI0:=Aside0.mk hI
 have HK:=Aside0.mk (KeepBut.refl w g none)
 have HL:=Aside0.mk hB.size
 clear hI
 have HW0:=Aside0.mk hB.size
 have HB:=Aside0.mk hB
 clear hB
 have H:((spec_l1Below.f s0_0 s0_1 s0_2 (l1.length:Int)).bind fun bt761=>(if 0≤bt761.1 then(if bt761.1<(l1.length:Int) then(some (rdOf ByteArray.empty l1 bt761.1,bt761.2.1,bt761.2.2)) else(none)) else(none)))=some (r1,r2,r3):=h
 clear h
 obtain⟨⟨t761,t762,t763⟩,A3,H⟩:=bnd H
 try dsimp only at H
 by_cases c4:0≤t761
 ·rw[if_pos c4] at H
  have c4b0:=zag c4
  clear c4
  by_cases c5:t761<(l1.length:Int)
  ·rw[if_pos c5] at H
   have c5b0:=zag c5
   clear c5
   simp only[zax,zay] at H
   obtain⟨rfl,rfl,rfl⟩:=H
   go_enter Try.func145,Try.ntmps145
   go_wp2_with (first | (refine jgc 143 ?_;refine jgs 9 Try.func143 #[.pointer (some ⟨g,0,none⟩), .int .i64 (l1.length:Int)] ?_;(with_reducible refine(spec_l1Below.calls g s0_0 s0_1 s0_2 (l1.length:Int) t761 t762 t763 w0 _ ?side1 ?side2 A3.out).mono ?_);(case side1=>repeat(first | (with_reducible first | exact HI0.out | apply IsS132.alloc | apply IsS132.drewN | apply IsS132.drew | apply IsS132.set_1 | apply IsS132.set_2) | exact HI0.out));(case side2=>repeat(first | (with_reducible first | exact HB.out | apply zap | apply zai | apply zan | refine zao ?_ (IsS132.ge HI0.out)) | exact HB.out));rintro e w6 ⟨rfl,hi,hb,hk⟩;refine⟨_,rfl,?_⟩;have n_:=jA3 (zaq jk hk (.inl rfl)) (hb) (hi);clear HK HB HI0;obtain⟨HK,HB,HI0⟩:=n_;(try clear hb);(try clear hb2);(try clear hk);(try clear hi);have p764:0≤(t761:Int):=zac jab;have q764:t761<(l1.length:Int):=zac jab;obtain⟨ad764,e764,hx764_0⟩:=Kd.at_string HR1.out t761 p764 q764;cases e764;replace hx764_0:=keep_cell HK.out hx764_0 (by first | (rw[add_block];exact hf1 _ rfl (by omega)) | exact hf1 _ rfl (by omega) | exact hf1 ad764 rfl (by omega));replace p764:=zbd p764;replace q764:=zbd q764))
   go_ret
   exact⟨jex,by repeat(first | (with_reducible first | exact HI0.out | apply IsS132.alloc | apply IsS132.drewN | apply IsS132.drew | apply IsS132.set_1 | apply IsS132.set_2) | exact HI0.out),by repeat(first | (with_reducible first | exact HB.out | apply zap | apply zai | apply zan | refine zao ?_ (IsS132.ge HI0.out)) | exact HB.out),by repeat(first | (with_reducible first | exact HK.out | apply zcy | apply zdp | apply zef | apply zdq) | exact HK.out)⟩
  rw[if_neg c5] at H
  exact absurd H (by simp)
 rw[if_neg c4] at H
 exact absurd H (by simp)
def spec_l13DrawRoute.f (s0_0:List Int) (s0_1:Int) (s0_2:Int):Option (ByteArray×Int×Int):=(spec_l1Pick.f s0_0 s0_1 s0_2 (([(⟨#[48,48,48,48,48,48,48,48,48,48,48,48,48,48,48,48]⟩:ByteArray),(⟨#[48,48,48,48,48,48,48,48,48,48,48,48,48,48,102,102]⟩:ByteArray),(⟨#[97,98,99,100,101,102,48,49,50,51,52,53,54,55,56,57]⟩:ByteArray)]:List ByteArray))).bind fun bt768=>(some (bt768.1,bt768.2.1,bt768.2.2))
theorem spec_l13DrawRoute.calls (g:Nat) (s0_0:List Int) (s0_1:Int) (s0_2:Int) (r1:ByteArray) (r2:Int) (r3:Int) (w0 w:World) (hI:IsS132 w0 w g s0_0 s0_1 s0_2) (hB:Below w0.heap.size w0 w) (h:spec_l13DrawRoute.f s0_0 s0_1 s0_2=some (r1,r2,r3)):
  Calls Try.prog 121 #[.pointer (some ⟨g,0,none⟩)] w fun e w'=>e= .returned (.string r1)∧IsS132 w0 w' g s0_0 r2 r3∧Below w0.heap.size w0 w'∧KeepBut w w' g none:=by
 have HI0:=Aside0.mk hI
 have HK:=Aside0.mk (KeepBut.refl w g none)
 have HL:=Aside0.mk hB.size
 clear hI
 have HW0:=Aside0.mk hB.size
 have HB:=Aside0.mk hB
 clear hB
 have H:((spec_l1Pick.f s0_0 s0_1 s0_2 (([(⟨#[48,48,48,48,48,48,48,48,48,48,48,48,48,48,48,48]⟩:ByteArray),(⟨#[48,48,48,48,48,48,48,48,48,48,48,48,48,48,102,102]⟩:ByteArray),(⟨#[97,98,99,100,101,102,48,49,50,51,52,53,54,55,56,57]⟩:ByteArray)]:List ByteArray))).bind fun bt768=>(some (bt768.1,bt768.2.1,bt768.2.2)))=some (r1,r2,r3):=h
 clear h
 obtain⟨y765,hy765⟩:∃ y_:List ByteArray,y_=(([(⟨#[48,48,48,48,48,48,48,48,48,48,48,48,48,48,48,48]⟩:ByteArray),(⟨#[48,48,48,48,48,48,48,48,48,48,48,48,48,48,102,102]⟩:ByteArray),(⟨#[97,98,99,100,101,102,48,49,50,51,52,53,54,55,56,57]⟩:ByteArray)]:List ByteArray)):=⟨_,rfl⟩
 replace H:((spec_l1Pick.f s0_0 s0_1 s0_2 y765).bind fun bt768=>(some (bt768.1,bt768.2.1,bt768.2.2)))=some (r1,r2,r3):=jrw hy765 H
 have Ny765:=Aside0.mk hy765
 clear hy765
 obtain⟨⟨t768,t769,t770⟩,A2,H⟩:=bnd H
 try dsimp only at H
 simp only[zax,zay] at H
 obtain⟨rfl,rfl,rfl⟩:=H
 go_enter Try.func121,Try.ntmps121
 go_wp2_with (first | (refine jgd 4 ?_;refine Kd.R_lit Kd.string _ 9 ?hg (N:=4) ?hd (xs:=([(⟨#[48,48,48,48,48,48,48,48,48,48,48,48,48,48,48,48]⟩:ByteArray),(⟨#[48,48,48,48,48,48,48,48,48,48,48,48,48,48,102,102]⟩:ByteArray),(⟨#[97,98,99,100,101,102,48,49,50,51,52,53,54,55,56,57]⟩:ByteArray)]:List ByteArray)) (inner:=[.string (⟨#[48,48,48,48,48,48,48,48,48,48,48,48,48,48,48,48]⟩:ByteArray), .string (⟨#[48,48,48,48,48,48,48,48,48,48,48,48,48,48,102,102]⟩:ByteArray), .string (⟨#[97,98,99,100,101,102,48,49,50,51,52,53,54,55,56,57]⟩:ByteArray)]) (ok:=fun _=>True) (okp:=fun _=>True) ?hr ?hp (fun _ hk=>hk) trivial (zbe _ _) (zbc _) (by simp) ?_;(case hd=>rfl);(case hg=>rfl);(case hr=>first | (go_simp;done) | (go_simp;rfl));(case hp=>exact(zdd (show Kd.M Kd.string _ _ _ (⟨#[48,48,48,48,48,48,48,48,48,48,48,48,48,48,48,48]⟩:ByteArray) [.string (⟨#[48,48,48,48,48,48,48,48,48,48,48,48,48,48,48,48]⟩:ByteArray)] from rfl) (zdd (show Kd.M Kd.string _ _ _ (⟨#[48,48,48,48,48,48,48,48,48,48,48,48,48,48,102,102]⟩:ByteArray) [.string (⟨#[48,48,48,48,48,48,48,48,48,48,48,48,48,48,102,102]⟩:ByteArray)] from rfl) (zdd (show Kd.M Kd.string _ _ _ (⟨#[97,98,99,100,101,102,48,49,50,51,52,53,54,55,56,57]⟩:ByteArray) [.string (⟨#[97,98,99,100,101,102,48,49,50,51,52,53,54,55,56,57]⟩:ByteArray)] from rfl) (Reps.none _ _)))));intro v766 w3 ho4 hb hg_ hnew_;clear hg_ hnew_;(first | rw[← Ny765.out] at ho4 | (simp only[Int.reduceToNat] at ho4;rw[← Ny765.out] at ho4));have n_:=jA4 (zbf ho4 (zcj (w:=w) (g:=g) (row:=none) jk)) (IsS132.below (by repeat(first | (with_reducible first | exact HI0.out | apply IsS132.alloc | apply IsS132.drewN | apply IsS132.drew | apply IsS132.set_1 | apply IsS132.set_2) | exact HI0.out)) hb) (zaq jk (zcb hb g none) (.inl rfl)) (zah (bs1 (IsS132.ge HI0.out)) hb);clear HI0 HK HB;obtain⟨HO767,HI0,HK,HB⟩:=n_;clear hb ho4;obtain⟨Ao5,co5,eo5⟩:=zbh HO767.out;subst eo5) | (refine jgc 145 ?_;refine jgs 5 Try.func145 #[.pointer (some ⟨g,0,none⟩), .slice Ao5 y765.length co5] ?_;(with_reducible refine(spec_l1Pick.calls g s0_0 s0_1 s0_2 _ _ y765 t768 t769 t770 w0 _ ?side1 ?side2 ?side3 ?side4 ?side5 A2.out).mono ?_);(case side1=>repeat(first | (with_reducible first | exact HI0.out | apply IsS132.alloc | apply IsS132.drewN | apply IsS132.drew | apply IsS132.set_1 | apply IsS132.set_2) | exact HI0.out));(case side2=>repeat(first | (with_reducible first | exact HB.out | apply zap | apply zai | apply zan | refine zao ?_ (IsS132.ge HI0.out)) | exact HB.out));(case side3=>repeat(first | exact(zdh HO767.out).2.2 | (with_reducible first | apply zdo | apply zem | apply Kd.C_drew)));(case side4=>exact(zdh HO767.out).2.1);(case side5=>exact far_slice (IsS132.own_ne HI0.out HO767.out (by decide)));rintro e w6 ⟨rfl,hi,hb,hk⟩;refine⟨_,rfl,?_⟩;have n_:=jA4 (zas (zcx (IsS132.apart (show IsS132 w0 _ g s0_0 s0_1 s0_2 from by repeat(first | (with_reducible first | exact HI0.out | apply IsS132.alloc | apply IsS132.drewN | apply IsS132.drew | apply IsS132.set_1 | apply IsS132.set_2) | exact HI0.out)) (pR HO767.out) (by decide)) hk (fun _ h=>h.2)) (fun _ h=>h.1)) (zaq jk hk (.inl rfl)) (hb) (hi);clear HO767 HK HB HI0;obtain⟨HO767,HK,HB,HI0⟩:=n_;(try clear hb);(try clear hb2);(try clear hk);(try clear hi)))
 go_ret
 exact⟨jex,by repeat(first | (with_reducible first | exact HI0.out | apply IsS132.alloc | apply IsS132.drewN | apply IsS132.drew | apply IsS132.set_1 | apply IsS132.set_2) | exact HI0.out),by repeat(first | (with_reducible first | exact HB.out | apply zap | apply zai | apply zan | refine zao ?_ (IsS132.ge HI0.out)) | exact HB.out),by repeat(first | (with_reducible first | exact HK.out | apply zcy | apply zdp | apply zef | apply zdq) | exact HK.out)⟩
def spec_l1PickInt.f (s0_0:List Int) (s0_1:Int) (s0_2:Int) (l1:List Int):Option (Int×Int×Int):=(spec_l1Below.f s0_0 s0_1 s0_2 (l1.length:Int)).bind fun bt771=>(if 0≤bt771.1 then(if bt771.1<(l1.length:Int) then(some (rd l1 bt771.1,bt771.2.1,bt771.2.2)) else(none)) else(none))
theorem spec_l1PickInt.calls (g:Nat) (s0_0:List Int) (s0_1:Int) (s0_2:Int) (A1:Option Addr) (c1:Nat) (l1:List Int) (r1:Int) (r2:Int) (r3:Int) (w0 w:World) (hI:IsS132 w0 w g s0_0 s0_1 s0_2) (hB:Below w0.heap.size w0 w) (hr1:Kd.C (Kd.int .i64) w A1 l1.length l1) (hc1:l1.length≤c1) (hf1:∀ ad,A1=some ad→0<l1.length→ad.block≠g) (h:spec_l1PickInt.f s0_0 s0_1 s0_2 l1=some (r1,r2,r3)):
  Calls Try.prog 122 #[.pointer (some ⟨g,0,none⟩), .slice A1 l1.length c1] w fun e w'=>e= .returned (.int .i64 r1)∧IsS132 w0 w' g s0_0 r2 r3∧Below w0.heap.size w0 w'∧KeepBut w w' g none:=by
 have HR1:=Aside0.mk hr1
 have HC1:=Aside0.mk hc1
 clear hr1 hc1
 have HI0:=Aside0.mk hI
 have HK:=Aside0.mk (KeepBut.refl w g none)
 have HL:=Aside0.mk hB.size
 clear hI
 have HW0:=Aside0.mk hB.size
 have HB:=Aside0.mk hB
 clear hB
 have H:((spec_l1Below.f s0_0 s0_1 s0_2 (l1.length:Int)).bind fun bt771=>(if 0≤bt771.1 then(if bt771.1<(l1.length:Int) then(some (rd l1 bt771.1,bt771.2.1,bt771.2.2)) else(none)) else(none)))=some (r1,r2,r3):=h
 clear h
 obtain⟨⟨t771,t772,t773⟩,A3,H⟩:=bnd H
 try dsimp only at H
 by_cases c4:0≤t771
 ·rw[if_pos c4] at H
  have c4b0:=zag c4
  clear c4
  by_cases c5:t771<(l1.length:Int)
  ·rw[if_pos c5] at H
   have c5b0:=zag c5
   clear c5
   simp only[zax,zay] at H
   obtain⟨rfl,rfl,rfl⟩:=H
   go_enter Try.func122,Try.ntmps122
   go_wp2_with (first | (refine jgc 143 ?_;refine jgs 9 Try.func143 #[.pointer (some ⟨g,0,none⟩), .int .i64 (l1.length:Int)] ?_;(with_reducible refine(spec_l1Below.calls g s0_0 s0_1 s0_2 (l1.length:Int) t771 t772 t773 w0 _ ?side1 ?side2 A3.out).mono ?_);(case side1=>repeat(first | (with_reducible first | exact HI0.out | apply IsS132.alloc | apply IsS132.drewN | apply IsS132.drew | apply IsS132.set_1 | apply IsS132.set_2) | exact HI0.out));(case side2=>repeat(first | (with_reducible first | exact HB.out | apply zap | apply zai | apply zan | refine zao ?_ (IsS132.ge HI0.out)) | exact HB.out));rintro e w6 ⟨rfl,hi,hb,hk⟩;refine⟨_,rfl,?_⟩;have n_:=jA3 (zaq jk hk (.inl rfl)) (hb) (hi);clear HK HB HI0;obtain⟨HK,HB,HI0⟩:=n_;(try clear hb);(try clear hb2);(try clear hk);(try clear hi);have p774:0≤(t771:Int):=zac jab;have q774:t771<(l1.length:Int):=zac jab;obtain⟨ad774,e774,hx774_0⟩:=Kd.at_int HR1.out t771 p774 q774;cases e774;replace hx774_0:=keep_cell HK.out hx774_0 (by first | (rw[add_block];exact hf1 _ rfl (by omega)) | exact hf1 _ rfl (by omega) | exact hf1 ad774 rfl (by omega));replace p774:=zbd p774;replace q774:=zbd q774))
   go_ret
   exact⟨jex,by repeat(first | (with_reducible first | exact HI0.out | apply IsS132.alloc | apply IsS132.drewN | apply IsS132.drew | apply IsS132.set_1 | apply IsS132.set_2) | exact HI0.out),by repeat(first | (with_reducible first | exact HB.out | apply zap | apply zai | apply zan | refine zao ?_ (IsS132.ge HI0.out)) | exact HB.out),by repeat(first | (with_reducible first | exact HK.out | apply zcy | apply zdp | apply zef | apply zdq) | exact HK.out)⟩
  rw[if_neg c5] at H
  exact absurd H (by simp)
 rw[if_neg c4] at H
 exact absurd H (by simp)
end Go.Proofs.Ytlalkldjpniakaa.P
