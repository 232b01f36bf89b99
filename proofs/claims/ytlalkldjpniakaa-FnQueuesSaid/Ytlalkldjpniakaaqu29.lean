import Derived.Test.Ytlalkldjpniakaaqu28
namespace Go.Proofs.Ytlalkldjpniakaa.P
open Go.RowKit Go.Proofs.YtlalkldjpniakaaW.PrintWords Go.Proofs.YtlalkldjpniakaaW.PrintLast Go.Proofs.YtlalkldjpniakaaW.PrintMore
attribute [local go_sem] zbr zbs zch zci zbk zbl zbt zbu -- for this text's walks alone
set_option linter.unusedVariables false
set_option linter.unusedSimpArgs false
set_option maxHeartbeats 8000000
set_option maxRecDepth 100000

def spec_l13Draw.f (k:Nat) (s0_0:List Int) (s0_1:Int) (s0_2:Int):Option ((List (S34))×Int×Int):=(spec_l13DrawRight.f k s0_0 s0_1 s0_2).bind fun bt897=>((spec_l1Once.f s0_0 bt897.2.1 bt897.2.2 6).bind fun bt902=>(if bt902.1=true then((spec_l13DrawItem.f k s0_0 bt902.2.1 bt902.2.2).bind fun bt905=>(if bt897.1.length<2513169434916 then(some ((bt897.1++[(⟨bt905.1,bt905.2.1,bt905.2.2.1,bt905.2.2.2.1⟩:S34)]),bt905.2.2.2.2.1,bt905.2.2.2.2.2)) else(none))) else(some (bt897.1,bt902.2.1,bt902.2.2))))
theorem spec_l13Draw.mono:∀ a0 a1 a2 k,LeO (spec_l13Draw.f k a0 a1 a2) (spec_l13Draw.f (k+1) a0 a1 a2):=by
 intro a0 a1 a2 k
 unfold spec_l13Draw.f
 have m0:=@spec_l13DrawItem.mono
 have m1:=@spec_l13DrawRight.mono
 exact mt
theorem spec_l13Draw.wk {P:Prop} (h:P:=by
 go_enter Try.func118,Try.ntmps118
 go_wp2_with (first | (refine jgc 141 ?_;refine jgs 5 Try.func141 #[.pointer (some ⟨g,0,none⟩)] ?_;(with_reducible refine(spec_l13DrawRight.calls k g s0_0 s0_1 s0_2 t897 t900 t901 w0 _ ?side1 ?side2 A2.out).mono ?_);(case side1=>repeat(first | (with_reducible first | exact HI0.out | apply IsS132.alloc | apply IsS132.drewN | apply IsS132.drew | apply IsS132.set_1 | apply IsS132.set_2) | exact HI0.out));(case side2=>repeat(first | (with_reducible first | exact HB.out | apply zap | apply zai | apply zan | refine zao ?_ (IsS132.ge HI0.out)) | exact HB.out));rintro e w7 ⟨v898,rfl,ho0,hi,hb,hk⟩;refine⟨_,rfl,?_⟩;have n_:=jA4 (zdf ho0 (zcj (w:=w) (g:=g) (row:=none) jk)) (zaq jk hk (.inl rfl)) (hb) (hi);clear HK HB HI0;obtain⟨HO899,HK,HB,HI0⟩:=n_;clear hb hk hi ho0) | (refine jgc 142 ?_;refine jgs 7 Try.func142 #[.pointer (some ⟨g,0,none⟩), .int .i64 6] ?_;(with_reducible refine(spec_l1Once.calls g s0_0 t900 t901 6 true t903 t904 w0 _ ?side1 ?side2 A3.out).mono ?_);(case side1=>repeat(first | (with_reducible first | exact HI0.out | apply IsS132.alloc | apply IsS132.drewN | apply IsS132.drew | apply IsS132.set_1 | apply IsS132.set_2) | exact HI0.out));(case side2=>repeat(first | (with_reducible first | exact HB.out | apply zap | apply zai | apply zan | refine zao ?_ (IsS132.ge HI0.out)) | exact HB.out));rintro e w8 ⟨rfl,hi,hb,hk⟩;refine⟨_,rfl,?_⟩;have n_:=jA4 (zca (Kd.S_keep (IsS132.apartS (show IsS132 w0 _ g s0_0 t900 t901 from by repeat(first | (with_reducible first | exact HI0.out | apply IsS132.alloc | apply IsS132.drewN | apply IsS132.drew | apply IsS132.set_1 | apply IsS132.set_2) | exact HI0.out)) (pS HO899.out) (by decide)) hk (fun _ h=>h.2)) (fun _ h=>h.1)) (zaq jk hk (.inl rfl)) (hb) (hi);clear HO899 HK HB HI0;obtain⟨HO899,HK,HB,HI0⟩:=n_;(try clear hb);(try clear hb2);(try clear hk);(try clear hi)) | (refine jgc 119 ?_;refine jgs 10 Try.func119 #[.pointer (some ⟨g,0,none⟩)] ?_;(with_reducible refine(spec_l13DrawItem.calls k g s0_0 t903 t904 t905 t906 t907 t908 t911 t912 w0 _ ?side1 ?side2 A5.out).mono ?_);(case side1=>repeat(first | (with_reducible first | exact HI0.out | apply IsS132.alloc | apply IsS132.drewN | apply IsS132.drew | apply IsS132.set_1 | apply IsS132.set_2) | exact HI0.out));(case side2=>repeat(first | (with_reducible first | exact HB.out | apply zap | apply zai | apply zan | refine zao ?_ (IsS132.ge HI0.out)) | exact HB.out));rintro e w9 ⟨v909,rfl,ho0,hi,hb,hk⟩;refine⟨_,rfl,?_⟩;have n_:=jA5 (zca (Kd.S_told (Kd.S_oldK (IsS132.apartS (show IsS132 w0 _ g s0_0 t903 t904 from by repeat(first | (with_reducible first | exact HI0.out | apply IsS132.alloc | apply IsS132.drewN | apply IsS132.drew | apply IsS132.set_1 | apply IsS132.set_2) | exact HI0.out)) (pS HO899.out) (by decide)) hk) (zcp ho0)) (fun _ h_=>h_.1)) (zbf ho0 (zcj (w:=w) (g:=g) (row:=none) jk)) (zaq jk hk (.inl rfl)) (hb) (hi);clear HO899 HK HB HI0;obtain⟨HO899,HO910,HK,HB,HI0⟩:=n_;clear hb hk hi ho0;obtain⟨Ao11,co11,eo11⟩:=zbh HO910.out;subst eo11) | ((with_reducible refine zbz (b:= .append) (xs:= #[.tmp 8, .tmp 11]) rfl ?_);at_builtin;refine zdj k34 w.heap.size rfl (.tmp 8) (.tmp 11) 25 34 (.agg #[(.string ⟨#[]⟩),(.int .i64 0),(.int .i64 0),(.slice none 0 0)]) 56 rfl Try.underlying25 info34 rfl (by decide) (by omega) v898 t897 (⟨t905,t906,t907,t908⟩:S34) [.string t905, .int .i64 t906, .int .i64 t907, .slice Ao11 t908.length co11] (fun _=>True) (fun k_=>some k_=(.slice Ao11 t908.length co11:Value).ownBlock) rfl rfl ?aP (fun k_ hk_=>((zas (ok':=fun k_=>((fun _=>True)) k_∧some k_≠(v898:Value).ownBlock) (zcc (HO910.out) (zcl HO899.out) (by decide)) (fun k_ hk=>⟨trivial,hk.2⟩))).1 k_ hk_.symm) ?aF ?aO (zbe _ _) ?aS ?aL ?_;(case aP=>exact k34_mkM _ _ _ (⟨t905,t906,t907,t908⟩:S34) (zas (zdm rfl (zas (ok':=fun k_=>((fun _=>True)) k_∧some k_≠(v898:Value).ownBlock) (zcc (HO910.out) (zcl HO899.out) (by decide)) (fun k_ hk=>⟨trivial,hk.2⟩))) (fun _ h_=>h_)));(case aF=>exact(fun _ _=>trivial));(case aO=>exact(by(with_reducible repeat(first | apply zcn | apply zco | apply zcw));exact zca HO899.out (fun k_ hk=>⟨trivial,fun e_=>hk.2 e_⟩)));(case aS=>exact(zcj (w:=w) (g:=g) (row:=none) jk));(case aL=>have:=LMc6.out;omega);intro v914 w_ ho hb hg hat;rw[← Ny913.out] at ho;have n_:=jA4 (IsS132.grown (by repeat(first | (with_reducible first | exact HI0.out | apply IsS132.alloc | apply IsS132.drewN | apply IsS132.drew | apply IsS132.set_1 | apply IsS132.set_2) | exact HI0.out)) hg (IsS132.own_neS HI0.out HO899.out (by decide))) (below_weaken (bs1 (IsS132.ge HI0.out)) HL.out hb) (zaq jk (KeepBut.of_grown hg g) (Kd.S_base2 HO899.out)) (ho);clear HI0 HB HK HO899 HO910;obtain⟨HI0,HB,HK,HO915⟩:=n_;clear ho hb hg hat) | (refine jgc 141 ?_;refine jgs 5 Try.func141 #[.pointer (some ⟨g,0,none⟩)] ?_;(with_reducible refine(spec_l13DrawRight.calls k g s0_0 s0_1 s0_2 t897 t900 t901 w0 _ ?side1 ?side2 A2.out).mono ?_);(case side1=>repeat(first | (with_reducible first | exact HI0.out | apply IsS132.alloc | apply IsS132.drewN | apply IsS132.drew | apply IsS132.set_1 | apply IsS132.set_2) | exact HI0.out));(case side2=>repeat(first | (with_reducible first | exact HB.out | apply zap | apply zai | apply zan | refine zao ?_ (IsS132.ge HI0.out)) | exact HB.out));rintro e w12 ⟨v898,rfl,ho0,hi,hb,hk⟩;refine⟨_,rfl,?_⟩;have n_:=jA4 (zdf ho0 (zcj (w:=w) (g:=g) (row:=none) jk)) (zaq jk hk (.inl rfl)) (hb) (hi);clear HK HB HI0;obtain⟨HO899,HK,HB,HI0⟩:=n_;clear hb hk hi ho0) | (refine jgc 142 ?_;refine jgs 7 Try.func142 #[.pointer (some ⟨g,0,none⟩), .int .i64 6] ?_;(with_reducible refine(spec_l1Once.calls g s0_0 t900 t901 6 false t903 t904 w0 _ ?side1 ?side2 A3.out).mono ?_);(case side1=>repeat(first | (with_reducible first | exact HI0.out | apply IsS132.alloc | apply IsS132.drewN | apply IsS132.drew | apply IsS132.set_1 | apply IsS132.set_2) | exact HI0.out));(case side2=>repeat(first | (with_reducible first | exact HB.out | apply zap | apply zai | apply zan | refine zao ?_ (IsS132.ge HI0.out)) | exact HB.out));rintro e w13 ⟨rfl,hi,hb,hk⟩;refine⟨_,rfl,?_⟩;have n_:=jA4 (zca (Kd.S_keep (IsS132.apartS (show IsS132 w0 _ g s0_0 t900 t901 from by repeat(first | (with_reducible first | exact HI0.out | apply IsS132.alloc | apply IsS132.drewN | apply IsS132.drew | apply IsS132.set_1 | apply IsS132.set_2) | exact HI0.out)) (pS HO899.out) (by decide)) hk (fun _ h=>h.2)) (fun _ h=>h.1)) (zaq jk hk (.inl rfl)) (hb) (hi);clear HO899 HK HB HI0;obtain⟨HO899,HK,HB,HI0⟩:=n_;(try clear hb);(try clear hb2);(try clear hk);(try clear hi)))
 go_ret
 first | (exact⟨_,jex,by(with_reducible repeat(first | apply zcn | apply zco | apply zcw));exact HO915.out,by repeat(first | (with_reducible first | exact HI0.out | apply IsS132.alloc | apply IsS132.drewN | apply IsS132.drew | apply IsS132.set_1 | apply IsS132.set_2) | exact HI0.out),by repeat(first | (with_reducible first | exact HB.out | apply zap | apply zai | apply zan | refine zao ?_ (IsS132.ge HI0.out)) | exact HB.out),by repeat(first | (with_reducible first | exact HK.out | apply zcy | apply zdp | apply zef | apply zdq) | exact HK.out)⟩) | (exact⟨_,jex,by(with_reducible repeat(first | apply zcn | apply zco | apply zcw));exact HO899.out,by repeat(first | (with_reducible first | exact HI0.out | apply IsS132.alloc | apply IsS132.drewN | apply IsS132.drew | apply IsS132.set_1 | apply IsS132.set_2) | exact HI0.out),by repeat(first | (with_reducible first | exact HB.out | apply zap | apply zai | apply zan | refine zao ?_ (IsS132.ge HI0.out)) | exact HB.out),by repeat(first | (with_reducible first | exact HK.out | apply zcy | apply zdp | apply zef | apply zdq) | exact HK.out)⟩)):P:=h
theorem spec_l13Draw.calls (k:Nat) (g:Nat) (s0_0:List Int) (s0_1:Int) (s0_2:Int) (r1:List (S34)) (r2:Int) (r3:Int) (w0 w:World) (hI:IsS132 w0 w g s0_0 s0_1 s0_2) (hB:Below w0.heap.size w0 w) (h:spec_l13Draw.f k s0_0 s0_1 s0_2=some (r1,r2,r3)):
  Calls Try.prog 118 #[.pointer (some ⟨g,0,none⟩)] w fun e w'=>∃ v0_:Value,e= .returned (v0_)∧Kd.S k34 34 w' w.heap.size (fun _=>True) v0_ r1∧IsS132 w0 w' g s0_0 r2 r3∧Below w0.heap.size w0 w'∧KeepBut w w' g none:=by
 have HI0:=Aside0.mk hI
 have HK:=Aside0.mk (KeepBut.refl w g none)
 have HL:=Aside0.mk hB.size
 clear hI
 have HW0:=Aside0.mk hB.size
 have HB:=Aside0.mk hB
 clear hB
 have H:((spec_l13DrawRight.f k s0_0 s0_1 s0_2).bind fun bt897=>((spec_l1Once.f s0_0 bt897.2.1 bt897.2.2 6).bind fun bt902=>(if bt902.1=true then((spec_l13DrawItem.f k s0_0 bt902.2.1 bt902.2.2).bind fun bt905=>(if bt897.1.length<2513169434916 then(some ((bt897.1++[(⟨bt905.1,bt905.2.1,bt905.2.2.1,bt905.2.2.2.1⟩:S34)]),bt905.2.2.2.2.1,bt905.2.2.2.2.2)) else(none))) else(some (bt897.1,bt902.2.1,bt902.2.2)))))=some (r1,r2,r3):=h
 clear h
 obtain⟨⟨t897,t900,t901⟩,A2,H⟩:=bnd H
 try dsimp only at H
 obtain⟨⟨t902,t903,t904⟩,A3,H⟩:=bnd H
 try dsimp only at H
 by_cases c4:t902=true
 ·subst c4
  rw[if_pos rfl] at H
  obtain⟨⟨t905,t906,t907,t908,t911,t912⟩,A5,H⟩:=bnd H
  try dsimp only at H
  by_cases c6:t897.length<2513169434916
  ·rw[if_pos c6] at H
   have LMc6:=Aside0.mk c6
   clear c6
   obtain⟨y913,hy913⟩:∃ y_:List (S34),y_=(t897++[(⟨t905,t906,t907,t908⟩:S34)]):=⟨_,rfl⟩
   replace H:(some (y913,t911,t912))=some (r1,r2,r3):=jrw hy913 H
   have Ny913:=Aside0.mk hy913
   clear hy913
   simp only[zax,zay] at H
   obtain⟨rfl,rfl,rfl⟩:=H
   exact spec_l13Draw.wk
  rw[if_neg c6] at H
  exact absurd H (by simp)
 replace c4:=zcd.mpr c4
 subst c4
 rw[if_neg (show ¬(false=true) by decide)] at H
 simp only[zax,zay] at H
 obtain⟨rfl,rfl,rfl⟩:=H
 exact spec_l13Draw.wk
def spec_DrawPut.f (k:Nat) (l0:List Int):Option ((List (S34))×ByteArray×Int×Int×List Int):=(spec_l1New.f k l0).bind fun bt917=>((spec_l13Draw.f k bt917.1 bt917.2.1 bt917.2.2).bind fun bt921=>((spec_l13DrawItem.f k bt917.1 bt921.2.1 bt921.2.2).bind fun bt926=>(some (bt921.1,bt926.1,bt926.2.1,bt926.2.2.1,bt926.2.2.2.1))))
theorem spec_DrawPut.mono:∀ a0 k,LeO (spec_DrawPut.f k a0) (spec_DrawPut.f (k+1) a0):=by
 intro a0 k
 unfold spec_DrawPut.f
 have m0:=@spec_l13Draw.mono
 have m1:=@spec_l13DrawItem.mono
 have m2:=@spec_l1New.mono
 exact mt
theorem spec_DrawPut.calls (k:Nat) (A0:Option Addr) (c0:Nat) (l0:List Int) (r1:List (S34)) (r2:ByteArray) (r3:Int) (r4:Int) (r5:List Int) (w:World) (hr0:Kd.C (Kd.int .u8) w A0 l0.length l0) (hc0:l0.length≤c0) (h:spec_DrawPut.f k l0=some (r1,r2,r3,r4,r5)):
  Calls Try.prog 59 #[.slice A0 l0.length c0] w fun e w'=>∃ v0_ v4_:Value,e= .returned (.tuple #[v0_, .agg #[.string r2, .int .i64 r3, .int .i64 r4,v4_]])∧Kd.S k34 34 w' w.heap.size (fun k_=>some k_≠(v4_:Value).ownBlock) v0_ r1∧Kd.R (Kd.int .u8) 5 w' w.heap.size (fun _=>True) v4_ r5∧Below w.heap.size w w':=by
 have hu34:=Try.underlying34
 have HR0:=Aside0.mk hr0
 have HC0:=Aside0.mk hc0
 clear hr0 hc0
 have HB:=Aside0.mk (zbe w.heap.size w)
 have H:((spec_l1New.f k l0).bind fun bt917=>((spec_l13Draw.f k bt917.1 bt917.2.1 bt917.2.2).bind fun bt921=>((spec_l13DrawItem.f k bt917.1 bt921.2.1 bt921.2.2).bind fun bt926=>(some (bt921.1,bt926.1,bt926.2.1,bt926.2.2.1,bt926.2.2.2.1)))))=some (r1,r2,r3,r4,r5):=h
 clear h
 obtain⟨⟨t917,t918,t919⟩,A2,H⟩:=bnd H
 try dsimp only at H
 obtain⟨⟨t921,t924,t925⟩,A3,H⟩:=bnd H
 try dsimp only at H
 obtain⟨⟨t926,t927,t928,t929,t932,t933⟩,A4,H⟩:=bnd H
 try dsimp only at H
 simp only[zax,zay] at H
 obtain⟨rfl,rfl,rfl,rfl,rfl⟩:=H
 go_enter Try.func59,Try.ntmps59
 go_wp2_with (first | (refine jgd 3 ?_;refine bx 3 (#[.string (⟨#[]⟩:ByteArray), .int .i64 0, .int .i64 0, .slice none 0 0]) 34 ?_;intro gb916 hg w5 hbox hb;have xb_:=below_ofs bq hb;have n_:=jA4 (zah xb_ hb) (hbox) (ge0 hg xb_:w.heap.size≤gb916) (ge0 hg xb_:w.heap.size≤gb916);clear HB;obtain⟨HB,BK916,GW916,GE916⟩:=n_;clear xb_ hb hbox hg) | (refine jgc 117 ?_;refine jgs 7 Try.func117 #[.slice A0 l0.length c0] ?_;(with_reducible refine(spec_l1New.calls k _ _ l0 t917 t918 t919 w _ ?side1 ?side2 ?side3 A2.out).mono ?_);(case side1=>repeat(first | (with_reducible first | exact HB.out | apply zap | apply zai | apply zan | refine zao ?_ GE916.out) | exact HB.out));(case side2=>exact HR0.out);(case side3=>exact HC0.out);rintro e w6 ⟨g920,rfl,hi,hb,hb2⟩;refine⟨_,rfl,?_⟩;have n_:=jA5 (zeo (pB BK916.out) hb2) (hb) (hi) (IsS132.ne_blk hi (zeo (pB BK916.out) hb2) (by decide)) (Ne.symm (IsS132.ne_blk hi (zeo (pB BK916.out) hb2) (by decide)));clear BK916 HB;obtain⟨BK916,HB,HI920,NB920_916,NB916_920⟩:=n_;(try clear hb);(try clear hb2);(try clear hk);(try clear hi)) | (refine jgc 118 ?_;refine jgs 9 Try.func118 #[.pointer (some ⟨g920,0,none⟩)] ?_;(with_reducible refine(spec_l13Draw.calls k g920 t917 t918 t919 t921 t924 t925 w _ ?side1 ?side2 A3.out).mono ?_);(case side1=>repeat(first | (with_reducible first | exact HI920.out | apply IsS132.alloc | apply IsS132.drewN | apply IsS132.drew | apply IsS132.set_1 | apply IsS132.set_2 | refine IsS132.far ?_ NB920_916.out _) | exact HI920.out));(case side2=>repeat(first | (with_reducible first | exact HB.out | apply zap | apply zai | apply zan | refine zao ?_ (IsS132.ge HI920.out) | refine zao ?_ GE916.out) | exact HB.out));rintro e w7 ⟨v922,rfl,ho0,hi,hb,hk⟩;refine⟨_,rfl,?_⟩;have n_:=jA4 (zbx hk (g':=gb916) (o:= .cells #[.string (⟨#[]⟩:ByteArray), .int .i64 0, .int .i64 0, .slice none 0 0] 34 (0,0)) (pB BK916.out) NB916_920.out (by simp)) (zdf (Kd.S_newB ho0 (pB BK916.out)) (zav (bs2 (IsS132.ge HI920.out) GE916.out))) (hb) (hi);clear BK916 HB HI920;obtain⟨BK916,HO923,HB,HI920⟩:=n_;clear hb hk hi ho0) | (refine jgc 119 ?_;refine jgs 12 Try.func119 #[.pointer (some ⟨g920,0,none⟩)] ?_;(with_reducible refine(spec_l13DrawItem.calls k g920 t917 t924 t925 t926 t927 t928 t929 t932 t933 w _ ?side1 ?side2 A4.out).mono ?_);(case side1=>repeat(first | (with_reducible first | exact HI920.out | apply IsS132.alloc | apply IsS132.drewN | apply IsS132.drew | apply IsS132.set_1 | apply IsS132.set_2 | refine IsS132.far ?_ NB920_916.out _) | exact HI920.out));(case side2=>repeat(first | (with_reducible first | exact HB.out | apply zap | apply zai | apply zan | refine zao ?_ (IsS132.ge HI920.out) | refine zao ?_ GE916.out) | exact HB.out));rintro e w8 ⟨v930,rfl,ho0,hi,hb,hk⟩;refine⟨_,rfl,?_⟩;have n_:=jA5 (zbx hk (g':=gb916) (o:= .cells #[.string (⟨#[]⟩:ByteArray), .int .i64 0, .int .i64 0, .slice none 0 0] 34 (0,0)) (pB BK916.out) NB916_920.out (by simp)) (zca (Kd.S_told (Kd.S_oldK (IsS132.apartS (show IsS132 w _ g920 t917 t924 t925 from by repeat(first | (with_reducible first | exact HI920.out | apply IsS132.alloc | apply IsS132.drewN | apply IsS132.drew | apply IsS132.set_1 | apply IsS132.set_2 | refine IsS132.far ?_ NB920_916.out _) | exact HI920.out)) (pS HO923.out) (by decide)) hk) (zcp ho0)) (fun _ h_=>h_.1)) (zbf ho0 (zav (bs2 (IsS132.ge HI920.out) GE916.out))) (hb) (hi);clear BK916 HO923 HB HI920;obtain⟨BK916,HO923,HO931,HB,HI920⟩:=n_;clear hb hk hi ho0;have hnb9:=NB916_920.out;have hnc9:=NB920_916.out;obtain⟨hcz10_0,hcz10_1,hcz10_2,hcz10_3,hfz10_0,hfz10_1,hfz10_2,hfz10_3⟩:=cz4 BK916.out;obtain⟨Ao11,co11,eo11⟩:=zbh HO931.out;subst eo11))
 refine zec (results_tc rfl _ _ gb916 34 #[.string t926, .int .i64 t927, .int .i64 t928, .slice Ao11 t929.length co11] (0,0) _ rfl (by(with_reducible repeat(first | refine zal ?_ _ | refine zar ?_ | refine zam ?_ _));refine zbw (cs:= #[.string t926, .int .i64 t927, .int .i64 t928, .slice none 0 0]) ?_ 3 _ rfl;(with_reducible repeat(first | refine zal ?_ _ | refine zar ?_ | refine zam ?_ _));refine zbw (cs:= #[.string t926, .int .i64 t927, .int .i64 0, .slice none 0 0]) ?_ 2 _ rfl;(with_reducible repeat(first | refine zal ?_ _ | refine zar ?_ | refine zam ?_ _));refine zbw (cs:= #[.string t926, .int .i64 0, .int .i64 0, .slice none 0 0]) ?_ 1 _ rfl;(with_reducible repeat(first | refine zal ?_ _ | refine zar ?_ | refine zam ?_ _));refine zbw (cs:= #[.string (⟨#[]⟩:ByteArray), .int .i64 0, .int .i64 0, .slice none 0 0]) ?_ 0 _ rfl;(with_reducible repeat(first | refine zal ?_ _ | refine zar ?_ | refine zam ?_ _));exact BK916.out) Try.underlying34 rfl (by kernel_rfl)) rfl ?_
 exact⟨_,_,jex,by(with_reducible repeat(first | apply zcn | apply zco | apply zcw));exact zca (Kd.S_far (p:=⟨gb916,3,none⟩) (Kd.S_far (p:=⟨gb916,2,none⟩) (Kd.S_far (p:=⟨gb916,1,none⟩) (Kd.S_far (p:=⟨gb916,0,none⟩) (zca HO923.out (fun k_ hk=>(⟨hk,hk.1.2⟩:_∧k_≠gb916))) (fun _ hk=>hk.2) (.string t926)) (fun _ hk=>hk.2) (.int .i64 t927)) (fun _ hk=>hk.2) (.int .i64 t928)) (fun _ hk=>hk.2) (.slice Ao11 t929.length co11)) (fun _ hk=>hk.1.2),by(with_reducible repeat(first | apply zdb | apply zdc | apply zdl));exact zas (zck (p:=⟨gb916,3,none⟩) (rf3 HO931.out BK916.out) (fun _ hk=>hk.2) (.slice Ao11 t929.length co11)) (fun _ hk=>trivial),(bs2 (IsS132.ge HI920.out) GE916.out)⟩
end Go.Proofs.Ytlalkldjpniakaa.P
