import Derived.Test.Ytlalkldjpniakaaqu30
namespace Go.Proofs.Ytlalkldjpniakaa.P
open Go.RowKit Go.Proofs.YtlalkldjpniakaaW.PrintWords Go.Proofs.YtlalkldjpniakaaW.PrintLast Go.Proofs.YtlalkldjpniakaaW.PrintMore
attribute [local go_sem] zbr zbs zch zci zbk zbl zbt zbu -- for this text's walks alone
set_option linter.unusedVariables false
set_option linter.unusedSimpArgs false
set_option maxHeartbeats 8000000
set_option maxRecDepth 100000

def spec_DrawDue.f (k:Nat) (l0:List Int):Option ((List (S34))×Int):=(spec_l1New.f k l0).bind fun bt946=>((spec_l13Draw.f k bt946.1 bt946.2.1 bt946.2.2).bind fun bt950=>((spec_l1PickInt.f bt946.1 bt950.2.1 bt950.2.2 (([0,5,6,100,(-1)]:List Int))).bind fun bt958=>(some (bt950.1,bt958.1))))
theorem spec_DrawDue.mono:∀ a0 k,LeO (spec_DrawDue.f k a0) (spec_DrawDue.f (k+1) a0):=by
 intro a0 k
 unfold spec_DrawDue.f
 have m0:=@spec_l13Draw.mono
 have m1:=@spec_l1New.mono
 exact mt
theorem spec_DrawDue.calls (k:Nat) (A0:Option Addr) (c0:Nat) (l0:List Int) (r1:List (S34)) (r2:Int) (w:World) (hr0:Kd.C (Kd.int .u8) w A0 l0.length l0) (hc0:l0.length≤c0) (h:spec_DrawDue.f k l0=some (r1,r2)):
  Calls Try.prog 63 #[.slice A0 l0.length c0] w fun e w'=>∃ v0_:Value,e= .returned (.tuple #[v0_, .int .i64 r2])∧Kd.S k34 34 w' w.heap.size (fun _=>True) v0_ r1∧Below w.heap.size w w':=by
 have HR0:=Aside0.mk hr0
 have HC0:=Aside0.mk hc0
 clear hr0 hc0
 have HB:=Aside0.mk (zbe w.heap.size w)
 have H:((spec_l1New.f k l0).bind fun bt946=>((spec_l13Draw.f k bt946.1 bt946.2.1 bt946.2.2).bind fun bt950=>((spec_l1PickInt.f bt946.1 bt950.2.1 bt950.2.2 (([0,5,6,100,(-1)]:List Int))).bind fun bt958=>(some (bt950.1,bt958.1)))))=some (r1,r2):=h
 clear h
 obtain⟨⟨t946,t947,t948⟩,A2,H⟩:=bnd H
 try dsimp only at H
 obtain⟨⟨t950,t953,t954⟩,A3,H⟩:=bnd H
 try dsimp only at H
 obtain⟨y955,hy955⟩:∃ y_:List Int,y_=(([0,5,6,100,(-1)]:List Int)):=⟨_,rfl⟩
 replace H:((spec_l1PickInt.f t946 t953 t954 y955).bind fun bt958=>(some (t950,bt958.1)))=some (r1,r2):=jrw hy955 H
 have Ny955:=Aside0.mk hy955
 clear hy955
 obtain⟨⟨t958,t959,t960⟩,A4,H⟩:=bnd H
 try dsimp only at H
 simp only[zax,zay] at H
 obtain⟨rfl,rfl⟩:=H
 go_enter Try.func63,Try.ntmps63
 go_wp2_with (first | (refine jgc 117 ?_;refine jgs 7 Try.func117 #[.slice A0 l0.length c0] ?_;(with_reducible refine(spec_l1New.calls k _ _ l0 t946 t947 t948 w _ ?side1 ?side2 ?side3 A2.out).mono ?_);(case side1=>repeat(first | (with_reducible first | exact HB.out | apply zap | apply zai | apply zan) | exact HB.out));(case side2=>exact HR0.out);(case side3=>exact HC0.out);rintro e w5 ⟨g949,rfl,hi,hb,hb2⟩;refine⟨_,rfl,?_⟩;have n_:=jA2 (hb) (hi);clear HB;obtain⟨HB,HI949⟩:=n_;(try clear hb);(try clear hb2);(try clear hk);(try clear hi)) | (refine jgc 118 ?_;refine jgs 9 Try.func118 #[.pointer (some ⟨g949,0,none⟩)] ?_;(with_reducible refine(spec_l13Draw.calls k g949 t946 t947 t948 t950 t953 t954 w _ ?side1 ?side2 A3.out).mono ?_);(case side1=>repeat(first | (with_reducible first | exact HI949.out | apply IsS132.alloc | apply IsS132.drewN | apply IsS132.drew | apply IsS132.set_1 | apply IsS132.set_2) | exact HI949.out));(case side2=>repeat(first | (with_reducible first | exact HB.out | apply zap | apply zai | apply zan | refine zao ?_ (IsS132.ge HI949.out)) | exact HB.out));rintro e w6 ⟨v951,rfl,ho0,hi,hb,hk⟩;refine⟨_,rfl,?_⟩;have n_:=jA3 (zdf ho0 (zav (bs1 (IsS132.ge HI949.out)))) (hb) (hi);clear HB HI949;obtain⟨HO952,HB,HI949⟩:=n_;clear hb hk hi ho0) | (refine jgd 12 ?_;refine Kd.R_lit (Kd.int .i64) _ 3 ?hg (N:=12) ?hd (xs:=([0,5,6,100,(-1)]:List Int)) (inner:=[.int .i64 0, .int .i64 5, .int .i64 6, .int .i64 100, .int .i64 (-1)]) (ok:=fun _=>True) (okp:=fun _=>True) ?hr ?hp (fun _ hk=>hk) trivial (zbe _ _) (zbc _) (by simp) ?_;(case hd=>rfl);(case hg=>rfl);(case hr=>first | (go_simp;done) | (go_simp;rfl));(case hp=>exact(zdd (show Kd.M (Kd.int .i64) _ _ _ 0 [.int .i64 0] from rfl) (zdd (show Kd.M (Kd.int .i64) _ _ _ 5 [.int .i64 5] from rfl) (zdd (show Kd.M (Kd.int .i64) _ _ _ 6 [.int .i64 6] from rfl) (zdd (show Kd.M (Kd.int .i64) _ _ _ 100 [.int .i64 100] from rfl) (zdd (show Kd.M (Kd.int .i64) _ _ _ (-1) [.int .i64 (-1)] from rfl) (Reps.none _ _)))))));intro v956 w7 ho8 hb hg_ hnew_;clear hg_ hnew_;(first | rw[← Ny955.out] at ho8 | (simp only[Int.reduceToNat] at ho8;rw[← Ny955.out] at ho8));have n_:=jA4 (zei (pS HO952.out) hb) (zbf ho8 (zav (bs1 (IsS132.ge HI949.out)))) (IsS132.below (by repeat(first | (with_reducible first | exact HI949.out | apply IsS132.alloc | apply IsS132.drewN | apply IsS132.drew | apply IsS132.set_1 | apply IsS132.set_2) | exact HI949.out)) hb) (zah (bs1 (IsS132.ge HI949.out)) hb);clear HO952 HI949 HB;obtain⟨HO952,HO957,HI949,HB⟩:=n_;clear hb ho8;obtain⟨Ao9,co9,eo9⟩:=zbh HO957.out;subst eo9) | (refine jgc 122 ?_;refine jgs 13 Try.func122 #[.pointer (some ⟨g949,0,none⟩), .slice Ao9 y955.length co9] ?_;(with_reducible refine(spec_l1PickInt.calls g949 t946 t953 t954 _ _ y955 t958 t959 t960 w _ ?side1 ?side2 ?side3 ?side4 ?side5 A4.out).mono ?_);(case side1=>repeat(first | (with_reducible first | exact HI949.out | apply IsS132.alloc | apply IsS132.drewN | apply IsS132.drew | apply IsS132.set_1 | apply IsS132.set_2) | exact HI949.out));(case side2=>repeat(first | (with_reducible first | exact HB.out | apply zap | apply zai | apply zan | refine zao ?_ (IsS132.ge HI949.out)) | exact HB.out));(case side3=>repeat(first | exact(zdh HO957.out).2.2 | (with_reducible first | apply zdo | apply zem | apply Kd.C_drew)));(case side4=>exact(zdh HO957.out).2.1);(case side5=>exact far_slice (IsS132.own_ne HI949.out HO957.out (by decide)));rintro e w10 ⟨rfl,hi,hb,hk⟩;refine⟨_,rfl,?_⟩;have n_:=jA4 (zca (Kd.S_keep (IsS132.apartS (show IsS132 w _ g949 t946 t953 t954 from by repeat(first | (with_reducible first | exact HI949.out | apply IsS132.alloc | apply IsS132.drewN | apply IsS132.drew | apply IsS132.set_1 | apply IsS132.set_2) | exact HI949.out)) (pS HO952.out) (by decide)) hk (fun _ h=>h.2)) (fun _ h=>h.1)) (zas (zcx (IsS132.apart (show IsS132 w _ g949 t946 t953 t954 from by repeat(first | (with_reducible first | exact HI949.out | apply IsS132.alloc | apply IsS132.drewN | apply IsS132.drew | apply IsS132.set_1 | apply IsS132.set_2) | exact HI949.out)) (pR HO957.out) (by decide)) hk (fun _ h=>h.2)) (fun _ h=>h.1)) (hb) (hi);clear HO952 HO957 HB HI949;obtain⟨HO952,HO957,HB,HI949⟩:=n_;(try clear hb);(try clear hb2);(try clear hk);(try clear hi)))
 go_ret2
 exact⟨_,jex,by(with_reducible repeat(first | apply zcn | apply zco | apply zcw));exact HO952.out,(bs1 (IsS132.ge HI949.out))⟩
def spec_DrawOf.f (k:Nat) (l0:List Int):Option ((List (S34))×ByteArray):=(spec_DrawTake.f k l0).bind fun bt961=>(some (bt961.1,bt961.2))
theorem spec_DrawOf.mono:∀ a0 k,LeO (spec_DrawOf.f k a0) (spec_DrawOf.f (k+1) a0):=by
 intro a0 k
 unfold spec_DrawOf.f
 have m0:=@spec_DrawTake.mono
 exact mt
theorem spec_DrawOf.calls (k:Nat) (A0:Option Addr) (c0:Nat) (l0:List Int) (r1:List (S34)) (r2:ByteArray) (w:World) (hr0:Kd.C (Kd.int .u8) w A0 l0.length l0) (hc0:l0.length≤c0) (h:spec_DrawOf.f k l0=some (r1,r2)):
  Calls Try.prog 64 #[.slice A0 l0.length c0] w fun e w'=>∃ v0_:Value,e= .returned (.tuple #[v0_, .string r2])∧Kd.S k34 34 w' w.heap.size (fun _=>True) v0_ r1∧Below w.heap.size w w':=by
 have HR0:=Aside0.mk hr0
 have HC0:=Aside0.mk hc0
 clear hr0 hc0
 have HB:=Aside0.mk (zbe w.heap.size w)
 have H:((spec_DrawTake.f k l0).bind fun bt961=>(some (bt961.1,bt961.2)))=some (r1,r2):=h
 clear h
 obtain⟨⟨t961,t962⟩,A2,H⟩:=bnd H
 try dsimp only at H
 simp only[zax,zay] at H
 obtain⟨rfl,rfl⟩:=H
 go_enter Try.func64,Try.ntmps64
 go_wp2_with (first | (refine jgc 62 ?_;refine jgs 8 Try.func62 #[.slice A0 l0.length c0] ?_;(with_reducible refine(spec_DrawTake.calls k _ _ l0 t961 t962 _ ?side1 ?side2 A2.out).mono ?_);(case side1=>repeat(first | exact HR0.out | (with_reducible first | apply zdo | apply zem | apply Kd.C_drew)));(case side2=>exact HC0.out);rintro e w3 ⟨v963,rfl,ho0,hb⟩;refine⟨_,rfl,?_⟩;have xb_:=below_ofs bq hb;have n_:=jA2 (zdf ho0 (zav xb_)) (zah xb_ hb);clear HB;obtain⟨HO964,HB⟩:=n_;clear xb_ hb ho0))
 go_ret2
 exact⟨_,jex,by(with_reducible repeat(first | apply zcn | apply zco | apply zcw));exact HO964.out,bq⟩
def spec_DrawQueueOk.f (k:Nat) (l0:List Int):Option ((List (S34))):=(spec_l1New.f k l0).bind fun bt965=>((spec_l13Draw.f k bt965.1 bt965.2.1 bt965.2.2).bind fun bt969=>(some bt969.1))
theorem spec_DrawQueueOk.mono:∀ a0 k,LeO (spec_DrawQueueOk.f k a0) (spec_DrawQueueOk.f (k+1) a0):=by
 intro a0 k
 unfold spec_DrawQueueOk.f
 have m0:=@spec_l13Draw.mono
 have m1:=@spec_l1New.mono
 exact mt
theorem spec_DrawQueueOk.calls (k:Nat) (A0:Option Addr) (c0:Nat) (l0:List Int) (r:List (S34)) (w:World) (hr0:Kd.C (Kd.int .u8) w A0 l0.length l0) (hc0:l0.length≤c0) (h:spec_DrawQueueOk.f k l0=some r):
  Calls Try.prog 65 #[.slice A0 l0.length c0] w fun e w'=>∃ v0_:Value,e= .returned (v0_)∧Kd.S k34 34 w' w.heap.size (fun _=>True) v0_ r∧Below w.heap.size w w':=by
 have HR0:=Aside0.mk hr0
 have HC0:=Aside0.mk hc0
 clear hr0 hc0
 have HB:=Aside0.mk (zbe w.heap.size w)
 have H:((spec_l1New.f k l0).bind fun bt965=>((spec_l13Draw.f k bt965.1 bt965.2.1 bt965.2.2).bind fun bt969=>(some bt969.1)))=some r:=h
 clear h
 obtain⟨⟨t965,t966,t967⟩,A2,H⟩:=bnd H
 try dsimp only at H
 obtain⟨⟨t969,t972,t973⟩,A3,H⟩:=bnd H
 try dsimp only at H
 obtain rfl:=Option.some.inj H
 go_enter Try.func65,Try.ntmps65
 go_wp2_with (first | (refine jgc 117 ?_;refine jgs 4 Try.func117 #[.slice A0 l0.length c0] ?_;(with_reducible refine(spec_l1New.calls k _ _ l0 t965 t966 t967 w _ ?side1 ?side2 ?side3 A2.out).mono ?_);(case side1=>repeat(first | (with_reducible first | exact HB.out | apply zap | apply zai | apply zan) | exact HB.out));(case side2=>exact HR0.out);(case side3=>exact HC0.out);rintro e w4 ⟨g968,rfl,hi,hb,hb2⟩;refine⟨_,rfl,?_⟩;have n_:=jA2 (hb) (hi);clear HB;obtain⟨HB,HI968⟩:=n_;(try clear hb);(try clear hb2);(try clear hk);(try clear hi)) | (refine jgc 118 ?_;refine jgs 5 Try.func118 #[.pointer (some ⟨g968,0,none⟩)] ?_;(with_reducible refine(spec_l13Draw.calls k g968 t965 t966 t967 t969 t972 t973 w _ ?side1 ?side2 A3.out).mono ?_);(case side1=>repeat(first | (with_reducible first | exact HI968.out | apply IsS132.alloc | apply IsS132.drewN | apply IsS132.drew | apply IsS132.set_1 | apply IsS132.set_2) | exact HI968.out));(case side2=>repeat(first | (with_reducible first | exact HB.out | apply zap | apply zai | apply zan | refine zao ?_ (IsS132.ge HI968.out)) | exact HB.out));rintro e w5 ⟨v970,rfl,ho0,hi,hb,hk⟩;refine⟨_,rfl,?_⟩;have n_:=jA3 (zdf ho0 (zav (bs1 (IsS132.ge HI968.out)))) (hb) (hi);clear HB HI968;obtain⟨HO971,HB,HI968⟩:=n_;clear hb hk hi ho0))
 go_ret
 exact⟨_,jex,by(with_reducible repeat(first | apply zcn | apply zco | apply zcw));exact HO971.out,(bs1 (IsS132.ge HI968.out))⟩
def spec_DrawItemOk.f (k:Nat) (l0:List Int):Option (ByteArray×Int×Int×List Int):=(spec_l1New.f k l0).bind fun bt975=>((spec_l13DrawItem.f k bt975.1 bt975.2.1 bt975.2.2).bind fun bt979=>(some (bt979.1,bt979.2.1,bt979.2.2.1,bt979.2.2.2.1)))
theorem spec_DrawItemOk.mono:∀ a0 k,LeO (spec_DrawItemOk.f k a0) (spec_DrawItemOk.f (k+1) a0):=by
 intro a0 k
 unfold spec_DrawItemOk.f
 have m0:=@spec_l13DrawItem.mono
 have m1:=@spec_l1New.mono
 exact mt
theorem spec_DrawItemOk.calls (k:Nat) (A0:Option Addr) (c0:Nat) (l0:List Int) (r1:ByteArray) (r2:Int) (r3:Int) (r4:List Int) (w:World) (hr0:Kd.C (Kd.int .u8) w A0 l0.length l0) (hc0:l0.length≤c0) (h:spec_DrawItemOk.f k l0=some (r1,r2,r3,r4)):
  Calls Try.prog 66 #[.slice A0 l0.length c0] w fun e w'=>∃ v3_:Value,e= .returned (.agg #[.string r1, .int .i64 r2, .int .i64 r3,v3_])∧Kd.R (Kd.int .u8) 5 w' w.heap.size (fun _=>True) v3_ r4∧Below w.heap.size w w':=by
 have hu34:=Try.underlying34
 have HR0:=Aside0.mk hr0
 have HC0:=Aside0.mk hc0
 clear hr0 hc0
 have HB:=Aside0.mk (zbe w.heap.size w)
 have H:((spec_l1New.f k l0).bind fun bt975=>((spec_l13DrawItem.f k bt975.1 bt975.2.1 bt975.2.2).bind fun bt979=>(some (bt979.1,bt979.2.1,bt979.2.2.1,bt979.2.2.2.1))))=some (r1,r2,r3,r4):=h
 clear h
 obtain⟨⟨t975,t976,t977⟩,A2,H⟩:=bnd H
 try dsimp only at H
 obtain⟨⟨t979,t980,t981,t982,t985,t986⟩,A3,H⟩:=bnd H
 try dsimp only at H
 simp only[zax,zay] at H
 obtain⟨rfl,rfl,rfl,rfl⟩:=H
 go_enter Try.func66,Try.ntmps66
 go_wp2_with (first | (refine jgd 2 ?_;refine bx 2 (#[.string (⟨#[]⟩:ByteArray), .int .i64 0, .int .i64 0, .slice none 0 0]) 34 ?_;intro gb974 hg w4 hbox hb;have xb_:=below_ofs bq hb;have n_:=jA4 (zah xb_ hb) (hbox) (ge0 hg xb_:w.heap.size≤gb974) (ge0 hg xb_:w.heap.size≤gb974);clear HB;obtain⟨HB,BK974,GW974,GE974⟩:=n_;clear xb_ hb hbox hg) | (refine jgc 117 ?_;refine jgs 4 Try.func117 #[.slice A0 l0.length c0] ?_;(with_reducible refine(spec_l1New.calls k _ _ l0 t975 t976 t977 w _ ?side1 ?side2 ?side3 A2.out).mono ?_);(case side1=>repeat(first | (with_reducible first | exact HB.out | apply zap | apply zai | apply zan | refine zao ?_ GE974.out) | exact HB.out));(case side2=>exact HR0.out);(case side3=>exact HC0.out);rintro e w5 ⟨g978,rfl,hi,hb,hb2⟩;refine⟨_,rfl,?_⟩;have n_:=jA5 (zeo (pB BK974.out) hb2) (hb) (hi) (IsS132.ne_blk hi (zeo (pB BK974.out) hb2) (by decide)) (Ne.symm (IsS132.ne_blk hi (zeo (pB BK974.out) hb2) (by decide)));clear BK974 HB;obtain⟨BK974,HB,HI978,NB978_974,NB974_978⟩:=n_;(try clear hb);(try clear hb2);(try clear hk);(try clear hi)) | (refine jgc 119 ?_;refine jgs 5 Try.func119 #[.pointer (some ⟨g978,0,none⟩)] ?_;(with_reducible refine(spec_l13DrawItem.calls k g978 t975 t976 t977 t979 t980 t981 t982 t985 t986 w _ ?side1 ?side2 A3.out).mono ?_);(case side1=>repeat(first | (with_reducible first | exact HI978.out | apply IsS132.alloc | apply IsS132.drewN | apply IsS132.drew | apply IsS132.set_1 | apply IsS132.set_2 | refine IsS132.far ?_ NB978_974.out _) | exact HI978.out));(case side2=>repeat(first | (with_reducible first | exact HB.out | apply zap | apply zai | apply zan | refine zao ?_ (IsS132.ge HI978.out) | refine zao ?_ GE974.out) | exact HB.out));rintro e w6 ⟨v983,rfl,ho0,hi,hb,hk⟩;refine⟨_,rfl,?_⟩;have n_:=jA4 (zbx hk (g':=gb974) (o:= .cells #[.string (⟨#[]⟩:ByteArray), .int .i64 0, .int .i64 0, .slice none 0 0] 34 (0,0)) (pB BK974.out) NB974_978.out (by simp)) (zbf ho0 (zav (bs2 (IsS132.ge HI978.out) GE974.out))) (hb) (hi);clear BK974 HB HI978;obtain⟨BK974,HO984,HB,HI978⟩:=n_;clear hb hk hi ho0;have hnb7:=NB974_978.out;have hnc7:=NB978_974.out;obtain⟨hcz8_0,hcz8_1,hcz8_2,hcz8_3,hfz8_0,hfz8_1,hfz8_2,hfz8_3⟩:=cz4 BK974.out;obtain⟨Ao9,co9,eo9⟩:=zbh HO984.out;subst eo9))
 refine zec (zej rfl _ _ gb974 34 #[.string t979, .int .i64 t980, .int .i64 t981, .slice Ao9 t982.length co9] (0,0) _ rfl (by(with_reducible repeat(first | refine zal ?_ _ | refine zar ?_ | refine zam ?_ _));refine zbw (cs:= #[.string t979, .int .i64 t980, .int .i64 t981, .slice none 0 0]) ?_ 3 _ rfl;(with_reducible repeat(first | refine zal ?_ _ | refine zar ?_ | refine zam ?_ _));refine zbw (cs:= #[.string t979, .int .i64 t980, .int .i64 0, .slice none 0 0]) ?_ 2 _ rfl;(with_reducible repeat(first | refine zal ?_ _ | refine zar ?_ | refine zam ?_ _));refine zbw (cs:= #[.string t979, .int .i64 0, .int .i64 0, .slice none 0 0]) ?_ 1 _ rfl;(with_reducible repeat(first | refine zal ?_ _ | refine zar ?_ | refine zam ?_ _));refine zbw (cs:= #[.string (⟨#[]⟩:ByteArray), .int .i64 0, .int .i64 0, .slice none 0 0]) ?_ 0 _ rfl;(with_reducible repeat(first | refine zal ?_ _ | refine zar ?_ | refine zam ?_ _));exact BK974.out) Try.underlying34 rfl (by kernel_rfl)) rfl ?_
 exact⟨_,jex,by(with_reducible repeat(first | apply zdb | apply zdc | apply zdl));exact zas (zck (p:=⟨gb974,3,none⟩) (rf3 HO984.out BK974.out) (fun _ hk=>hk.2) (.slice Ao9 t982.length co9)) (fun _ hk=>trivial),(bs2 (IsS132.ge HI978.out) GE974.out)⟩
def laws_sameItem.f (a0_0:ByteArray) (a0_1:Int) (a0_2:Int) (l0_3:List Int) (a1_0:ByteArray) (a1_1:Int) (a1_2:Int) (l1_3:List Int):Option (Bool):=if a0_0.toList=a1_0.toList then(if a0_1=a1_1 then(if a0_2=a1_2 then(some ((strOfNums l0_3).toList==(strOfNums l1_3).toList)) else(some false)) else(some false)) else(some false)
theorem laws_sameItem.wk {P:Prop} (h:P:=by
 go_enter Try.func68,Try.ntmps68
 go_wp2_with (first | (refine jgd 2 ?_;refine bx 2 (#[.string a0_0, .int .i64 a0_1, .int .i64 a0_2, .slice A0_3 l0_3.length c0_3]) 34 ?_;intro gb987 hg w_ hbox hb;have xb_:=below_ofs bq hb;have n_:=jA4 (zah xb_ hb) (hbox) (ge0 hg xb_:w.heap.size≤gb987) (ge0 hg xb_:w.heap.size≤gb987);clear HB;obtain⟨HB,BK987,GW987,GE987⟩:=n_;clear xb_ hb hbox hg) | (refine jgd 3 ?_;refine bx 3 (#[.string a1_0, .int .i64 a1_1, .int .i64 a1_2, .slice A1_3 l1_3.length c1_3]) 34 ?_;intro gb988 hg w_ hbox hb;have n_:=jA7 (jbb BK987.out hb) (zah (bs1 GE987.out) hb) (hbox) (ge0 hg (bs1 GE987.out):w.heap.size≤gb988) (ge0 hg (bs1 GE987.out):w.heap.size≤gb988) (nl hg (pB BK987.out):gb987≠gb988) (ng hg (pB BK987.out):gb988≠gb987);clear BK987 HB;obtain⟨BK987,HB,BK988,GW988,GE988,NB987_988,NB988_987⟩:=n_;clear hb hbox hg;have hnb_:=NB987_988.out;have hnc_:=NB988_987.out;obtain⟨c0,c1,c2,c3,z0,z1,z2,z3⟩:=cz4 BK987.out;obtain⟨c0,c1,c2,c3,z0,z1,z2,z3⟩:=cz4 BK988.out;have hcv11:=Kd.C_string (P:=Try.prog) (A:=A0_3) (c:=c0_3) Try.underlying29 Try.underlying5 Try.underlying9 (zcu HR0_3.out HB.out);have hcv12:=Kd.C_string (P:=Try.prog) (A:=A1_3) (c:=c1_3) Try.underlying29 Try.underlying5 Try.underlying9 (zcu HR1_3.out HB.out)) | (refine jgd 3 ?_;refine bx 3 (#[.string a1_0, .int .i64 a1_1, .int .i64 a1_2, .slice A1_3 l1_3.length c1_3]) 34 ?_;intro gb988 hg w_ hbox hb;have n_:=jA7 (jbb BK987.out hb) (zah (bs1 GE987.out) hb) (hbox) (ge0 hg (bs1 GE987.out):w.heap.size≤gb988) (ge0 hg (bs1 GE987.out):w.heap.size≤gb988) (nl hg (pB BK987.out):gb987≠gb988) (ng hg (pB BK987.out):gb988≠gb987);clear BK987 HB;obtain⟨BK987,HB,BK988,GW988,GE988,NB987_988,NB988_987⟩:=n_;clear hb hbox hg;have hnb_:=NB987_988.out;have hnc_:=NB988_987.out;obtain⟨c0,c1,c2,c3,z0,z1,z2,z3⟩:=cz4 BK987.out;obtain⟨c0,c1,c2,c3,z0,z1,z2,z3⟩:=cz4 BK988.out))
 go_ret
 exact⟨jex,(bs2 GE987.out GE988.out)⟩):P:=h
theorem laws_sameItem.calls (a0_0:ByteArray) (a0_1:Int) (a0_2:Int) (A0_3:Option Addr) (c0_3:Nat) (l0_3:List Int) (a1_0:ByteArray) (a1_1:Int) (a1_2:Int) (A1_3:Option Addr) (c1_3:Nat) (l1_3:List Int) (r:Bool) (w:World) (hr0_3:Kd.C (Kd.int .u8) w A0_3 l0_3.length l0_3) (hc0_3:l0_3.length≤c0_3) (hr1_3:Kd.C (Kd.int .u8) w A1_3 l1_3.length l1_3) (hc1_3:l1_3.length≤c1_3) (h:laws_sameItem.f a0_0 a0_1 a0_2 l0_3 a1_0 a1_1 a1_2 l1_3=some r):
  Calls Try.prog 68 #[.agg #[.string a0_0, .int .i64 a0_1, .int .i64 a0_2, .slice A0_3 l0_3.length c0_3], .agg #[.string a1_0, .int .i64 a1_1, .int .i64 a1_2, .slice A1_3 l1_3.length c1_3]] w fun e w'=>e= .returned (.bool r)∧Below w.heap.size w w':=by
 have hu34:=Try.underlying34
 have HR0_3:=Aside0.mk hr0_3
 have HC0_3:=Aside0.mk hc0_3
 clear hr0_3 hc0_3
 have HR1_3:=Aside0.mk hr1_3
 have HC1_3:=Aside0.mk hc1_3
 clear hr1_3 hc1_3
 have HB:=Aside0.mk (zbe w.heap.size w)
 have H:(if a0_0.toList=a1_0.toList then(if a0_1=a1_1 then(if a0_2=a1_2 then(some ((strOfNums l0_3).toList==(strOfNums l1_3).toList)) else(some false)) else(some false)) else(some false))=some r:=h
 clear h
 by_cases c3:a0_0.toList=a1_0.toList
 ·rw[if_pos c3] at H
  have c3b0:=beqT c3
  have c3b1:=zbj.mpr c3
  clear c3
  by_cases c4:a0_1=a1_1
  ·rw[if_pos c4] at H
   have c4b0:=beqT c4
   have c4b1:=zbj.mpr c4
   clear c4
   by_cases c5:a0_2=a1_2
   ·rw[if_pos c5] at H
    have c5b0:=beqT c5
    have c5b1:=zbj.mpr c5
    clear c5
    obtain rfl:=Option.some.inj H
    exact laws_sameItem.wk
   rw[if_neg c5] at H
   have c5b0:=zbb.mpr c5
   have c5b1:=zda.mpr c5
   obtain rfl:=Option.some.inj H
   exact laws_sameItem.wk
  rw[if_neg c4] at H
  have c4b0:=zbb.mpr c4
  have c4b1:=zda.mpr c4
  obtain rfl:=Option.some.inj H
  exact laws_sameItem.wk
 rw[if_neg c3] at H
 have c3b0:=zbb.mpr c3
 have c3b1:=zda.mpr c3
 obtain rfl:=Option.some.inj H
 exact laws_sameItem.wk
end Go.Proofs.Ytlalkldjpniakaa.P
