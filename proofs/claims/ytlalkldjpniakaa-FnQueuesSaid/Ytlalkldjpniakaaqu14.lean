import Derived.Test.Ytlalkldjpniakaaqu13
namespace Go.Proofs.Ytlalkldjpniakaa.P
open Go.RowKit Go.Proofs.YtlalkldjpniakaaW.PrintWords Go.Proofs.YtlalkldjpniakaaW.PrintLast Go.Proofs.YtlalkldjpniakaaW.PrintMore
attribute [local go_sem] zbr zbs zch zci zbk zbl zbt zbu -- for this text's walks alone
set_option linter.unusedVariables false
set_option linter.unusedSimpArgs false
set_option maxHeartbeats 8000000
set_option maxRecDepth 100000

def impl_ItemOk.f (k:Nat) (a0_0:ByteArray) (a0_1:Int) (a0_2:Int) (l0_3:List Int):Option (Bool):=(impl_isRoute.f k a0_0).bind fun t191=>(if t191=true then((impl_in.f a0_1 0 9).bind fun t192=>(if t192=true then((impl_in.f a0_2 0 100000).bind fun t193=>(if t193=true then(some (decide ((l0_3.length:Int)≤1560))) else(some false))) else(some false))) else(some false))
theorem impl_ItemOk.mono:∀ a0 a1 a2 a3 k,LeO (impl_ItemOk.f k a0 a1 a2 a3) (impl_ItemOk.f (k+1) a0 a1 a2 a3):=by
 intro a0 a1 a2 a3 k
 unfold impl_ItemOk.f
 have m0:=@impl_isRoute.mono
 exact mt
theorem impl_ItemOk.wk {P:Prop} (h:P:=by
 go_enter Try.func26,Try.ntmps26
 go_wp2_with (first | (refine jgd 1 ?_;(try(refine gate_guard (by rfl) ?_;dsimp only));refine bx 1 (#[.string a0_0, .int .i64 a0_1, .int .i64 a0_2, .slice A0_3 l0_3.length c0_3]) 34 ?_;intro gb190 hg w_ hbox hb;have xb_:=below_ofs bq hb;have n_:=jA4 (zah xb_ hb) (hbox) (ge0 hg xb_:w.heap.size≤gb190) (ge0 hg xb_:w.heap.size≤gb190);clear HB;obtain⟨HB,BK190,GW190,GE190⟩:=n_;clear xb_ hb hbox hg;obtain⟨c0,c1,c2,c3,z0,z1,z2,z3⟩:=cz4 BK190.out) | (refine jgc 90 ?_;refine jgs 5 Try.func90 #[.string a0_0] ?_;(with_reducible refine(impl_isRoute.calls k a0_0 _ _ A2.out).mono ?_);rintro e w_ ⟨rfl,hb⟩;refine⟨_,rfl,?_⟩;have n_:=jA2 (jbb BK190.out hb) (zah (bs1 GE190.out) hb);clear BK190 HB;obtain⟨BK190,HB⟩:=n_;(try clear hb);(try clear hb2);(try clear hk);(try clear hi);obtain⟨c0,c1,c2,c3,z0,z1,z2,z3⟩:=cz4 BK190.out) | (go_at_call 91;(with_reducible refine(impl_in.calls a0_1 0 9 _ _ A4.out).mono ?_);rintro e w' ⟨rfl,⟨nd,rfl⟩⟩) | (go_at_call 91;(with_reducible refine(impl_in.calls a0_2 0 100000 _ _ A6.out).mono ?_);rintro e w' ⟨rfl,⟨nd,rfl⟩⟩))
 go_ret
 exact⟨jex,(bs1 GE190.out)⟩):P:=h
theorem impl_ItemOk.calls (k:Nat) (a0_0:ByteArray) (a0_1:Int) (a0_2:Int) (A0_3:Option Addr) (c0_3:Nat) (l0_3:List Int) (r:Bool) (w:World) (hr0_3:Kd.C (Kd.int .u8) w A0_3 l0_3.length l0_3) (hc0_3:l0_3.length≤c0_3) (h:impl_ItemOk.f k a0_0 a0_1 a0_2 l0_3=some r):
  Calls Try.prog 26 #[.agg #[.string a0_0, .int .i64 a0_1, .int .i64 a0_2, .slice A0_3 l0_3.length c0_3]] w fun e w'=>e= .returned (.bool r)∧Below w.heap.size w w':=by
 have hu34:=Try.underlying34
 have HR0_3:=Aside0.mk hr0_3
 have HC0_3:=Aside0.mk hc0_3
 clear hr0_3 hc0_3
 have HB:=Aside0.mk (zbe w.heap.size w)
 have H:((impl_isRoute.f k a0_0).bind fun t191=>(if t191=true then((impl_in.f a0_1 0 9).bind fun t192=>(if t192=true then((impl_in.f a0_2 0 100000).bind fun t193=>(if t193=true then(some (decide ((l0_3.length:Int)≤1560))) else(some false))) else(some false))) else(some false)))=some r:=h
 clear h
 obtain⟨t191,A2,H⟩:=bnd H
 by_cases c3:t191=true
 ·subst c3
  rw[if_pos rfl] at H
  obtain⟨t192,A4,H⟩:=bnd H
  by_cases c5:t192=true
  ·subst c5
   rw[if_pos rfl] at H
   obtain⟨t193,A6,H⟩:=bnd H
   by_cases c7:t193=true
   ·subst c7
    rw[if_pos rfl] at H
    obtain rfl:=Option.some.inj H
    exact impl_ItemOk.wk
   replace c7:=zcd.mpr c7
   subst c7
   rw[if_neg (show ¬(false=true) by decide)] at H
   obtain rfl:=Option.some.inj H
   exact impl_ItemOk.wk
  replace c5:=zcd.mpr c5
  subst c5
  rw[if_neg (show ¬(false=true) by decide)] at H
  obtain rfl:=Option.some.inj H
  exact impl_ItemOk.wk
 replace c3:=zcd.mpr c3
 subst c3
 rw[if_neg (show ¬(false=true) by decide)] at H
 obtain rfl:=Option.some.inj H
 exact impl_ItemOk.wk
def spec_l13Item.f (a0_0:ByteArray) (a0_1:Int) (a0_2:Int) (l0_3:List Int):Option (ByteArray×Int×Int×List Int):=(some (([]:List Int):List Int)).bind fun y340=>(if y340.length+l0_3.length<140737488355328 then(some (a0_0,a0_1,a0_2,(y340++l0_3))) else(none))
theorem spec_l13Item.calls (a0_0:ByteArray) (a0_1:Int) (a0_2:Int) (A0_3:Option Addr) (c0_3:Nat) (l0_3:List Int) (r1:ByteArray) (r2:Int) (r3:Int) (r4:List Int) (w:World) (hr0_3:Kd.C (Kd.int .u8) w A0_3 l0_3.length l0_3) (hc0_3:l0_3.length≤c0_3) (h:spec_l13Item.f a0_0 a0_1 a0_2 l0_3=some (r1,r2,r3,r4)):
  Calls Try.prog 94 #[.agg #[.string a0_0, .int .i64 a0_1, .int .i64 a0_2, .slice A0_3 l0_3.length c0_3]] w fun e w'=>∃ v3_:Value,e= .returned (.agg #[.string r1, .int .i64 r2, .int .i64 r3,v3_])∧Kd.R (Kd.int .u8) 5 w' w.heap.size (fun _=>True) v3_ r4∧Below w.heap.size w w':=by
 have hu34:=Try.underlying34
 have HR0_3:=Aside0.mk hr0_3
 have HC0_3:=Aside0.mk hc0_3
 clear hr0_3 hc0_3
 have HB:=Aside0.mk (zbe w.heap.size w)
 have H:((some (([]:List Int):List Int)).bind fun y340=>(if y340.length+l0_3.length<140737488355328 then(some (a0_0,a0_1,a0_2,(y340++l0_3))) else(none)))=some (r1,r2,r3,r4):=h
 clear h
 obtain⟨y340,hy340⟩:∃ y_:List Int,y_=(([]:List Int)):=⟨_,rfl⟩
 replace H:=bto hy340 H
 have Ny340:=Aside0.mk hy340
 clear hy340
 by_cases c2:y340.length+l0_3.length<140737488355328
 ·rw[if_pos c2] at H
  have LMc2:=Aside0.mk c2
  clear c2
  obtain⟨y343,hy343⟩:∃ y_:List Int,y_=(y340++l0_3):=⟨_,rfl⟩
  replace H:(some (a0_0,a0_1,a0_2,y343))=some (r1,r2,r3,r4):=jrw hy343 H
  have Ny343:=Aside0.mk hy343
  clear hy343
  simp only[zax,zay] at H
  obtain⟨rfl,rfl,rfl,rfl⟩:=H
  go_enter Try.func94,Try.ntmps94
  go_wp2_with (first | (refine jgd 1 ?_;refine bx 1 (#[.string a0_0, .int .i64 a0_1, .int .i64 a0_2, .slice A0_3 l0_3.length c0_3]) 34 ?_;intro gb338 hg w3 hbox hb;have xb_:=below_ofs bq hb;have n_:=jA4 (zah xb_ hb) (hbox) (ge0 hg xb_:w.heap.size≤gb338) (ge0 hg xb_:w.heap.size≤gb338);clear HB;obtain⟨HB,BK338,GW338,GE338⟩:=n_;clear xb_ hb hbox hg) | (refine jgd 2 ?_;refine bx 2 (#[.string (⟨#[]⟩:ByteArray), .int .i64 0, .int .i64 0, .slice none 0 0]) 34 ?_;intro gb339 hg w4 hbox hb;have n_:=jA7 (jbb BK338.out hb) (zah (bs1 GE338.out) hb) (hbox) (ge0 hg (bs1 GE338.out):w.heap.size≤gb339) (ge0 hg (bs1 GE338.out):w.heap.size≤gb339) (nl hg (pB BK338.out):gb338≠gb339) (ng hg (pB BK338.out):gb339≠gb338);clear BK338 HB;obtain⟨BK338,HB,BK339,GW339,GE339,NB338_339,NB339_338⟩:=n_;clear hb hbox hg) | (refine jgd 3 ?_;refine jlt 3 (Kd.int .u8) 5 ?_;intro v341 w5 ho6 hb;(first | rw[← Ny340.out] at ho6 | (simp only[Int.reduceToNat] at ho6;rw[← Ny340.out] at ho6));have n_:=jA4 (zbf ho6 (zav (bs2 GE338.out GE339.out))) (jbb BK338.out hb) (jbb BK339.out hb) (zah (bs2 GE338.out GE339.out) hb);clear BK338 BK339 HB;obtain⟨HO342,BK338,BK339,HB⟩:=n_;clear hb ho6;have hnb7:=NB338_339.out;have hnc7:=NB339_338.out;obtain⟨hcz8_0,hcz8_1,hcz8_2,hcz8_3,hfz8_0,hfz8_1,hfz8_2,hfz8_3⟩:=cz4 BK338.out) | ((with_reducible refine zbz (b:= .append) (xs:= #[.tmp 3, .tmp 5]) rfl ?_);at_builtin;refine Kd.R_append_rows (Kd.int .u8) (w0:=w) w.heap.size rfl (.tmp 3) (.tmp 5) 29 5 (.int .u8 0) 1 rfl Try.underlying29 info5 rfl (by decide) (by omega) v341 y340 l0_3 _ _ _ (fun _=>True) (fun _=>False) rfl rfl ?aO ?aR (fun _ _ h=>h) (fun _ h=>h.elim) ?aF ?aB ?aS ?aL ?_;(case aR=>exact jcs HR0_3.out);(case aB=>exact(bs2 GE338.out GE339.out));(case aF=>exact(fun _ _=>trivial));(case aO=>exact(pR HO342.out));(case aS=>exact(zav (bs2 GE338.out GE339.out)));(case aL=>have:=LMc2.out;omega);intro v344 w9 ho hb hg hat;rw[← Ny343.out] at ho;have n_:=jA4 (zen (pB BK338.out) hg (Kd.R_ne HO342.out BK338.out (by decide))) (zen (pB BK339.out) hg (Kd.R_ne HO342.out BK339.out (by decide))) (hb) (ho);clear BK338 BK339 HB HO342;obtain⟨BK338,BK339,HB,HO345⟩:=n_;clear ho hb hg hat;obtain⟨Ao10,co10,eo10⟩:=zbh HO345.out;subst eo10;obtain⟨hcz11_0,hcz11_1,hcz11_2,hcz11_3,hfz11_0,hfz11_1,hfz11_2,hfz11_3⟩:=cz4 BK338.out;obtain⟨hcz12_0,hcz12_1,hcz12_2,hcz12_3,hfz12_0,hfz12_1,hfz12_2,hfz12_3⟩:=cz4 BK339.out))
  refine zec (zej rfl _ _ gb339 34 #[.string a0_0, .int .i64 a0_1, .int .i64 a0_2, .slice Ao10 y343.length co10] (0,0) _ rfl (by(with_reducible repeat(first | refine zal ?_ _ | refine zar ?_ | refine zam ?_ _));refine zbw (cs:= #[.string a0_0, .int .i64 a0_1, .int .i64 a0_2, .slice none 0 0]) ?_ 3 _ rfl;(with_reducible repeat(first | refine zal ?_ _ | refine zar ?_ | refine zam ?_ _));refine zbw (cs:= #[.string a0_0, .int .i64 a0_1, .int .i64 0, .slice none 0 0]) ?_ 2 _ rfl;(with_reducible repeat(first | refine zal ?_ _ | refine zar ?_ | refine zam ?_ _));refine zbw (cs:= #[.string a0_0, .int .i64 0, .int .i64 0, .slice none 0 0]) ?_ 1 _ rfl;(with_reducible repeat(first | refine zal ?_ _ | refine zar ?_ | refine zam ?_ _));refine zbw (cs:= #[.string (⟨#[]⟩:ByteArray), .int .i64 0, .int .i64 0, .slice none 0 0]) ?_ 0 _ rfl;(with_reducible repeat(first | refine zal ?_ _ | refine zar ?_ | refine zam ?_ _));refine zed ?_ NB339_338.out _;(with_reducible repeat(first | refine zal ?_ _ | refine zar ?_ | refine zam ?_ _));exact BK339.out) Try.underlying34 rfl (by kernel_rfl)) rfl ?_
  exact⟨_,jex,by(with_reducible repeat(first | apply zdb | apply zdc | apply zdl));exact zas (zck (p:=⟨gb339,3,none⟩) (zck (p:=⟨gb339,2,none⟩) (zck (p:=⟨gb339,1,none⟩) (zck (p:=⟨gb339,0,none⟩) (zck (p:=⟨gb338,3,none⟩) (zby (zby HO345.out BK338.out (by decide)) BK339.out (by decide)) (fun _ hk=>hk.1.2) (.slice Ao10 y343.length co10)) (fun _ hk=>hk.2) (.string a0_0)) (fun _ hk=>hk.2) (.int .i64 a0_1)) (fun _ hk=>hk.2) (.int .i64 a0_2)) (fun _ hk=>hk.2) (.slice Ao10 y343.length co10)) (fun _ hk=>trivial),(bs2 GE338.out GE339.out)⟩
 rw[if_neg c2] at H
 exact absurd H (by simp)
def spec_Due.l0:Nat→List (S34)→Int→List (S34)→Int→Option ((List (S34)))
 | 0,_,_,_,_=>none
 | k+1,x0,x1,x5,x6=>if x6<(x0.length:Int) then(if 0≤x6 then(if((rd_T34 x0 x6).f2)≥x1 then((spec_l13Item.f ((rd_T34 x0 x6).f0) ((rd_T34 x0 x6).f1) ((rd_T34 x0 x6).f2) ((rd_T34 x0 x6).f3)).bind fun bt351=>(if x5.length<2513169434916 then(spec_Due.l0 k x0 x1 (x5++[(⟨bt351.1,bt351.2.1,bt351.2.2.1,bt351.2.2.2⟩:S34)]) (wrap64 (x6+1))) else(none))) else(spec_Due.l0 k x0 x1 x5 (wrap64 (x6+1)))) else(none)) else(some x5)
def spec_Due.f (k:Nat) (l0:List (S34)) (a1:Int):Option ((List (S34))):=spec_Due.l0 k l0 a1 (([]:List (S34))) 0
theorem spec_Due.mono_l:∀ k,(∀ y0 y1 y2 y3,LeO (spec_Due.l0 k y0 y1 y2 y3) (spec_Due.l0 (k+1) y0 y1 y2 y3))
 | 0=>fun _ _ _ _ r h=>by simp [spec_Due.l0] at h
 | k+1=>by
  have ih0:=spec_Due.mono_l k
  intro y0 y1 y2 y3
  unfold spec_Due.l0
  exact mt
theorem spec_Due.mono:∀ a0 a1 k,LeO (spec_Due.f k a0 a1) (spec_Due.f (k+1) a0 a1):=by
 intro a0 a1 k
 have ih0:=spec_Due.mono_l k
 unfold spec_Due.f
 exact mt
theorem spec_Due.calls (k:Nat) (A0:Option Addr) (c0:Nat) (l0:List (S34)) (a1:Int) (r:List (S34)) (w:World) (hr0:Kd.C k34 w A0 l0.length l0) (hc0:l0.length≤c0) (h:spec_Due.f k l0 a1=some r):
  Calls Try.prog 38 #[.slice A0 l0.length c0, .int .i64 a1] w fun e w'=>∃ v0_:Value,e= .returned (v0_)∧Kd.S k34 34 w' w.heap.size (fun _=>True) v0_ r∧Below w.heap.size w w':=by
 have hu34:=Try.underlying34
 have HR0:=Aside0.mk hr0
 have HC0:=Aside0.mk hc0
 clear hr0 hc0
 have HB:=Aside0.mk (zbe w.heap.size w)
 have H:(spec_Due.l0 k l0 a1 (([]:List (S34))) 0)=some r:=h
 clear h
 obtain⟨y346,hy346⟩:∃ y_:List (S34),y_=(([]:List (S34))):=⟨_,rfl⟩
 replace H:(spec_Due.l0 k l0 a1 y346 0)=some r:=jrw hy346 H
 have Ny346:=Aside0.mk hy346
 clear hy346
 have H':=Aside0.mk H
 clear H
 go_enter Try.func38,Try.ntmps38
 go_wp2_with (first | (refine jgd 7 ?_;refine Kd.S_lit k34 _ 34 ?hg (N:=7) ?hd (xs:=([]:List (S34))) (inner:=[]) (ok:=fun _=>True) (okp:=fun _=>True) ?hr ?hp (fun _ hk=>hk) trivial (zbe _ _) (zbc _) (by simp) ?_;(case hd=>rfl);(case hg=>rfl);(case hr=>first | (go_simp;done) | (go_simp;rfl));(case hp=>exact(Reps.none _ _));intro v347 w3 ho4 hb hg_ hnew_;have xb_:=below_ofs bq hb;clear hg_ hnew_;(first | rw[← Ny346.out] at ho4 | (simp only[Int.reduceToNat] at ho4;rw[← Ny346.out] at ho4));have n_:=jA2 (zdf ho4 (zav xb_)) (zah xb_ hb);clear HB;obtain⟨HO348,HB⟩:=n_;clear xb_ hb ho4))
 go_loopg [5,6] k (fun kq v5 v6 w'=>∃ (x5_1:List (S34)) (x6_1:Int),v6= .int .i64 x6_1∧Aside0 (spec_Due.l0 kq l0 a1 x5_1 x6_1=some r)∧Aside0 (kq≤k)∧Aside0 (Kd.S k34 34 w' w.heap.size (fun _=>True) v5 x5_1)∧Aside0 (Below w.heap.size w w'))
 case atStart=>exact⟨(y346),(0),jer,H',⟨zbc _⟩,⟨pS HO348.out⟩,⟨bq⟩⟩
 case round=>
  clear H'
  try clear p2
  try clear c3
  obtain⟨x5_1,x6_1,rfl,HA,HK1,HO_5,HB⟩:=hrel
  cases gk with
  | zero=>exact absurd HA.out (by simp [spec_Due.l0])
  | succ k1=>
   have H:=HA.out
   clear HA
   simp only[spec_Due.l0] at H
   by_cases c5:x6_1<(l0.length:Int)
   ·rw[if_pos c5] at H
    have c5b0:=zag c5
    clear c5
    by_cases c6:0≤x6_1
    ·rw[if_pos c6] at H
     have c6b0:=zag c6
     clear c6
     by_cases c7:((rd_T34 l0 x6_1).f2)≥a1
     ·rw[if_pos c7] at H
      have c7b0:=zag c7
      clear c7
      obtain⟨⟨t351,t352,t353,t354⟩,A8,H⟩:=bnd H
      try dsimp only at H
      by_cases c9:x5_1.length<2513169434916
      ·rw[if_pos c9] at H
       have LMc9:=Aside0.mk c9
       clear c9
       obtain⟨y357,hy357⟩:∃ y_:List (S34),y_=(x5_1++[(⟨t351,t352,t353,t354⟩:S34)]):=⟨_,rfl⟩
       replace H:(spec_Due.l0 k1 l0 a1 y357 (wrap64 (x6_1+1)))=some r:=jrw hy357 H
       have Ny357:=Aside0.mk hy357
       clear hy357
       have H':=Aside0.mk H
       clear H
       obtain⟨p349,q349,ad349,A349_3,c349_3,e349,hx349_0,hx349_1,hx349_2,hx349_3,HC349_3,HR349_3⟩:=jel HR0.out HB.out x6_1
       cases e349
       obtain⟨p350,q350,ad350,A350_3,c350_3,e350,hx350_0,hx350_1,hx350_2,hx350_3,HC350_3,HR350_3⟩:=jel HR0.out HB.out x6_1
       obtain rfl:ad349=ad350:=(by injection e350)
       have ea_:=Option.some.inj (hx349_3.symm.trans hx350_3)
       injection ea_ with ea_ en_ ec_
       subst ea_
       subst ec_
       clear en_
       go_wp2_with (first | (refine jgc 94 ?_;refine jgs 26 Try.func94 #[.agg #[.string ((rd_T34 l0 x6_1).f0), .int .i64 ((rd_T34 l0 x6_1).f1), .int .i64 ((rd_T34 l0 x6_1).f2), .slice A349_3 ((rd_T34 l0 x6_1).f3).length c349_3]] ?_;(with_reducible refine(spec_l13Item.calls ((rd_T34 l0 x6_1).f0) ((rd_T34 l0 x6_1).f1) ((rd_T34 l0 x6_1).f2) _ _ ((rd_T34 l0 x6_1).f3) t351 t352 t353 t354 _ ?side1 ?side2 A8.out).mono ?_);(case side1=>exact jcs HR350_3.out);(case side2=>exact HC350_3.out);rintro e w10 ⟨v355,rfl,ho0,hb⟩;refine⟨_,rfl,?_⟩;have xb_:=below_ofs bq hb;have n_:=jA3 (zds (pS HO_5.out) (zcp ho0) hb) (zbf ho0 (zav xb_)) (zah xb_ hb);clear HO_5 HB;obtain⟨HO_5,HO356,HB⟩:=n_;clear xb_ hb ho0;obtain⟨Ao12,co12,eo12⟩:=zbh HO356.out;subst eo12) | ((with_reducible refine zbz (b:= .append) (xs:= #[.tmp 21, .tmp 27]) rfl ?_);at_builtin;refine zdj k34 (w0:=w) w.heap.size rfl (.tmp 21) (.tmp 27) 25 34 (.agg #[(.string ⟨#[]⟩),(.int .i64 0),(.int .i64 0),(.slice none 0 0)]) 56 rfl Try.underlying25 info34 rfl (by decide) (by omega) u5 x5_1 (⟨t351,t352,t353,t354⟩:S34) [.string t351, .int .i64 t352, .int .i64 t353, .slice Ao12 t354.length co12] (fun _=>True) (fun k_=>some k_=(.slice Ao12 t354.length co12:Value).ownBlock) rfl rfl ?aP (fun k_ hk_=>((zas (ok':=fun k_=>((fun _=>True)) k_∧some k_≠(u5:Value).ownBlock) (zcc (HO356.out) (zcl HO_5.out) (by decide)) (fun k_ hk=>⟨trivial,hk.2⟩))).1 k_ hk_.symm) ?aF ?aO ?aB ?aS ?aL ?_;(case aP=>exact k34_mkM _ _ _ (⟨t351,t352,t353,t354⟩:S34) (zas (zdm rfl (zas (ok':=fun k_=>((fun _=>True)) k_∧some k_≠(u5:Value).ownBlock) (zcc (HO356.out) (zcl HO_5.out) (by decide)) (fun k_ hk=>⟨trivial,hk.2⟩))) (fun _ h_=>h_)));(case aB=>exact bq);(case aF=>exact(fun _ _=>trivial));(case aO=>exact(by(with_reducible repeat(first | apply zcn | apply zco | apply zcw));exact zca HO_5.out (fun k_ hk=>⟨trivial,fun e_=>hk.2 e_⟩)));(case aS=>exact(zav bq));(case aL=>have:=LMc9.out;omega);intro v358 w11 ho hb hg hat;rw[← Ny357.out] at ho;have n_:=jA2 (hb) (ho);clear HB HO_5 HO356;obtain⟨HB,HO359⟩:=n_;clear ho hb hg hat))
       go_roundg k1
       case measure=>have:=HK1.out;omega
       case rel=>exact⟨(y357),(wrap64 (x6_1+1)),jer,H',⟨by have:=HK1.out;omega⟩,⟨pS HO359.out⟩,⟨bq⟩⟩
      rw[if_neg c9] at H
      exact absurd H (by simp)
     rw[if_neg c7] at H
     have c7b0:=zaw c7
     clear c7
     have H':=Aside0.mk H
     clear H
     obtain⟨p349,q349,ad349,A349_3,c349_3,e349,hx349_0,hx349_1,hx349_2,hx349_3,HC349_3,HR349_3⟩:=jel HR0.out HB.out x6_1
     cases e349
     go_wp2
     go_roundg k1
     case measure=>have:=HK1.out;omega
     case rel=>exact⟨(x5_1),(wrap64 (x6_1+1)),jer,H',⟨by have:=HK1.out;omega⟩,⟨pS HO_5.out⟩,⟨bq⟩⟩
    rw[if_neg c6] at H
    exact absurd H (by simp)
   rw[if_neg c5] at H
   have c5b0:=zaw c5
   clear c5
   obtain rfl:=Option.some.inj H
   go_wp2
   go_ret
   exact⟨_,jex,by(with_reducible repeat(first | apply zcn | apply zco | apply zcw));exact HO_5.out,bq⟩
end Go.Proofs.Ytlalkldjpniakaa.P
