import Derived.Test.Ytlalkldjpniakaaqu34
namespace Go.Proofs.Ytlalkldjpniakaa.P
open Go.RowKit Go.Proofs.YtlalkldjpniakaaW.PrintWords Go.Proofs.YtlalkldjpniakaaW.PrintLast Go.Proofs.YtlalkldjpniakaaW.PrintMore
attribute [local go_sem] zbr zbs zch zci zbk zbl zbt zbu -- for this text's walks alone
set_option linter.unusedVariables false
set_option linter.unusedSimpArgs false
set_option maxHeartbeats 8000000
set_option maxRecDepth 100000

def laws_szItemS.l0:Nat→List (S31)→Int→Int→Option (Int)
 | 0,_,_,_=>none
 | k+1,x0,x1,x5=>if x5<(x0.length:Int) then(if 0≤x5 then((laws_szItem.f ((rd_T31 x0 x5).f0) ((rd_T31 x0 x5).f1) ((rd_T31 x0 x5).f2) ((rd_T31 x0 x5).f3) x1).bind fun t104=>(if t104<0 then(some (-1)) else(laws_szItemS.l0 k x0 t104 (wrap64 (x5+1))))) else(none)) else(some x1)
def laws_szItemS.f (k:Nat) (l0:List (S31)) (a1:Int):Option (Int):=if(wrap64 (a1 - (l0.length:Int)))<0 then(some (-1)) else(laws_szItemS.l0 k l0 (wrap64 (a1 - (l0.length:Int))) 0)
theorem laws_szItemS.mono_l:∀ k,(∀ y0 y1 y2,LeO (laws_szItemS.l0 k y0 y1 y2) (laws_szItemS.l0 (k+1) y0 y1 y2))
 | 0=>fun _ _ _ r h=>by simp [laws_szItemS.l0] at h
 | k+1=>by
  have ih0:=laws_szItemS.mono_l k
  intro y0 y1 y2
  unfold laws_szItemS.l0
  exact mt
theorem laws_szItemS.mono:∀ a0 a1 k,LeO (laws_szItemS.f k a0 a1) (laws_szItemS.f (k+1) a0 a1):=by
 intro a0 a1 k
 have ih0:=laws_szItemS.mono_l k
 unfold laws_szItemS.f
 exact mt
theorem laws_szItemS.calls (k:Nat) (A0:Option Addr) (c0:Nat) (l0:List (S31)) (a1:Int) (r:Int) (w:World) (hr0:Kd.C k31 w A0 l0.length l0) (hc0:l0.length≤c0) (h:laws_szItemS.f k l0 a1=some r):
  Calls Try.prog 18 #[.slice A0 l0.length c0, .int .i64 a1] w fun e w'=>e= .returned (.int .i64 r)∧Below w.heap.size w w':=by
 have hu31:=Try.underlying31
 have HR0:=Aside0.mk hr0
 have HC0:=Aside0.mk hc0
 clear hr0 hc0
 have HB:=Aside0.mk (zbe w.heap.size w)
 have H:(if(wrap64 (a1 - (l0.length:Int)))<0 then(some (-1)) else(laws_szItemS.l0 k l0 (wrap64 (a1 - (l0.length:Int))) 0))=some r:=h
 clear h
 by_cases c3:(wrap64 (a1 - (l0.length:Int)))<0
 ·rw[if_pos c3] at H
  have c3b0:=zag c3
  clear c3
  obtain rfl:=Option.some.inj H
  go_enter Try.func18,Try.ntmps18
  go_wp2
  go_ret
  exact⟨jex,bq⟩
 rw[if_neg c3] at H
 have c3b0:=zaw c3
 clear c3
 have H':=Aside0.mk H
 clear H
 go_enter Try.func18,Try.ntmps18
 go_wp2
 go_loopg [1,5] k (fun kq v1 v5 w'=>∃ (x1_1:Int) (x5_1:Int),v1= .int .i64 x1_1∧v5= .int .i64 x5_1∧Aside0 (laws_szItemS.l0 kq l0 x1_1 x5_1=some r)∧Aside0 (kq≤k)∧Aside0 (Below w.heap.size w w'))
 case atStart=>exact⟨(wrap64 (a1 - (l0.length:Int))),(0),jer,jer,H',⟨zbc _⟩,⟨bq⟩⟩
 case round=>
  clear H'
  try clear c1
  try clear p2
  try clear c3
  try clear c3b0
  obtain⟨x1_1,x5_1,rfl,rfl,HA,HK1,HB⟩:=hrel
  cases gk with
  | zero=>exact absurd HA.out (by simp [laws_szItemS.l0])
  | succ k1=>
   have H:=HA.out
   clear HA
   simp only[laws_szItemS.l0] at H
   by_cases c4:x5_1<(l0.length:Int)
   ·rw[if_pos c4] at H
    have c4b0:=zag c4
    clear c4
    by_cases c5:0≤x5_1
    ·rw[if_pos c5] at H
     have c5b0:=zag c5
     clear c5
     obtain⟨t104,A6,H⟩:=bnd H
     by_cases c7:t104<0
     ·rw[if_pos c7] at H
      have c7b0:=zag c7
      clear c7
      obtain rfl:=Option.some.inj H
      have p103:0≤(x5_1:Int):=zac jab
      have q103:x5_1<(l0.length:Int):=zac jab
      obtain⟨ad103,A103_3,c103_3,e103,hx103_0,hx103_1,hx103_2,hx103_3,hl103_3,hi103_3⟩:=at_T31 HR0.out x5_1 p103 q103
      cases e103
      replace hx103_0:=jcB HB.out hx103_0
      replace hx103_1:=jcB HB.out hx103_1
      replace hx103_2:=jcB HB.out hx103_2
      replace hx103_3:=jcB HB.out hx103_3
      have HR103_3:=Aside0.mk hi103_3
      have HC103_3:=Aside0.mk hl103_3
      clear hi103_3 hl103_3
      replace p103:=zbd p103
      replace q103:=zbd q103
      go_wp2_with (first | (refine jgc 23 ?_;refine jgs 23 Try.func23 #[.agg #[.string ((rd_T31 l0 x5_1).f0), .int .i64 ((rd_T31 l0 x5_1).f1), .int .i64 ((rd_T31 l0 x5_1).f2), .slice A103_3 ((rd_T31 l0 x5_1).f3).length c103_3], .int .i64 x1_1] ?_;(with_reducible refine(laws_szItem.calls ((rd_T31 l0 x5_1).f0) ((rd_T31 l0 x5_1).f1) ((rd_T31 l0 x5_1).f2) _ _ ((rd_T31 l0 x5_1).f3) x1_1 t104 _ ?side1 ?side2 A6.out).mono ?_);(case side1=>exact jcs HR103_3.out);(case side2=>exact HC103_3.out);rintro e w8 ⟨rfl,hb⟩;refine⟨_,rfl,?_⟩;replace HB:=Aside0.mk (zah bq hb);(try clear hb);(try clear hb2);(try clear hk);(try clear hi)))
      go_ret
      exact⟨jex,bq⟩
     rw[if_neg c7] at H
     have c7b0:=zaw c7
     clear c7
     have H':=Aside0.mk H
     clear H
     have p103:0≤(x5_1:Int):=zac jab
     have q103:x5_1<(l0.length:Int):=zac jab
     obtain⟨ad103,A103_3,c103_3,e103,hx103_0,hx103_1,hx103_2,hx103_3,hl103_3,hi103_3⟩:=at_T31 HR0.out x5_1 p103 q103
     cases e103
     replace hx103_0:=jcB HB.out hx103_0
     replace hx103_1:=jcB HB.out hx103_1
     replace hx103_2:=jcB HB.out hx103_2
     replace hx103_3:=jcB HB.out hx103_3
     have HR103_3:=Aside0.mk hi103_3
     have HC103_3:=Aside0.mk hl103_3
     clear hi103_3 hl103_3
     replace p103:=zbd p103
     replace q103:=zbd q103
     go_wp2_with (first | (refine jgc 23 ?_;refine jgs 23 Try.func23 #[.agg #[.string ((rd_T31 l0 x5_1).f0), .int .i64 ((rd_T31 l0 x5_1).f1), .int .i64 ((rd_T31 l0 x5_1).f2), .slice A103_3 ((rd_T31 l0 x5_1).f3).length c103_3], .int .i64 x1_1] ?_;(with_reducible refine(laws_szItem.calls ((rd_T31 l0 x5_1).f0) ((rd_T31 l0 x5_1).f1) ((rd_T31 l0 x5_1).f2) _ _ ((rd_T31 l0 x5_1).f3) x1_1 t104 _ ?side1 ?side2 A6.out).mono ?_);(case side1=>exact jcs HR103_3.out);(case side2=>exact HC103_3.out);rintro e w9 ⟨rfl,hb⟩;refine⟨_,rfl,?_⟩;replace HB:=Aside0.mk (zah bq hb);(try clear hb);(try clear hb2);(try clear hk);(try clear hi)))
     go_roundg k1
     case measure=>have:=HK1.out;omega
     case rel=>exact⟨(t104),(wrap64 (x5_1+1)),jer,jer,H',⟨by have:=HK1.out;omega⟩,⟨bq⟩⟩
    rw[if_neg c5] at H
    exact absurd H (by simp)
   rw[if_neg c4] at H
   have c4b0:=zaw c4
   clear c4
   obtain rfl:=Option.some.inj H
   go_wp2
   go_ret
   exact⟨jex,bq⟩
def laws_toItem.f (k:Nat) (a0_0:ByteArray) (a0_1:Int) (a0_2:Int) (l0_3:List Int):Option (ByteArray×Int×Int×List Int):=(laws_toByteS.f k l0_3).bind fun t115=>(some (a0_0,a0_1,a0_2,t115))
theorem laws_toItem.mono:∀ a0 a1 a2 a3 k,LeO (laws_toItem.f k a0 a1 a2 a3) (laws_toItem.f (k+1) a0 a1 a2 a3):=by
 intro a0 a1 a2 a3 k
 unfold laws_toItem.f
 have m0:=@laws_toByteS.mono
 exact mt
theorem laws_toItem.calls (k:Nat) (a0_0:ByteArray) (a0_1:Int) (a0_2:Int) (A0_3:Option Addr) (c0_3:Nat) (l0_3:List Int) (r1:ByteArray) (r2:Int) (r3:Int) (r4:List Int) (w:World) (hr0_3:Kd.C (Kd.int .u8) w A0_3 l0_3.length l0_3) (hc0_3:l0_3.length≤c0_3) (h:laws_toItem.f k a0_0 a0_1 a0_2 l0_3=some (r1,r2,r3,r4)):
  Calls Try.prog 25 #[.agg #[.string a0_0, .int .i64 a0_1, .int .i64 a0_2, .slice A0_3 l0_3.length c0_3]] w fun e w'=>∃ v3_:Value,e= .returned (.agg #[.string r1, .int .i64 r2, .int .i64 r3,v3_])∧Kd.R (Kd.int .u8) 5 w' w.heap.size (fun _=>True) v3_ r4∧Below w.heap.size w w':=by
 have hu31:=Try.underlying31
 have hu34:=Try.underlying34
 have HR0_3:=Aside0.mk hr0_3
 have HC0_3:=Aside0.mk hc0_3
 clear hr0_3 hc0_3
 have HB:=Aside0.mk (zbe w.heap.size w)
 have H:((laws_toByteS.f k l0_3).bind fun t115=>(some (a0_0,a0_1,a0_2,t115)))=some (r1,r2,r3,r4):=h
 clear h
 obtain⟨t115,A2,H⟩:=bnd H
 simp only[zax,zay] at H
 obtain⟨rfl,rfl,rfl,rfl⟩:=H
 go_enter Try.func25,Try.ntmps25
 go_wp2_with (first | (refine jgd 1 ?_;refine bx 1 (#[.string a0_0, .int .i64 a0_1, .int .i64 a0_2, .slice A0_3 l0_3.length c0_3]) 31 ?_;intro gb112 hg w3 hbox hb;have xb_:=below_ofs bq hb;have n_:=jA4 (zah xb_ hb) (hbox) (ge0 hg xb_:w.heap.size≤gb112) (ge0 hg xb_:w.heap.size≤gb112);clear HB;obtain⟨HB,BK112,GW112,GE112⟩:=n_;clear xb_ hb hbox hg) | (refine jgd 2 ?_;refine bx 2 (#[.string (⟨#[]⟩:ByteArray), .int .i64 0, .int .i64 0, .slice none 0 0]) 34 ?_;intro gb113 hg w4 hbox hb;have n_:=jA7 (jbb BK112.out hb) (zah (bs1 GE112.out) hb) (hbox) (ge0 hg (bs1 GE112.out):w.heap.size≤gb113) (ge0 hg (bs1 GE112.out):w.heap.size≤gb113) (nl hg (pB BK112.out):gb112≠gb113) (ng hg (pB BK112.out):gb113≠gb112);clear BK112 HB;obtain⟨BK112,HB,BK113,GW113,GE113,NB112_113,NB113_112⟩:=n_;clear hb hbox hg) | (refine jgd 3 ?_;refine bx 3 (#[.string (⟨#[]⟩:ByteArray), .int .i64 0, .int .i64 0, .slice none 0 0]) 34 ?_;intro gb114 hg w5 hbox hb;have n_:=jA10 (jbb BK112.out hb) (jbb BK113.out hb) (zah (bs2 GE112.out GE113.out) hb) (hbox) (ge0 hg (bs2 GE112.out GE113.out):w.heap.size≤gb114) (ge0 hg (bs2 GE112.out GE113.out):w.heap.size≤gb114) (nl hg (pB BK112.out):gb112≠gb114) (ng hg (pB BK112.out):gb114≠gb112) (nl hg (pB BK113.out):gb113≠gb114) (ng hg (pB BK113.out):gb114≠gb113);clear BK112 BK113 HB;obtain⟨BK112,BK113,HB,BK114,GW114,GE114,NB112_114,NB114_112,NB113_114,NB114_113⟩:=n_;clear hb hbox hg;have hnb6:=NB112_113.out;have hnc6:=NB113_112.out;have hnb7:=NB112_114.out;have hnc7:=NB114_112.out;obtain⟨hcz8_0,hcz8_1,hcz8_2,hcz8_3,hfz8_0,hfz8_1,hfz8_2,hfz8_3⟩:=cz4 BK112.out;have hnb9:=NB114_113.out;have hnc9:=NB113_114.out;obtain⟨hcz10_0,hcz10_1,hcz10_2,hcz10_3,hfz10_0,hfz10_1,hfz10_2,hfz10_3⟩:=cz4 BK114.out) | (refine jgc 55 ?_;refine jgs 15 Try.func55 #[.slice A0_3 l0_3.length c0_3] ?_;(with_reducible refine(laws_toByteS.calls k _ _ l0_3 t115 _ ?side1 ?side2 A2.out).mono ?_);(case side1=>exact zcu HR0_3.out (bs3 GE112.out GE113.out GE114.out));(case side2=>exact HC0_3.out);rintro e w11 ⟨v116,rfl,ho0,hb⟩;refine⟨_,rfl,?_⟩;have n_:=jA5 (zbf ho0 (zav (bs3 GE112.out GE113.out GE114.out))) (zeo (g:=gb112) (o:= .cells #[.string a0_0, .int .i64 a0_1, .int .i64 a0_2, .slice A0_3 l0_3.length c0_3] 31 (0,0)) (by(with_reducible repeat(first | refine zal ?_ _ | refine zar ?_ | refine zam ?_ _));refine zed ?_ NB112_114.out _;(with_reducible repeat(first | refine zal ?_ _ | refine zar ?_ | refine zam ?_ _));refine zed ?_ NB112_114.out _;(with_reducible repeat(first | refine zal ?_ _ | refine zar ?_ | refine zam ?_ _));refine zed ?_ NB112_114.out _;(with_reducible repeat(first | refine zal ?_ _ | refine zar ?_ | refine zam ?_ _));exact BK112.out) hb) (zeo (g:=gb113) (o:= .cells #[.string (⟨#[]⟩:ByteArray), .int .i64 0, .int .i64 0, .slice none 0 0] 34 (0,0)) (by(with_reducible repeat(first | refine zal ?_ _ | refine zar ?_ | refine zam ?_ _));refine zed ?_ NB113_114.out _;(with_reducible repeat(first | refine zal ?_ _ | refine zar ?_ | refine zam ?_ _));refine zed ?_ NB113_114.out _;(with_reducible repeat(first | refine zal ?_ _ | refine zar ?_ | refine zam ?_ _));refine zed ?_ NB113_114.out _;(with_reducible repeat(first | refine zal ?_ _ | refine zar ?_ | refine zam ?_ _));exact BK113.out) hb) (zeo (g:=gb114) (o:= .cells #[.string a0_0, .int .i64 a0_1, .int .i64 a0_2, .slice none 0 0] 34 (0,0)) (by(with_reducible repeat(first | refine zal ?_ _ | refine zar ?_ | refine zam ?_ _));refine zbw (cs:= #[.string a0_0, .int .i64 a0_1, .int .i64 0, .slice none 0 0]) ?_ 2 _ rfl;(with_reducible repeat(first | refine zal ?_ _ | refine zar ?_ | refine zam ?_ _));refine zbw (cs:= #[.string a0_0, .int .i64 0, .int .i64 0, .slice none 0 0]) ?_ 1 _ rfl;(with_reducible repeat(first | refine zal ?_ _ | refine zar ?_ | refine zam ?_ _));refine zbw (cs:= #[.string (⟨#[]⟩:ByteArray), .int .i64 0, .int .i64 0, .slice none 0 0]) ?_ 0 _ rfl;(with_reducible repeat(first | refine zal ?_ _ | refine zar ?_ | refine zam ?_ _));exact BK114.out) hb) (zah (bs3 GE112.out GE113.out GE114.out) hb);clear BK112 BK113 BK114 HB;obtain⟨HO117,BK112,BK113,BK114,HB⟩:=n_;clear hb ho0;obtain⟨Ao12,co12,eo12⟩:=zbh HO117.out;subst eo12;obtain⟨hcz13_0,hcz13_1,hcz13_2,hcz13_3,hfz13_0,hfz13_1,hfz13_2,hfz13_3⟩:=cz4 BK114.out;obtain⟨hcz14_0,hcz14_1,hcz14_2,hcz14_3,hfz14_0,hfz14_1,hfz14_2,hfz14_3⟩:=cz4 BK113.out))
 refine zec (zej rfl _ _ gb113 34 #[.string a0_0, .int .i64 a0_1, .int .i64 a0_2, .slice Ao12 t115.length co12] (0,0) _ rfl (by(with_reducible repeat(first | refine zal ?_ _ | refine zar ?_ | refine zam ?_ _));refine zbw (cs:= #[.string a0_0, .int .i64 a0_1, .int .i64 a0_2, .slice none 0 0]) ?_ 3 _ rfl;(with_reducible repeat(first | refine zal ?_ _ | refine zar ?_ | refine zam ?_ _));refine zbw (cs:= #[.string a0_0, .int .i64 a0_1, .int .i64 0, .slice none 0 0]) ?_ 2 _ rfl;(with_reducible repeat(first | refine zal ?_ _ | refine zar ?_ | refine zam ?_ _));refine zbw (cs:= #[.string a0_0, .int .i64 0, .int .i64 0, .slice none 0 0]) ?_ 1 _ rfl;(with_reducible repeat(first | refine zal ?_ _ | refine zar ?_ | refine zam ?_ _));refine zbw (cs:= #[.string (⟨#[]⟩:ByteArray), .int .i64 0, .int .i64 0, .slice none 0 0]) ?_ 0 _ rfl;(with_reducible repeat(first | refine zal ?_ _ | refine zar ?_ | refine zam ?_ _));refine zed ?_ NB113_114.out _;(with_reducible repeat(first | refine zal ?_ _ | refine zar ?_ | refine zam ?_ _));exact BK113.out) Try.underlying34 rfl (by kernel_rfl)) rfl ?_
 exact⟨_,jex,by(with_reducible repeat(first | apply zdb | apply zdc | apply zdl));exact zas (zck (p:=⟨gb113,3,none⟩) (zck (p:=⟨gb113,2,none⟩) (zck (p:=⟨gb113,1,none⟩) (zck (p:=⟨gb113,0,none⟩) (zck (p:=⟨gb114,3,none⟩) (zby (zby HO117.out BK114.out (by decide)) BK113.out (by decide)) (fun _ hk=>hk.1.2) (.slice Ao12 t115.length co12)) (fun _ hk=>hk.2) (.string a0_0)) (fun _ hk=>hk.2) (.int .i64 a0_1)) (fun _ hk=>hk.2) (.int .i64 a0_2)) (fun _ hk=>hk.2) (.slice Ao12 t115.length co12)) (fun _ hk=>trivial),(bs3 GE112.out GE113.out GE114.out)⟩
end Go.Proofs.Ytlalkldjpniakaa.P
