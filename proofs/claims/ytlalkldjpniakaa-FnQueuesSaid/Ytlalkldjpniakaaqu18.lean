import Derived.Test.Ytlalkldjpniakaaqu17
namespace Go.Proofs.Ytlalkldjpniakaa.P
open Go.RowKit Go.Proofs.YtlalkldjpniakaaW.PrintWords Go.Proofs.YtlalkldjpniakaaW.PrintLast Go.Proofs.YtlalkldjpniakaaW.PrintMore
attribute [local go_sem] zbr zbs zch zci zbk zbl zbt zbu -- for this text's walks alone
set_option linter.unusedVariables false
set_option linter.unusedSimpArgs false
set_option maxHeartbeats 8000000
set_option maxRecDepth 100000

def impl_cloneItem.f (a0_0:ByteArray) (a0_1:Int) (a0_2:Int) (l0_3:List Int):Option (ByteArray×Int×Int×List Int):=(slices_Clone_byte_byte.f l0_3).bind fun t362=>(some (a0_0,a0_1,a0_2,t362))
theorem impl_cloneItem.calls (a0_0:ByteArray) (a0_1:Int) (a0_2:Int) (A0_3:Option Addr) (c0_3:Nat) (l0_3:List Int) (r1:ByteArray) (r2:Int) (r3:Int) (r4:List Int) (w:World) (hr0_3:Kd.C (Kd.int .u8) w A0_3 l0_3.length l0_3) (hc0_3:l0_3.length≤c0_3) (h:impl_cloneItem.f a0_0 a0_1 a0_2 l0_3=some (r1,r2,r3,r4)):
  Calls Try.prog 104 #[.agg #[.string a0_0, .int .i64 a0_1, .int .i64 a0_2, .slice A0_3 l0_3.length c0_3]] w fun e w'=>∃ v3_:Value,e= .returned (.agg #[.string r1, .int .i64 r2, .int .i64 r3,v3_])∧Kd.R (Kd.int .u8) 5 w' w.heap.size (fun _=>True) v3_ r4∧Below w.heap.size w w':=by
 have hu34:=Try.underlying34
 have HR0_3:=Aside0.mk hr0_3
 have HC0_3:=Aside0.mk hc0_3
 clear hr0_3 hc0_3
 have HB:=Aside0.mk (zbe w.heap.size w)
 have H:((slices_Clone_byte_byte.f l0_3).bind fun t362=>(some (a0_0,a0_1,a0_2,t362)))=some (r1,r2,r3,r4):=h
 clear h
 obtain⟨t362,A2,H⟩:=bnd H
 simp only[zax,zay] at H
 obtain⟨rfl,rfl,rfl,rfl⟩:=H
 go_enter Try.func104,Try.ntmps104
 go_wp2_with (first | (refine jgd 1 ?_;refine bx 1 (#[.string a0_0, .int .i64 a0_1, .int .i64 a0_2, .slice A0_3 l0_3.length c0_3]) 34 ?_;intro gb360 hg w3 hbox hb;have xb_:=below_ofs bq hb;have n_:=jA4 (zah xb_ hb) (hbox) (ge0 hg xb_:w.heap.size≤gb360) (ge0 hg xb_:w.heap.size≤gb360);clear HB;obtain⟨HB,BK360,GW360,GE360⟩:=n_;clear xb_ hb hbox hg) | (refine jgd 2 ?_;refine bx 2 (#[.string (⟨#[]⟩:ByteArray), .int .i64 0, .int .i64 0, .slice none 0 0]) 34 ?_;intro gb361 hg w4 hbox hb;have n_:=jA7 (jbb BK360.out hb) (zah (bs1 GE360.out) hb) (hbox) (ge0 hg (bs1 GE360.out):w.heap.size≤gb361) (ge0 hg (bs1 GE360.out):w.heap.size≤gb361) (nl hg (pB BK360.out):gb360≠gb361) (ng hg (pB BK360.out):gb361≠gb360);clear BK360 HB;obtain⟨BK360,HB,BK361,GW361,GE361,NB360_361,NB361_360⟩:=n_;clear hb hbox hg;have hnb5:=NB360_361.out;have hnc5:=NB361_360.out;obtain⟨hcz6_0,hcz6_1,hcz6_2,hcz6_3,hfz6_0,hfz6_1,hfz6_2,hfz6_3⟩:=cz4 BK360.out) | (refine jgc 116 ?_;refine jgs 5 Try.func116 #[.slice A0_3 l0_3.length c0_3] ?_;(with_reducible refine(slices_Clone_byte_byte.calls _ _ l0_3 t362 _ ?side1 ?side2 A2.out).mono ?_);(case side1=>exact jcs HR0_3.out);(case side2=>exact HC0_3.out);rintro e w7 ⟨v363,rfl,ho0,hb⟩;refine⟨_,rfl,?_⟩;have n_:=jA4 (zbf ho0 (zav (bs2 GE360.out GE361.out))) (jbb BK360.out hb) (jbb BK361.out hb) (zah (bs2 GE360.out GE361.out) hb);clear BK360 BK361 HB;obtain⟨HO364,BK360,BK361,HB⟩:=n_;clear hb ho0;obtain⟨Ao8,co8,eo8⟩:=zbh HO364.out;subst eo8;obtain⟨hcz9_0,hcz9_1,hcz9_2,hcz9_3,hfz9_0,hfz9_1,hfz9_2,hfz9_3⟩:=cz4 BK360.out;obtain⟨hcz10_0,hcz10_1,hcz10_2,hcz10_3,hfz10_0,hfz10_1,hfz10_2,hfz10_3⟩:=cz4 BK361.out))
 refine zec (zej rfl _ _ gb361 34 #[.string a0_0, .int .i64 a0_1, .int .i64 a0_2, .slice Ao8 t362.length co8] (0,0) _ rfl (by(with_reducible repeat(first | refine zal ?_ _ | refine zar ?_ | refine zam ?_ _));refine zbw (cs:= #[.string a0_0, .int .i64 a0_1, .int .i64 a0_2, .slice none 0 0]) ?_ 3 _ rfl;(with_reducible repeat(first | refine zal ?_ _ | refine zar ?_ | refine zam ?_ _));refine zbw (cs:= #[.string a0_0, .int .i64 a0_1, .int .i64 0, .slice none 0 0]) ?_ 2 _ rfl;(with_reducible repeat(first | refine zal ?_ _ | refine zar ?_ | refine zam ?_ _));refine zbw (cs:= #[.string a0_0, .int .i64 0, .int .i64 0, .slice none 0 0]) ?_ 1 _ rfl;(with_reducible repeat(first | refine zal ?_ _ | refine zar ?_ | refine zam ?_ _));refine zbw (cs:= #[.string (⟨#[]⟩:ByteArray), .int .i64 0, .int .i64 0, .slice none 0 0]) ?_ 0 _ rfl;(with_reducible repeat(first | refine zal ?_ _ | refine zar ?_ | refine zam ?_ _));refine zed ?_ NB361_360.out _;(with_reducible repeat(first | refine zal ?_ _ | refine zar ?_ | refine zam ?_ _));exact BK361.out) Try.underlying34 rfl (by kernel_rfl)) rfl ?_
 exact⟨_,jex,by(with_reducible repeat(first | apply zdb | apply zdc | apply zdl));exact zas (zck (p:=⟨gb361,3,none⟩) (zck (p:=⟨gb361,2,none⟩) (zck (p:=⟨gb361,1,none⟩) (zck (p:=⟨gb361,0,none⟩) (zck (p:=⟨gb360,3,none⟩) (zby (zby HO364.out BK360.out (by decide)) BK361.out (by decide)) (fun _ hk=>hk.1.2) (.slice Ao8 t362.length co8)) (fun _ hk=>hk.2) (.string a0_0)) (fun _ hk=>hk.2) (.int .i64 a0_1)) (fun _ hk=>hk.2) (.int .i64 a0_2)) (fun _ hk=>hk.2) (.slice Ao8 t362.length co8)) (fun _ hk=>trivial),(bs2 GE360.out GE361.out)⟩
def impl_cloneItems.l0:Nat→List (S34)→List (S34)→Int→Int→Option ((List (S34)))
 | 0,_,_,_,_=>none
 | k+1,x3,x6,x7,x8=>if x8<x7 then(if 0≤x8 then(if x8<(x6.length:Int) then((impl_cloneItem.f ((rd_T34 x6 x8).f0) ((rd_T34 x6 x8).f1) ((rd_T34 x6 x8).f2) ((rd_T34 x6 x8).f3)).bind fun bt367=>(if x3.length<2513169434916 then(impl_cloneItems.l0 k (x3++[(⟨bt367.1,bt367.2.1,bt367.2.2.1,bt367.2.2.2⟩:S34)]) x6 x7 (wrap64 (x8+1))) else(none))) else(none)) else(none)) else(some x3)
def impl_cloneItems.f (k:Nat) (l0:List (S34)):Option ((List (S34))):=impl_cloneItems.l0 k ([]:List (S34)) l0 (l0.length:Int) 0
theorem impl_cloneItems.mono_l:∀ k,(∀ y0 y1 y2 y3,LeO (impl_cloneItems.l0 k y0 y1 y2 y3) (impl_cloneItems.l0 (k+1) y0 y1 y2 y3))
 | 0=>fun _ _ _ _ r h=>by simp [impl_cloneItems.l0] at h
 | k+1=>by
  have ih0:=impl_cloneItems.mono_l k
  intro y0 y1 y2 y3
  unfold impl_cloneItems.l0
  exact mt
theorem impl_cloneItems.mono:∀ a0 k,LeO (impl_cloneItems.f k a0) (impl_cloneItems.f (k+1) a0):=by
 intro a0 k
 have ih0:=impl_cloneItems.mono_l k
 unfold impl_cloneItems.f
 exact mt
theorem impl_cloneItems.calls (k:Nat) (A0:Option Addr) (c0:Nat) (l0:List (S34)) (r:List (S34)) (w:World) (hr0:Kd.C k34 w A0 l0.length l0) (hc0:l0.length≤c0) (h:impl_cloneItems.f k l0=some r):
  Calls Try.prog 96 #[.slice A0 l0.length c0] w fun e w'=>∃ v0_:Value,e= .returned (v0_)∧Kd.S k34 34 w' w.heap.size (fun _=>True) v0_ r∧Below w.heap.size w w':=by
 have hu34:=Try.underlying34
 have HR0:=Aside0.mk hr0
 have HC0:=Aside0.mk hc0
 clear hr0 hc0
 have HB:=Aside0.mk (zbe w.heap.size w)
 have H:(impl_cloneItems.l0 k ([]:List (S34)) l0 (l0.length:Int) 0)=some r:=h
 clear h
 have H':=Aside0.mk H
 clear H
 go_enter Try.func96,Try.ntmps96
 go_wp2
 go_loopg [3,8] k (fun kq v3 v8 w'=>∃ (x3_1:List (S34)) (x8_1:Int),v8= .int .i64 x8_1∧Aside0 (impl_cloneItems.l0 kq x3_1 l0 (l0.length:Int) x8_1=some r)∧Aside0 (kq≤k)∧Aside0 (Kd.S k34 34 w' w.heap.size (fun _=>True) v3 x3_1)∧Aside0 (Below w.heap.size w w'))
 case atStart=>exact⟨(([]:List (S34))),(0),jer,H',⟨zbc _⟩,⟨by first | exact Kd.S_nil _ _ _ _ _ | exact Kd.N_nil _ _ _ _ _ | exact Kd.V_nil _ _ _ _ _ | exact Kd.Q_nil _ _ _ _ _ | exact Kd.R_nil _ _ _ _ _⟩,⟨bq⟩⟩
 case round=>
  clear H'
  obtain⟨x3_1,x8_1,rfl,HA,HK1,HO_3,HB⟩:=hrel
  cases gk with
  | zero=>exact absurd HA.out (by simp [impl_cloneItems.l0])
  | succ k1=>
   have H:=HA.out
   clear HA
   simp only[impl_cloneItems.l0] at H
   by_cases c2:x8_1<(l0.length:Int)
   ·rw[if_pos c2] at H
    have c2b0:=zag c2
    clear c2
    by_cases c3:0≤x8_1
    ·rw[if_pos c3] at H
     have c3b0:=zag c3
     clear c3
     by_cases c4:x8_1<(l0.length:Int)
     ·rw[if_pos c4] at H
      have c4b0:=zag c4
      clear c4
      obtain⟨⟨t367,t368,t369,t370⟩,A5,H⟩:=bnd H
      try dsimp only at H
      by_cases c6:x3_1.length<2513169434916
      ·rw[if_pos c6] at H
       have LMc6:=Aside0.mk c6
       clear c6
       obtain⟨y373,hy373⟩:∃ y_:List (S34),y_=(x3_1++[(⟨t367,t368,t369,t370⟩:S34)]):=⟨_,rfl⟩
       replace H:(impl_cloneItems.l0 k1 y373 l0 (l0.length:Int) (wrap64 (x8_1+1)))=some r:=jrw hy373 H
       have Ny373:=Aside0.mk hy373
       clear hy373
       have H':=Aside0.mk H
       clear H
       obtain⟨p365,q365,ad365,A365_3,c365_3,e365,hx365_0,hx365_1,hx365_2,hx365_3,HC365_3,HR365_3⟩:=jel HR0.out HB.out x8_1
       cases e365
       go_wp2_with (first | (refine jgd 5 ?_;refine bx 5 (#[.string (⟨#[]⟩:ByteArray), .int .i64 0, .int .i64 0, .slice none 0 0]) 34 ?_;intro gb366 hg w7 hbox hb;have xb_:=below_ofs bq hb;have n_:=jA5 (zei (Kd.S_elderB (pS HO_3.out) gb366 (Nat.le_of_eq hg.symm)) hb) (zah xb_ hb) (hbox) (ge0 hg xb_:w.heap.size≤gb366) (ge0 hg xb_:w.heap.size≤gb366);clear HO_3 HB;obtain⟨HO_3,HB,BK366,GW366,GE366⟩:=n_;clear xb_ hb hbox hg;obtain⟨hcz8_0,hcz8_1,hcz8_2,hcz8_3,hfz8_0,hfz8_1,hfz8_2,hfz8_3⟩:=cz4 BK366.out) | (refine jgc 104 ?_;refine jgs 14 Try.func104 #[.agg #[.string ((rd_T34 l0 x8_1).f0), .int .i64 ((rd_T34 l0 x8_1).f1), .int .i64 ((rd_T34 l0 x8_1).f2), .slice A365_3 ((rd_T34 l0 x8_1).f3).length c365_3]] ?_;(with_reducible refine(impl_cloneItem.calls ((rd_T34 l0 x8_1).f0) ((rd_T34 l0 x8_1).f1) ((rd_T34 l0 x8_1).f2) _ _ ((rd_T34 l0 x8_1).f3) t367 t368 t369 t370 _ ?side1 ?side2 A5.out).mono ?_);(case side1=>exact zcu HR365_3.out (bs1 GE366.out));(case side2=>exact HC365_3.out);rintro e w9 ⟨v371,rfl,ho0,hb⟩;refine⟨_,rfl,?_⟩;have n_:=jA4 (zds (by(with_reducible repeat(first | apply zcn | apply zco | apply zcw));exact(zca (Kd.S_far (p:=⟨gb366,3,none⟩) (Kd.S_far (p:=⟨gb366,2,none⟩) (Kd.S_far (p:=⟨gb366,1,none⟩) (Kd.S_far (p:=⟨gb366,0,none⟩) (zca HO_3.out (fun k_ hk=>(⟨hk,hk.2⟩:_∧k_≠gb366))) (fun _ hk=>hk.2) (.string ((rd_T34 l0 x8_1).f0))) (fun _ hk=>hk.2) (.int .i64 ((rd_T34 l0 x8_1).f1))) (fun _ hk=>hk.2) (.int .i64 ((rd_T34 l0 x8_1).f2))) (fun _ hk=>hk.2) (.slice A365_3 ((rd_T34 l0 x8_1).f3).length c365_3)) (fun _ h_=>h_.1))) (zcp ho0) hb) (zbf ho0 (zav (bs1 GE366.out))) (zeo (g:=gb366) (o:= .cells #[.string ((rd_T34 l0 x8_1).f0), .int .i64 ((rd_T34 l0 x8_1).f1), .int .i64 ((rd_T34 l0 x8_1).f2), .slice A365_3 ((rd_T34 l0 x8_1).f3).length c365_3] 34 (0,0)) (by(with_reducible repeat(first | refine zal ?_ _ | refine zar ?_ | refine zam ?_ _));refine zbw (cs:= #[.string ((rd_T34 l0 x8_1).f0), .int .i64 ((rd_T34 l0 x8_1).f1), .int .i64 ((rd_T34 l0 x8_1).f2), .slice none 0 0]) ?_ 3 _ rfl;(with_reducible repeat(first | refine zal ?_ _ | refine zar ?_ | refine zam ?_ _));refine zbw (cs:= #[.string ((rd_T34 l0 x8_1).f0), .int .i64 ((rd_T34 l0 x8_1).f1), .int .i64 0, .slice none 0 0]) ?_ 2 _ rfl;(with_reducible repeat(first | refine zal ?_ _ | refine zar ?_ | refine zam ?_ _));refine zbw (cs:= #[.string ((rd_T34 l0 x8_1).f0), .int .i64 0, .int .i64 0, .slice none 0 0]) ?_ 1 _ rfl;(with_reducible repeat(first | refine zal ?_ _ | refine zar ?_ | refine zam ?_ _));refine zbw (cs:= #[.string (⟨#[]⟩:ByteArray), .int .i64 0, .int .i64 0, .slice none 0 0]) ?_ 0 _ rfl;(with_reducible repeat(first | refine zal ?_ _ | refine zar ?_ | refine zam ?_ _));exact BK366.out) hb) (zah (bs1 GE366.out) hb);clear HO_3 BK366 HB;obtain⟨HO_3,HO372,BK366,HB⟩:=n_;clear hb ho0;obtain⟨Ao11,co11,eo11⟩:=zbh HO372.out;subst eo11) | ((with_reducible refine zbz (b:= .append) (xs:= #[.tmp 12, .tmp 15]) rfl ?_);at_builtin;refine zdj k34 (w0:=w) w.heap.size rfl (.tmp 12) (.tmp 15) 25 34 (.agg #[(.string ⟨#[]⟩),(.int .i64 0),(.int .i64 0),(.slice none 0 0)]) 56 rfl Try.underlying25 info34 rfl (by decide) (by omega) u3 x3_1 (⟨t367,t368,t369,t370⟩:S34) [.string t367, .int .i64 t368, .int .i64 t369, .slice Ao11 t370.length co11] (fun k_=>k_≠gb366) (fun k_=>some k_=(.slice Ao11 t370.length co11:Value).ownBlock) rfl rfl ?aP (fun k_ hk_=>((zas (ok':=fun k_=>((fun k_=>k_≠gb366)) k_∧some k_≠(u3:Value).ownBlock) (zby (zcc (HO372.out) (zcl HO_3.out) (by decide)) BK366.out (by decide)) (fun k_ hk=>⟨hk.2,hk.1.2⟩))).1 k_ hk_.symm) ?aF ?aO ?aB ?aS ?aL ?_;(case aP=>exact k34_mkM _ _ _ (⟨t367,t368,t369,t370⟩:S34) (zas (zdm rfl (zas (ok':=fun k_=>((fun k_=>k_≠gb366)) k_∧some k_≠(u3:Value).ownBlock) (zby (zcc (HO372.out) (zcl HO_3.out) (by decide)) BK366.out (by decide)) (fun k_ hk=>⟨hk.2,hk.1.2⟩))) (fun _ h_=>h_)));(case aB=>exact(bs1 GE366.out));(case aF=>exact(fun k_ hk=>zek (pB BK366.out) k_ hk));(case aO=>exact(by(with_reducible repeat(first | apply zcn | apply zco | apply zcw));exact zca HO_3.out (fun k_ hk=>⟨hk.1.2,fun e_=>hk.2 e_⟩)));(case aS=>exact(zav (bs1 GE366.out)));(case aL=>have:=LMc6.out;omega);intro v374 w10 ho hb hg hat;rw[← Ny373.out] at ho;have n_:=jA3 (zen (pB BK366.out) hg (Kd.S_away HO_3.out (fun _ hk=>hk.1.2))) (hb) (ho);clear BK366 HB HO_3 HO372;obtain⟨BK366,HB,HO375⟩:=n_;clear ho hb hg hat))
       go_roundg k1
       case measure=>have:=HK1.out;omega
       case rel=>exact⟨(y373),(wrap64 (x8_1+1)),jer,H',⟨by have:=HK1.out;omega⟩,⟨tqS HO375.out⟩,⟨bs1 GE366.out⟩⟩
      rw[if_neg c6] at H
      exact absurd H (by simp)
     rw[if_neg c4] at H
     exact absurd H (by simp)
    rw[if_neg c3] at H
    exact absurd H (by simp)
   rw[if_neg c2] at H
   have c2b0:=zaw c2
   clear c2
   obtain rfl:=Option.some.inj H
   go_wp2
   go_ret
   exact⟨_,jex,by(with_reducible repeat(first | apply zcn | apply zco | apply zcw));exact HO_3.out,bq⟩
def impl_Due.f (k:Nat) (l0:List (S34)) (a1:Int):Option (List (S34)):=(impl_cloneItems.f k l0).bind fun t=>some (t.filter fun x=> !decide (x.f2<a1))
theorem impl_Due.mono:∀ a0 a1 k,LeO (impl_Due.f k a0 a1) (impl_Due.f (k+1) a0 a1):=by
 intro a0 a1 k
 unfold impl_Due.f
 exact LeO.bind (impl_cloneItems.mono _ _) (fun _=>LeO.refl _)
theorem impl_Due.calls (k:Nat) (A0:Option Addr) (c0:Nat) (l0:List (S34)) (a1:Int) (r:List (S34)) (w:World) (hr0:Kd.C k34 w A0 l0.length l0) (hc0:l0.length≤c0) (h:impl_Due.f k l0 a1=some r):
  Calls Try.prog 39 #[.slice A0 l0.length c0, .int .i64 a1] w fun e w'=>∃ v0_:Value,e= .returned (v0_)∧Kd.S k34 34 w' w.heap.size (fun _=>True) v0_ r∧Below w.heap.size w w':=by
 unfold impl_Due.f at h
 replace h:=zdg.1 h
 obtain⟨t,ht,h⟩:=h
 obtain rfl:=Option.some.inj h
 have HR:=Aside0.mk hr0
 have HC:=Aside0.mk hc0
 have F:=Aside0.mk ht
 have eg:∀ args w,(callFunc 97 args).run Try.prog w= .ok (.enter 97 args) w:=enters_of Try.func97 (by kernel_rfl) rfl
 clear h ht hr0 hc0
 go_enter Try.func39,Try.ntmps39
 go_wp2_with (first | (go_at_call 96;(with_reducible refine(impl_cloneItems.calls k _ _ l0 t _ (zdo HR.out _) HC.out F.out).mono ?_);rintro e w1 ⟨v1,rfl,ho,hb⟩;have HS:=Aside0.mk ho;have HB:=Aside0.mk hb;clear ho hb;obtain⟨A1,c1,e1⟩:=zbh (Kd.S_R HS.out);subst e1) | (go_at_call 95;refine Hid.out ?_))
 show Calls _ _ _ _ _
 have hsz:w.heap.size+1=(w.alloc (.cells #[.int .i64 a1] 3)).heap.size:=by simp
 refine(items_delete (fun x=>decide (x.f2<a1)) _ _ w.heap.size _ (due_pred a1 w.heap.size) eg A1 c1 t w1 _ _ HS.out ?ho ?hne).mono ?_
 case ho=>rw[HB.out.block _ (by omega)];exact heap_alloc_new w _
 case hne=>intro e_;have h1:=Kd.S_base HS.out _ e_.symm;omega
 rintro e w2 ⟨v2,rfl,hs,hg,hv⟩
 go_wp2_with (fail "none")
 go_ret
 replace hsz:w.heap.size≤(w.alloc (.cells #[.int .i64 a1] 3)).heap.size:=by omega
 exact⟨_,rfl,zca (zdf hs hsz) (fun _ _=>trivial),zdx (((zbe _ w).alloc (zbc _) _).trans (HB.out.mono hsz)) _ (zcq hsz HB.out.size) hg (fun k hk=>zcq hsz (Kd.S_base HS.out k hk))⟩
end Go.Proofs.Ytlalkldjpniakaa.P
