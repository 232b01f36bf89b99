import Derived.Test.Ytlalkldjpniakaaqu20
namespace Go.Proofs.Ytlalkldjpniakaa.P
open Go.RowKit Go.Proofs.YtlalkldjpniakaaW.PrintWords Go.Proofs.YtlalkldjpniakaaW.PrintLast Go.Proofs.YtlalkldjpniakaaW.PrintMore
attribute [local go_sem] zbr zbs zch zci zbk zbl zbt zbu -- for this text's walks alone
set_option linter.unusedVariables false
set_option linter.unusedSimpArgs false

def spec_Put.l0:Nat→List (S34)→List (S34)→Int→ByteArray→Int→Int→List Int→Option ((List (S34))×Bool)
 | 0,_,_,_,_,_,_,_=>none
 | k+1,x0,x6,x7,x828000,x828001,x828002,x828003=>if x7<(x0.length:Int) then(if x828001≤0 then(if 0≤x7 then((spec_l13Item.f ((rd_T34 x0 x7).f0) ((rd_T34 x0 x7).f1) ((rd_T34 x0 x7).f2) ((rd_T34 x0 x7).f3)).bind fun bt832=>(if x6.length<2513169434916 then(spec_Put.l0 k x0 (x6++[(⟨bt832.1,bt832.2.1,bt832.2.2.1,bt832.2.2.2⟩:S34)]) (wrap64 (x7+1)) x828000 x828001 x828002 x828003) else(none))) else(none)) else(if 0≤x7 then(if((rd_T34 x0 x7).f0).toList=x828000.toList then(if((rd_T34 x0 x7).f1)=x828001 then(spec_Put.l0 k x0 x6 (wrap64 (x7+1)) x828000 x828001 x828002 x828003) else((spec_l13Item.f ((rd_T34 x0 x7).f0) ((rd_T34 x0 x7).f1) ((rd_T34 x0 x7).f2) ((rd_T34 x0 x7).f3)).bind fun bt844=>(if x6.length<2513169434916 then(spec_Put.l0 k x0 (x6++[(⟨bt844.1,bt844.2.1,bt844.2.2.1,bt844.2.2.2⟩:S34)]) (wrap64 (x7+1)) x828000 x828001 x828002 x828003) else(none)))) else((spec_l13Item.f ((rd_T34 x0 x7).f0) ((rd_T34 x0 x7).f1) ((rd_T34 x0 x7).f2) ((rd_T34 x0 x7).f3)).bind fun bt854=>(if x6.length<2513169434916 then(spec_Put.l0 k x0 (x6++[(⟨bt854.1,bt854.2.1,bt854.2.2.1,bt854.2.2.2⟩:S34)]) (wrap64 (x7+1)) x828000 x828001 x828002 x828003) else(none)))) else(none))) else((spec_l13Item.f x828000 x828001 x828002 x828003).bind fun bt863=>(if x6.length<2513169434916 then((some (x6++[(⟨bt863.1,bt863.2.1,bt863.2.2.1,bt863.2.2.2⟩:S34)]:List (S34))).bind fun y869=>((spec_QueueOk.f k y869).bind fun t872=>(if t872=true then(some (y869,true)) else((spec_l13Queue.f k x0).bind fun t873=>(some (t873,false)))))) else(none)))
def spec_Put.f (k:Nat) (l0:List (S34)) (a1_0:ByteArray) (a1_1:Int) (a1_2:Int) (l1_3:List Int):Option ((List (S34))×Bool):=spec_Put.l0 k l0 (([]:List (S34))) 0 a1_0 a1_1 a1_2 l1_3
theorem spec_Put.mono_l:∀ k,(∀ y0 y1 y2 y3 y4 y5 y6,LeO (spec_Put.l0 k y0 y1 y2 y3 y4 y5 y6) (spec_Put.l0 (k+1) y0 y1 y2 y3 y4 y5 y6))
 | 0=>fun _ _ _ _ _ _ _ r h=>by simp [spec_Put.l0] at h
 | k+1=>by
  have ih0:=spec_Put.mono_l k
  intro y0 y1 y2 y3 y4 y5 y6
  unfold spec_Put.l0
  have m0:=@spec_QueueOk.mono
  have m1:=@spec_l13Queue.mono
  exact mt
theorem spec_Put.mono:∀ a0 a1 a2 a3 a4 k,LeO (spec_Put.f k a0 a1 a2 a3 a4) (spec_Put.f (k+1) a0 a1 a2 a3 a4):=by
 intro a0 a1 a2 a3 a4 k
 have ih0:=spec_Put.mono_l k
 unfold spec_Put.f
 have m0:=@spec_QueueOk.mono
 have m1:=@spec_l13Queue.mono
 exact mt
set_option maxHeartbeats 8000000 in
set_option maxRecDepth 100000 in
theorem spec_Put.calls (k:Nat) (A0:Option Addr) (c0:Nat) (l0:List (S34)) (a1_0:ByteArray) (a1_1:Int) (a1_2:Int) (A1_3:Option Addr) (c1_3:Nat) (l1_3:List Int) (r1:List (S34)) (r2:Bool) (w:World) (hr0:Kd.C k34 w A0 l0.length l0) (hc0:l0.length≤c0) (hr1_3:Kd.C (Kd.int .u8) w A1_3 l1_3.length l1_3) (hc1_3:l1_3.length≤c1_3) (h:spec_Put.f k l0 a1_0 a1_1 a1_2 l1_3=some (r1,r2)):
  Calls Try.prog 61 #[.slice A0 l0.length c0, .agg #[.string a1_0, .int .i64 a1_1, .int .i64 a1_2, .slice A1_3 l1_3.length c1_3]] w fun e w'=>∃ v0_:Value,e= .returned (.tuple #[v0_, .bool r2])∧Kd.S k34 34 w' w.heap.size (fun _=>True) v0_ r1∧Below w.heap.size w w':=by
 have hu34:=Try.underlying34
 have HR0:=Aside0.mk hr0
 have HC0:=Aside0.mk hc0
 clear hr0 hc0
 have HR1_3:=Aside0.mk hr1_3
 have HC1_3:=Aside0.mk hc1_3
 clear hr1_3 hc1_3
 have HB:=Aside0.mk (zbe w.heap.size w)
 have H:(spec_Put.l0 k l0 (([]:List (S34))) 0 a1_0 a1_1 a1_2 l1_3)=some (r1,r2):=h
 clear h
 obtain⟨y828,hy828⟩:∃ y_:List (S34),y_=(([]:List (S34))):=⟨_,rfl⟩
 replace H:(spec_Put.l0 k l0 y828 0 a1_0 a1_1 a1_2 l1_3)=some (r1,r2):=jrw hy828 H
 have Ny828:=Aside0.mk hy828
 clear hy828
 have H':=Aside0.mk H
 clear H
 go_enter Try.func61,Try.ntmps61
 go_wp2_with (first | (refine jgd 3 ?_;refine bx 3 (#[.string a1_0, .int .i64 a1_1, .int .i64 a1_2, .slice A1_3 l1_3.length c1_3]) 34 ?_;intro gb827 hg w3 hbox hb;have xb_:=below_ofs bq hb;have n_:=jA4 (zah xb_ hb) (hbox) (ge0 hg xb_:w.heap.size≤gb827) (ge0 hg xb_:w.heap.size≤gb827);clear HB;obtain⟨HB,BK827,GW827,GE827⟩:=n_;clear xb_ hb hbox hg) | (refine jgd 8 ?_;refine Kd.S_lit k34 _ 34 ?hg (N:=8) ?hd (xs:=([]:List (S34))) (inner:=[]) (ok:=fun _=>True) (okp:=fun _=>True) ?hr ?hp (fun _ hk=>hk) trivial (zbe _ _) (zbc _) (by simp) ?_;(case hd=>rfl);(case hg=>rfl);(case hr=>first | (go_simp;done) | (go_simp;rfl));(case hp=>exact(Reps.none _ _));intro v829 w4 ho5 hb hg_ hnew_;clear hg_ hnew_;(first | rw[← Ny828.out] at ho5 | (simp only[Int.reduceToNat] at ho5;rw[← Ny828.out] at ho5));have n_:=jA3 (zdf (Kd.S_newB ho5 (pB BK827.out)) (zav (bs1 GE827.out))) (jbb BK827.out hb) (zah (bs1 GE827.out) hb);clear BK827 HB;obtain⟨HO830,BK827,HB⟩:=n_;clear hb ho5))
 go_loopg [6,7] k (fun kq v6 v7 w'=>∃ (x6_1:List (S34)) (x7_1:Int),v7= .int .i64 x7_1∧Aside0 (spec_Put.l0 kq l0 x6_1 x7_1 a1_0 a1_1 a1_2 l1_3=some (r1,r2))∧Aside0 (kq≤k)∧Aside0 (Kd.S k34 34 w' w.heap.size (fun k_=>k_≠gb827) v6 x6_1)∧Aside0 (w'.heap[gb827]? =some (.cells #[.string a1_0, .int .i64 a1_1, .int .i64 a1_2,(.slice A1_3 l1_3.length c1_3)] 34 (0,0)))∧Aside0 (Below w.heap.size w w'))
 case atStart=>exact⟨(y828),(0),jer,H',⟨zbc _⟩,⟨by(with_reducible repeat(first | apply zcn | apply zco | apply zcw));exact zca HO830.out (fun _ hk=>hk.2)⟩,⟨pB BK827.out⟩,⟨bs1 GE827.out⟩⟩
 case round=>
  clear H'
  try clear c1
  try clear p2
  obtain⟨x6_1,x7_1,rfl,HA,HK1,HO_6,BK827,HB⟩:=hrel
  cases gk with
  | zero=>exact absurd HA.out (by simp [spec_Put.l0])
  | succ k1=>
   have H:=HA.out
   clear HA
   simp only[spec_Put.l0] at H
   by_cases c6:x7_1<(l0.length:Int)
   ·rw[if_pos c6] at H
    have c6b0:=zag c6
    clear c6
    by_cases c7:a1_1≤0
    ·rw[if_pos c7] at H
     have c7b0:=zag c7
     clear c7
     by_cases c8:0≤x7_1
     ·rw[if_pos c8] at H
      have c8b0:=zag c8
      clear c8
      obtain⟨⟨t832,t833,t834,t835⟩,A9,H⟩:=bnd H
      try dsimp only at H
      by_cases c10:x6_1.length<2513169434916
      ·rw[if_pos c10] at H
       have LMc10:=Aside0.mk c10
       clear c10
       obtain⟨y838,hy838⟩:∃ y_:List (S34),y_=(x6_1++[(⟨t832,t833,t834,t835⟩:S34)]):=⟨_,rfl⟩
       replace H:(spec_Put.l0 k1 l0 y838 (wrap64 (x7_1+1)) a1_0 a1_1 a1_2 l1_3)=some (r1,r2):=jrw hy838 H
       have Ny838:=Aside0.mk hy838
       clear hy838
       have H':=Aside0.mk H
       clear H
       obtain⟨hcz11_0,hcz11_1,hcz11_2,hcz11_3,hfz11_0,hfz11_1,hfz11_2,hfz11_3⟩:=cz4 BK827.out
       obtain⟨p831,q831,ad831,A831_3,c831_3,e831,hx831_0,hx831_1,hx831_2,hx831_3,HC831_3,HR831_3⟩:=jel HR0.out HB.out x7_1
       cases e831
       go_wp2_with (first | (go_at_call 94;(with_reducible refine(spec_l13Item.calls ((rd_T34 l0 x7_1).f0) ((rd_T34 l0 x7_1).f1) ((rd_T34 l0 x7_1).f2) _ _ ((rd_T34 l0 x7_1).f3) t832 t833 t834 t835 _ ?side1 ?side2 A9.out).mono ?_);(case side1=>exact jcs HR831_3.out);(case side2=>exact HC831_3.out);rintro e w12 ⟨v836,rfl,ho0,hb⟩;have n_:=jA4 (zds (pS HO_6.out) (zcp ho0) hb) (zbf ho0 (zav (bs1 GE827.out))) (jbb BK827.out hb) (zah (bs1 GE827.out) hb);clear HO_6 BK827 HB;obtain⟨HO_6,HO837,BK827,HB⟩:=n_;clear hb ho0;obtain⟨Ao14,co14,eo14⟩:=zbh HO837.out;subst eo14) | ((with_reducible refine zbz (b:= .append) (xs:= #[.tmp 38, .tmp 44]) rfl ?_);at_builtin;refine zdj k34 (w0:=w) w.heap.size rfl (.tmp 38) (.tmp 44) 25 34 (.agg #[(.string ⟨#[]⟩),(.int .i64 0),(.int .i64 0),(.slice none 0 0)]) 56 rfl Try.underlying25 info34 rfl (by decide) (by omega) u6 x6_1 (⟨t832,t833,t834,t835⟩:S34) [.string t832, .int .i64 t833, .int .i64 t834, .slice Ao14 t835.length co14] (fun k_=>k_≠gb827) (fun k_=>some k_=(.slice Ao14 t835.length co14:Value).ownBlock) rfl rfl ?aP (fun k_ hk_=>((zas (ok':=fun k_=>((fun k_=>k_≠gb827)) k_∧some k_≠(u6:Value).ownBlock) (zby (zcc (HO837.out) (zcl HO_6.out) (by decide)) BK827.out (by decide)) (fun k_ hk=>⟨hk.2,hk.1.2⟩))).1 k_ hk_.symm) ?aF ?aO ?aB ?aS ?aL ?_;(case aP=>exact k34_mkM _ _ _ (⟨t832,t833,t834,t835⟩:S34) (zas (zdm rfl (zas (ok':=fun k_=>((fun k_=>k_≠gb827)) k_∧some k_≠(u6:Value).ownBlock) (zby (zcc (HO837.out) (zcl HO_6.out) (by decide)) BK827.out (by decide)) (fun k_ hk=>⟨hk.2,hk.1.2⟩))) (fun _ h_=>h_)));(case aB=>exact(bs1 GE827.out));(case aF=>exact(fun k_ hk=>zek (pB BK827.out) k_ hk));(case aO=>exact(by(with_reducible repeat(first | apply zcn | apply zco | apply zcw));exact zca HO_6.out (fun k_ hk=>⟨hk.1,fun e_=>hk.2 e_⟩)));(case aS=>exact(zav (bs1 GE827.out)));(case aL=>have:=LMc10.out;omega);intro v839 w13 ho hb hg hat;rw[← Ny838.out] at ho;have n_:=jA3 (zen (pB BK827.out) hg (Kd.S_away HO_6.out (fun _ hk=>hk.1))) (hb) (ho);clear BK827 HB HO_6 HO837;obtain⟨BK827,HB,HO840⟩:=n_;clear ho hb hg hat))
       repeat(go_quiet (first | (go_at_call 94;(with_reducible refine(spec_l13Item.calls ((rd_T34 l0 x7_1).f0) ((rd_T34 l0 x7_1).f1) ((rd_T34 l0 x7_1).f2) _ _ ((rd_T34 l0 x7_1).f3) t832 t833 t834 t835 _ ?side1 ?side2 A9.out).mono ?_);(case side1=>exact jcs HR831_3.out);(case side2=>exact HC831_3.out);rintro e w12 ⟨v836,rfl,ho0,hb⟩;have n_:=jA4 (zds (pS HO_6.out) (zcp ho0) hb) (zbf ho0 (zav (bs1 GE827.out))) (jbb BK827.out hb) (zah (bs1 GE827.out) hb);clear HO_6 BK827 HB;obtain⟨HO_6,HO837,BK827,HB⟩:=n_;(try clear hb);(try clear hb2);(try clear hk);(try clear hi);(try clear ho0);obtain⟨Ao14,co14,eo14⟩:=zbh HO837.out;subst eo14) | ((with_reducible refine zbz (b:= .append) (xs:= #[.tmp 38, .tmp 44]) rfl ?_);at_builtin;refine zdj k34 (w0:=w) w.heap.size rfl (.tmp 38) (.tmp 44) 25 34 (.agg #[(.string ⟨#[]⟩),(.int .i64 0),(.int .i64 0),(.slice none 0 0)]) 56 rfl Try.underlying25 info34 rfl (by decide) (by omega) u6 x6_1 (⟨t832,t833,t834,t835⟩:S34) [.string t832, .int .i64 t833, .int .i64 t834, .slice Ao14 t835.length co14] (fun k_=>k_≠gb827) (fun k_=>some k_=(.slice Ao14 t835.length co14:Value).ownBlock) rfl rfl ?aP (fun k_ hk_=>((zas (ok':=fun k_=>((fun k_=>k_≠gb827)) k_∧some k_≠(u6:Value).ownBlock) (zby (zcc (HO837.out) (zcl HO_6.out) (by decide)) BK827.out (by decide)) (fun k_ hk=>⟨hk.2,hk.1.2⟩))).1 k_ hk_.symm) ?aF ?aO ?aB ?aS ?aL ?_;(case aP=>exact k34_mkM _ _ _ (⟨t832,t833,t834,t835⟩:S34) (zas (zdm rfl (zas (ok':=fun k_=>((fun k_=>k_≠gb827)) k_∧some k_≠(u6:Value).ownBlock) (zby (zcc (HO837.out) (zcl HO_6.out) (by decide)) BK827.out (by decide)) (fun k_ hk=>⟨hk.2,hk.1.2⟩))) (fun _ h_=>h_)));(case aB=>exact(bs1 GE827.out));(case aF=>exact(fun k_ hk=>zek (pB BK827.out) k_ hk));(case aO=>exact(by(with_reducible repeat(first | apply zcn | apply zco | apply zcw));exact zca HO_6.out (fun k_ hk=>⟨hk.1,fun e_=>hk.2 e_⟩)));(case aS=>exact(zav (bs1 GE827.out)));(case aL=>have:=LMc10.out;omega);intro v839 w13 ho hb hg hat;rw[← Ny838.out] at ho;have n_:=jA3 (zen (pB BK827.out) hg (Kd.S_away HO_6.out (fun _ hk=>hk.1))) (hb) (ho);clear BK827 HB HO_6 HO837;obtain⟨BK827,HB,HO840⟩:=n_;clear ho hb hg hat));try go_wp2_with (first | (go_at_call 94;(with_reducible refine(spec_l13Item.calls ((rd_T34 l0 x7_1).f0) ((rd_T34 l0 x7_1).f1) ((rd_T34 l0 x7_1).f2) _ _ ((rd_T34 l0 x7_1).f3) t832 t833 t834 t835 _ ?side1 ?side2 A9.out).mono ?_);(case side1=>exact jcs HR831_3.out);(case side2=>exact HC831_3.out);rintro e w12 ⟨v836,rfl,ho0,hb⟩;have n_:=jA4 (zds (pS HO_6.out) (zcp ho0) hb) (zbf ho0 (zav (bs1 GE827.out))) (jbb BK827.out hb) (zah (bs1 GE827.out) hb);clear HO_6 BK827 HB;obtain⟨HO_6,HO837,BK827,HB⟩:=n_;(try clear hb);(try clear hb2);(try clear hk);(try clear hi);(try clear ho0);obtain⟨Ao14,co14,eo14⟩:=zbh HO837.out;subst eo14) | ((with_reducible refine zbz (b:= .append) (xs:= #[.tmp 38, .tmp 44]) rfl ?_);at_builtin;refine zdj k34 (w0:=w) w.heap.size rfl (.tmp 38) (.tmp 44) 25 34 (.agg #[(.string ⟨#[]⟩),(.int .i64 0),(.int .i64 0),(.slice none 0 0)]) 56 rfl Try.underlying25 info34 rfl (by decide) (by omega) u6 x6_1 (⟨t832,t833,t834,t835⟩:S34) [.string t832, .int .i64 t833, .int .i64 t834, .slice Ao14 t835.length co14] (fun k_=>k_≠gb827) (fun k_=>some k_=(.slice Ao14 t835.length co14:Value).ownBlock) rfl rfl ?aP (fun k_ hk_=>((zas (ok':=fun k_=>((fun k_=>k_≠gb827)) k_∧some k_≠(u6:Value).ownBlock) (zby (zcc (HO837.out) (zcl HO_6.out) (by decide)) BK827.out (by decide)) (fun k_ hk=>⟨hk.2,hk.1.2⟩))).1 k_ hk_.symm) ?aF ?aO ?aB ?aS ?aL ?_;(case aP=>exact k34_mkM _ _ _ (⟨t832,t833,t834,t835⟩:S34) (zas (zdm rfl (zas (ok':=fun k_=>((fun k_=>k_≠gb827)) k_∧some k_≠(u6:Value).ownBlock) (zby (zcc (HO837.out) (zcl HO_6.out) (by decide)) BK827.out (by decide)) (fun k_ hk=>⟨hk.2,hk.1.2⟩))) (fun _ h_=>h_)));(case aB=>exact(bs1 GE827.out));(case aF=>exact(fun k_ hk=>zek (pB BK827.out) k_ hk));(case aO=>exact(by(with_reducible repeat(first | apply zcn | apply zco | apply zcw));exact zca HO_6.out (fun k_ hk=>⟨hk.1,fun e_=>hk.2 e_⟩)));(case aS=>exact(zav (bs1 GE827.out)));(case aL=>have:=LMc10.out;omega);intro v839 w13 ho hb hg hat;rw[← Ny838.out] at ho;have n_:=jA3 (zen (pB BK827.out) hg (Kd.S_away HO_6.out (fun _ hk=>hk.1))) (hb) (ho);clear BK827 HB HO_6 HO837;obtain⟨BK827,HB,HO840⟩:=n_;clear ho hb hg hat)))
       go_roundg k1
       case measure=>have:=HK1.out;omega
       case rel=>exact⟨(y838),(wrap64 (x7_1+1)),jer,H',⟨by have:=HK1.out;omega⟩,⟨pS HO840.out⟩,⟨pB BK827.out⟩,⟨bs1 GE827.out⟩⟩
      rw[if_neg c10] at H
      exact absurd H (by simp)
     rw[if_neg c8] at H
     exact absurd H (by simp)
    rw[if_neg c7] at H
    have c7b0:=zaw c7
    clear c7
    by_cases c15:0≤x7_1
    ·rw[if_pos c15] at H
     have c15b0:=zag c15
     clear c15
     by_cases c16:((rd_T34 l0 x7_1).f0).toList=a1_0.toList
     ·rw[if_pos c16] at H
      have c16b0:=beqT c16
      have c16b1:=zbj.mpr c16
      clear c16
      by_cases c17:((rd_T34 l0 x7_1).f1)=a1_1
      ·rw[if_pos c17] at H
       have c17b0:=beqT c17
       have c17b1:=zbj.mpr c17
       clear c17
       have H':=Aside0.mk H
       clear H
       obtain⟨hcz18_0,hcz18_1,hcz18_2,hcz18_3,hfz18_0,hfz18_1,hfz18_2,hfz18_3⟩:=cz4 BK827.out
       obtain⟨p841,q841,ad841,A841_3,c841_3,e841,hx841_0,hx841_1,hx841_2,hx841_3,HC841_3,HR841_3⟩:=jel HR0.out HB.out x7_1
       cases e841
       obtain⟨p842,q842,ad842,A842_3,c842_3,e842,hx842_0,hx842_1,hx842_2,hx842_3,HC842_3,HR842_3⟩:=jel HR0.out HB.out x7_1
       obtain rfl:ad841=ad842:=(by injection e842)
       have ea_:=Option.some.inj (hx841_3.symm.trans hx842_3)
       injection ea_ with ea_ en_ ec_
       subst ea_
       subst ec_
       clear en_
       go_wp2
       repeat(go_quiet (fail);try go_wp2)
       go_roundg k1
       case measure=>have:=HK1.out;omega
       case rel=>exact⟨(x6_1),(wrap64 (x7_1+1)),jer,H',⟨by have:=HK1.out;omega⟩,⟨pS HO_6.out⟩,⟨pB BK827.out⟩,⟨bs1 GE827.out⟩⟩
      rw[if_neg c17] at H
      have c17b0:=zbb.mpr c17
      have c17b1:=zda.mpr c17
      obtain⟨⟨t844,t845,t846,t847⟩,A19,H⟩:=bnd H
      try dsimp only at H
      by_cases c20:x6_1.length<2513169434916
      ·rw[if_pos c20] at H
       have LMc20:=Aside0.mk c20
       clear c20
       obtain⟨y850,hy850⟩:∃ y_:List (S34),y_=(x6_1++[(⟨t844,t845,t846,t847⟩:S34)]):=⟨_,rfl⟩
       replace H:(spec_Put.l0 k1 l0 y850 (wrap64 (x7_1+1)) a1_0 a1_1 a1_2 l1_3)=some (r1,r2):=jrw hy850 H
       have Ny850:=Aside0.mk hy850
       clear hy850
       have H':=Aside0.mk H
       clear H
       obtain⟨hcz21_0,hcz21_1,hcz21_2,hcz21_3,hfz21_0,hfz21_1,hfz21_2,hfz21_3⟩:=cz4 BK827.out
       obtain⟨p841,q841,ad841,A841_3,c841_3,e841,hx841_0,hx841_1,hx841_2,hx841_3,HC841_3,HR841_3⟩:=jel HR0.out HB.out x7_1
       cases e841
       obtain⟨p842,q842,ad842,A842_3,c842_3,e842,hx842_0,hx842_1,hx842_2,hx842_3,HC842_3,HR842_3⟩:=jel HR0.out HB.out x7_1
       obtain rfl:ad841=ad842:=(by injection e842)
       have ea_:=Option.some.inj (hx841_3.symm.trans hx842_3)
       injection ea_ with ea_ en_ ec_
       subst ea_
       subst ec_
       clear en_
       obtain⟨p843,q843,ad843,A843_3,c843_3,e843,hx843_0,hx843_1,hx843_2,hx843_3,HC843_3,HR843_3⟩:=jel HR0.out HB.out x7_1
       obtain rfl:ad841=ad843:=(by injection e843)
       have ea_:=Option.some.inj (hx841_3.symm.trans hx843_3)
       injection ea_ with ea_ en_ ec_
       subst ea_
       subst ec_
       clear en_
       go_wp2_with (first | (go_at_call 94;(with_reducible refine(spec_l13Item.calls ((rd_T34 l0 x7_1).f0) ((rd_T34 l0 x7_1).f1) ((rd_T34 l0 x7_1).f2) _ _ ((rd_T34 l0 x7_1).f3) t844 t845 t846 t847 _ ?side1 ?side2 A19.out).mono ?_);(case side1=>exact jcs HR843_3.out);(case side2=>exact HC843_3.out);rintro e w22 ⟨v848,rfl,ho0,hb⟩;have n_:=jA4 (zds (pS HO_6.out) (zcp ho0) hb) (zbf ho0 (zav (bs1 GE827.out))) (jbb BK827.out hb) (zah (bs1 GE827.out) hb);clear HO_6 BK827 HB;obtain⟨HO_6,HO849,BK827,HB⟩:=n_;clear hb ho0;obtain⟨Ao24,co24,eo24⟩:=zbh HO849.out;subst eo24) | ((with_reducible refine zbz (b:= .append) (xs:= #[.tmp 38, .tmp 44]) rfl ?_);at_builtin;refine zdj k34 (w0:=w) w.heap.size rfl (.tmp 38) (.tmp 44) 25 34 (.agg #[(.string ⟨#[]⟩),(.int .i64 0),(.int .i64 0),(.slice none 0 0)]) 56 rfl Try.underlying25 info34 rfl (by decide) (by omega) u6 x6_1 (⟨t844,t845,t846,t847⟩:S34) [.string t844, .int .i64 t845, .int .i64 t846, .slice Ao24 t847.length co24] (fun k_=>k_≠gb827) (fun k_=>some k_=(.slice Ao24 t847.length co24:Value).ownBlock) rfl rfl ?aP (fun k_ hk_=>((zas (ok':=fun k_=>((fun k_=>k_≠gb827)) k_∧some k_≠(u6:Value).ownBlock) (zby (zcc (HO849.out) (zcl HO_6.out) (by decide)) BK827.out (by decide)) (fun k_ hk=>⟨hk.2,hk.1.2⟩))).1 k_ hk_.symm) ?aF ?aO ?aB ?aS ?aL ?_;(case aP=>exact k34_mkM _ _ _ (⟨t844,t845,t846,t847⟩:S34) (zas (zdm rfl (zas (ok':=fun k_=>((fun k_=>k_≠gb827)) k_∧some k_≠(u6:Value).ownBlock) (zby (zcc (HO849.out) (zcl HO_6.out) (by decide)) BK827.out (by decide)) (fun k_ hk=>⟨hk.2,hk.1.2⟩))) (fun _ h_=>h_)));(case aB=>exact(bs1 GE827.out));(case aF=>exact(fun k_ hk=>zek (pB BK827.out) k_ hk));(case aO=>exact(by(with_reducible repeat(first | apply zcn | apply zco | apply zcw));exact zca HO_6.out (fun k_ hk=>⟨hk.1,fun e_=>hk.2 e_⟩)));(case aS=>exact(zav (bs1 GE827.out)));(case aL=>have:=LMc20.out;omega);intro v851 w23 ho hb hg hat;rw[← Ny850.out] at ho;have n_:=jA3 (zen (pB BK827.out) hg (Kd.S_away HO_6.out (fun _ hk=>hk.1))) (hb) (ho);clear BK827 HB HO_6 HO849;obtain⟨BK827,HB,HO852⟩:=n_;clear ho hb hg hat))
       repeat(go_quiet (first | (go_at_call 94;(with_reducible refine(spec_l13Item.calls ((rd_T34 l0 x7_1).f0) ((rd_T34 l0 x7_1).f1) ((rd_T34 l0 x7_1).f2) _ _ ((rd_T34 l0 x7_1).f3) t844 t845 t846 t847 _ ?side1 ?side2 A19.out).mono ?_);(case side1=>exact jcs HR843_3.out);(case side2=>exact HC843_3.out);rintro e w22 ⟨v848,rfl,ho0,hb⟩;have n_:=jA4 (zds (pS HO_6.out) (zcp ho0) hb) (zbf ho0 (zav (bs1 GE827.out))) (jbb BK827.out hb) (zah (bs1 GE827.out) hb);clear HO_6 BK827 HB;obtain⟨HO_6,HO849,BK827,HB⟩:=n_;(try clear hb);(try clear hb2);(try clear hk);(try clear hi);(try clear ho0);obtain⟨Ao24,co24,eo24⟩:=zbh HO849.out;subst eo24) | ((with_reducible refine zbz (b:= .append) (xs:= #[.tmp 38, .tmp 44]) rfl ?_);at_builtin;refine zdj k34 (w0:=w) w.heap.size rfl (.tmp 38) (.tmp 44) 25 34 (.agg #[(.string ⟨#[]⟩),(.int .i64 0),(.int .i64 0),(.slice none 0 0)]) 56 rfl Try.underlying25 info34 rfl (by decide) (by omega) u6 x6_1 (⟨t844,t845,t846,t847⟩:S34) [.string t844, .int .i64 t845, .int .i64 t846, .slice Ao24 t847.length co24] (fun k_=>k_≠gb827) (fun k_=>some k_=(.slice Ao24 t847.length co24:Value).ownBlock) rfl rfl ?aP (fun k_ hk_=>((zas (ok':=fun k_=>((fun k_=>k_≠gb827)) k_∧some k_≠(u6:Value).ownBlock) (zby (zcc (HO849.out) (zcl HO_6.out) (by decide)) BK827.out (by decide)) (fun k_ hk=>⟨hk.2,hk.1.2⟩))).1 k_ hk_.symm) ?aF ?aO ?aB ?aS ?aL ?_;(case aP=>exact k34_mkM _ _ _ (⟨t844,t845,t846,t847⟩:S34) (zas (zdm rfl (zas (ok':=fun k_=>((fun k_=>k_≠gb827)) k_∧some k_≠(u6:Value).ownBlock) (zby (zcc (HO849.out) (zcl HO_6.out) (by decide)) BK827.out (by decide)) (fun k_ hk=>⟨hk.2,hk.1.2⟩))) (fun _ h_=>h_)));(case aB=>exact(bs1 GE827.out));(case aF=>exact(fun k_ hk=>zek (pB BK827.out) k_ hk));(case aO=>exact(by(with_reducible repeat(first | apply zcn | apply zco | apply zcw));exact zca HO_6.out (fun k_ hk=>⟨hk.1,fun e_=>hk.2 e_⟩)));(case aS=>exact(zav (bs1 GE827.out)));(case aL=>have:=LMc20.out;omega);intro v851 w23 ho hb hg hat;rw[← Ny850.out] at ho;have n_:=jA3 (zen (pB BK827.out) hg (Kd.S_away HO_6.out (fun _ hk=>hk.1))) (hb) (ho);clear BK827 HB HO_6 HO849;obtain⟨BK827,HB,HO852⟩:=n_;clear ho hb hg hat));try go_wp2_with (first | (go_at_call 94;(with_reducible refine(spec_l13Item.calls ((rd_T34 l0 x7_1).f0) ((rd_T34 l0 x7_1).f1) ((rd_T34 l0 x7_1).f2) _ _ ((rd_T34 l0 x7_1).f3) t844 t845 t846 t847 _ ?side1 ?side2 A19.out).mono ?_);(case side1=>exact jcs HR843_3.out);(case side2=>exact HC843_3.out);rintro e w22 ⟨v848,rfl,ho0,hb⟩;have n_:=jA4 (zds (pS HO_6.out) (zcp ho0) hb) (zbf ho0 (zav (bs1 GE827.out))) (jbb BK827.out hb) (zah (bs1 GE827.out) hb);clear HO_6 BK827 HB;obtain⟨HO_6,HO849,BK827,HB⟩:=n_;(try clear hb);(try clear hb2);(try clear hk);(try clear hi);(try clear ho0);obtain⟨Ao24,co24,eo24⟩:=zbh HO849.out;subst eo24) | ((with_reducible refine zbz (b:= .append) (xs:= #[.tmp 38, .tmp 44]) rfl ?_);at_builtin;refine zdj k34 (w0:=w) w.heap.size rfl (.tmp 38) (.tmp 44) 25 34 (.agg #[(.string ⟨#[]⟩),(.int .i64 0),(.int .i64 0),(.slice none 0 0)]) 56 rfl Try.underlying25 info34 rfl (by decide) (by omega) u6 x6_1 (⟨t844,t845,t846,t847⟩:S34) [.string t844, .int .i64 t845, .int .i64 t846, .slice Ao24 t847.length co24] (fun k_=>k_≠gb827) (fun k_=>some k_=(.slice Ao24 t847.length co24:Value).ownBlock) rfl rfl ?aP (fun k_ hk_=>((zas (ok':=fun k_=>((fun k_=>k_≠gb827)) k_∧some k_≠(u6:Value).ownBlock) (zby (zcc (HO849.out) (zcl HO_6.out) (by decide)) BK827.out (by decide)) (fun k_ hk=>⟨hk.2,hk.1.2⟩))).1 k_ hk_.symm) ?aF ?aO ?aB ?aS ?aL ?_;(case aP=>exact k34_mkM _ _ _ (⟨t844,t845,t846,t847⟩:S34) (zas (zdm rfl (zas (ok':=fun k_=>((fun k_=>k_≠gb827)) k_∧some k_≠(u6:Value).ownBlock) (zby (zcc (HO849.out) (zcl HO_6.out) (by decide)) BK827.out (by decide)) (fun k_ hk=>⟨hk.2,hk.1.2⟩))) (fun _ h_=>h_)));(case aB=>exact(bs1 GE827.out));(case aF=>exact(fun k_ hk=>zek (pB BK827.out) k_ hk));(case aO=>exact(by(with_reducible repeat(first | apply zcn | apply zco | apply zcw));exact zca HO_6.out (fun k_ hk=>⟨hk.1,fun e_=>hk.2 e_⟩)));(case aS=>exact(zav (bs1 GE827.out)));(case aL=>have:=LMc20.out;omega);intro v851 w23 ho hb hg hat;rw[← Ny850.out] at ho;have n_:=jA3 (zen (pB BK827.out) hg (Kd.S_away HO_6.out (fun _ hk=>hk.1))) (hb) (ho);clear BK827 HB HO_6 HO849;obtain⟨BK827,HB,HO852⟩:=n_;clear ho hb hg hat)))
       go_roundg k1
       case measure=>have:=HK1.out;omega
       case rel=>exact⟨(y850),(wrap64 (x7_1+1)),jer,H',⟨by have:=HK1.out;omega⟩,⟨pS HO852.out⟩,⟨pB BK827.out⟩,⟨bs1 GE827.out⟩⟩
      rw[if_neg c20] at H
      exact absurd H (by simp)
     rw[if_neg c16] at H
     have c16b0:=zbb.mpr c16
     have c16b1:=zda.mpr c16
     obtain⟨⟨t854,t855,t856,t857⟩,A25,H⟩:=bnd H
     try dsimp only at H
     by_cases c26:x6_1.length<2513169434916
     ·rw[if_pos c26] at H
      have LMc26:=Aside0.mk c26
      clear c26
      obtain⟨y860,hy860⟩:∃ y_:List (S34),y_=(x6_1++[(⟨t854,t855,t856,t857⟩:S34)]):=⟨_,rfl⟩
      replace H:(spec_Put.l0 k1 l0 y860 (wrap64 (x7_1+1)) a1_0 a1_1 a1_2 l1_3)=some (r1,r2):=jrw hy860 H
      have Ny860:=Aside0.mk hy860
      clear hy860
      have H':=Aside0.mk H
      clear H
      obtain⟨hcz27_0,hcz27_1,hcz27_2,hcz27_3,hfz27_0,hfz27_1,hfz27_2,hfz27_3⟩:=cz4 BK827.out
      obtain⟨p841,q841,ad841,A841_3,c841_3,e841,hx841_0,hx841_1,hx841_2,hx841_3,HC841_3,HR841_3⟩:=jel HR0.out HB.out x7_1
      cases e841
      obtain⟨p853,q853,ad853,A853_3,c853_3,e853,hx853_0,hx853_1,hx853_2,hx853_3,HC853_3,HR853_3⟩:=jel HR0.out HB.out x7_1
      obtain rfl:ad841=ad853:=(by injection e853)
      have ea_:=Option.some.inj (hx841_3.symm.trans hx853_3)
      injection ea_ with ea_ en_ ec_
      subst ea_
      subst ec_
      clear en_
      go_wp2_with (first | (go_at_call 94;(with_reducible refine(spec_l13Item.calls ((rd_T34 l0 x7_1).f0) ((rd_T34 l0 x7_1).f1) ((rd_T34 l0 x7_1).f2) _ _ ((rd_T34 l0 x7_1).f3) t854 t855 t856 t857 _ ?side1 ?side2 A25.out).mono ?_);(case side1=>exact jcs HR853_3.out);(case side2=>exact HC853_3.out);rintro e w28 ⟨v858,rfl,ho0,hb⟩;have n_:=jA4 (zds (pS HO_6.out) (zcp ho0) hb) (zbf ho0 (zav (bs1 GE827.out))) (jbb BK827.out hb) (zah (bs1 GE827.out) hb);clear HO_6 BK827 HB;obtain⟨HO_6,HO859,BK827,HB⟩:=n_;clear hb ho0;obtain⟨Ao30,co30,eo30⟩:=zbh HO859.out;subst eo30) | ((with_reducible refine zbz (b:= .append) (xs:= #[.tmp 38, .tmp 44]) rfl ?_);at_builtin;refine zdj k34 (w0:=w) w.heap.size rfl (.tmp 38) (.tmp 44) 25 34 (.agg #[(.string ⟨#[]⟩),(.int .i64 0),(.int .i64 0),(.slice none 0 0)]) 56 rfl Try.underlying25 info34 rfl (by decide) (by omega) u6 x6_1 (⟨t854,t855,t856,t857⟩:S34) [.string t854, .int .i64 t855, .int .i64 t856, .slice Ao30 t857.length co30] (fun k_=>k_≠gb827) (fun k_=>some k_=(.slice Ao30 t857.length co30:Value).ownBlock) rfl rfl ?aP (fun k_ hk_=>((zas (ok':=fun k_=>((fun k_=>k_≠gb827)) k_∧some k_≠(u6:Value).ownBlock) (zby (zcc (HO859.out) (zcl HO_6.out) (by decide)) BK827.out (by decide)) (fun k_ hk=>⟨hk.2,hk.1.2⟩))).1 k_ hk_.symm) ?aF ?aO ?aB ?aS ?aL ?_;(case aP=>exact k34_mkM _ _ _ (⟨t854,t855,t856,t857⟩:S34) (zas (zdm rfl (zas (ok':=fun k_=>((fun k_=>k_≠gb827)) k_∧some k_≠(u6:Value).ownBlock) (zby (zcc (HO859.out) (zcl HO_6.out) (by decide)) BK827.out (by decide)) (fun k_ hk=>⟨hk.2,hk.1.2⟩))) (fun _ h_=>h_)));(case aB=>exact(bs1 GE827.out));(case aF=>exact(fun k_ hk=>zek (pB BK827.out) k_ hk));(case aO=>exact(by(with_reducible repeat(first | apply zcn | apply zco | apply zcw));exact zca HO_6.out (fun k_ hk=>⟨hk.1,fun e_=>hk.2 e_⟩)));(case aS=>exact(zav (bs1 GE827.out)));(case aL=>have:=LMc26.out;omega);intro v861 w29 ho hb hg hat;rw[← Ny860.out] at ho;have n_:=jA3 (zen (pB BK827.out) hg (Kd.S_away HO_6.out (fun _ hk=>hk.1))) (hb) (ho);clear BK827 HB HO_6 HO859;obtain⟨BK827,HB,HO862⟩:=n_;clear ho hb hg hat))
      repeat(go_quiet (first | (go_at_call 94;(with_reducible refine(spec_l13Item.calls ((rd_T34 l0 x7_1).f0) ((rd_T34 l0 x7_1).f1) ((rd_T34 l0 x7_1).f2) _ _ ((rd_T34 l0 x7_1).f3) t854 t855 t856 t857 _ ?side1 ?side2 A25.out).mono ?_);(case side1=>exact jcs HR853_3.out);(case side2=>exact HC853_3.out);rintro e w28 ⟨v858,rfl,ho0,hb⟩;have n_:=jA4 (zds (pS HO_6.out) (zcp ho0) hb) (zbf ho0 (zav (bs1 GE827.out))) (jbb BK827.out hb) (zah (bs1 GE827.out) hb);clear HO_6 BK827 HB;obtain⟨HO_6,HO859,BK827,HB⟩:=n_;(try clear hb);(try clear hb2);(try clear hk);(try clear hi);(try clear ho0);obtain⟨Ao30,co30,eo30⟩:=zbh HO859.out;subst eo30) | ((with_reducible refine zbz (b:= .append) (xs:= #[.tmp 38, .tmp 44]) rfl ?_);at_builtin;refine zdj k34 (w0:=w) w.heap.size rfl (.tmp 38) (.tmp 44) 25 34 (.agg #[(.string ⟨#[]⟩),(.int .i64 0),(.int .i64 0),(.slice none 0 0)]) 56 rfl Try.underlying25 info34 rfl (by decide) (by omega) u6 x6_1 (⟨t854,t855,t856,t857⟩:S34) [.string t854, .int .i64 t855, .int .i64 t856, .slice Ao30 t857.length co30] (fun k_=>k_≠gb827) (fun k_=>some k_=(.slice Ao30 t857.length co30:Value).ownBlock) rfl rfl ?aP (fun k_ hk_=>((zas (ok':=fun k_=>((fun k_=>k_≠gb827)) k_∧some k_≠(u6:Value).ownBlock) (zby (zcc (HO859.out) (zcl HO_6.out) (by decide)) BK827.out (by decide)) (fun k_ hk=>⟨hk.2,hk.1.2⟩))).1 k_ hk_.symm) ?aF ?aO ?aB ?aS ?aL ?_;(case aP=>exact k34_mkM _ _ _ (⟨t854,t855,t856,t857⟩:S34) (zas (zdm rfl (zas (ok':=fun k_=>((fun k_=>k_≠gb827)) k_∧some k_≠(u6:Value).ownBlock) (zby (zcc (HO859.out) (zcl HO_6.out) (by decide)) BK827.out (by decide)) (fun k_ hk=>⟨hk.2,hk.1.2⟩))) (fun _ h_=>h_)));(case aB=>exact(bs1 GE827.out));(case aF=>exact(fun k_ hk=>zek (pB BK827.out) k_ hk));(case aO=>exact(by(with_reducible repeat(first | apply zcn | apply zco | apply zcw));exact zca HO_6.out (fun k_ hk=>⟨hk.1,fun e_=>hk.2 e_⟩)));(case aS=>exact(zav (bs1 GE827.out)));(case aL=>have:=LMc26.out;omega);intro v861 w29 ho hb hg hat;rw[← Ny860.out] at ho;have n_:=jA3 (zen (pB BK827.out) hg (Kd.S_away HO_6.out (fun _ hk=>hk.1))) (hb) (ho);clear BK827 HB HO_6 HO859;obtain⟨BK827,HB,HO862⟩:=n_;clear ho hb hg hat));try go_wp2_with (first | (go_at_call 94;(with_reducible refine(spec_l13Item.calls ((rd_T34 l0 x7_1).f0) ((rd_T34 l0 x7_1).f1) ((rd_T34 l0 x7_1).f2) _ _ ((rd_T34 l0 x7_1).f3) t854 t855 t856 t857 _ ?side1 ?side2 A25.out).mono ?_);(case side1=>exact jcs HR853_3.out);(case side2=>exact HC853_3.out);rintro e w28 ⟨v858,rfl,ho0,hb⟩;have n_:=jA4 (zds (pS HO_6.out) (zcp ho0) hb) (zbf ho0 (zav (bs1 GE827.out))) (jbb BK827.out hb) (zah (bs1 GE827.out) hb);clear HO_6 BK827 HB;obtain⟨HO_6,HO859,BK827,HB⟩:=n_;(try clear hb);(try clear hb2);(try clear hk);(try clear hi);(try clear ho0);obtain⟨Ao30,co30,eo30⟩:=zbh HO859.out;subst eo30) | ((with_reducible refine zbz (b:= .append) (xs:= #[.tmp 38, .tmp 44]) rfl ?_);at_builtin;refine zdj k34 (w0:=w) w.heap.size rfl (.tmp 38) (.tmp 44) 25 34 (.agg #[(.string ⟨#[]⟩),(.int .i64 0),(.int .i64 0),(.slice none 0 0)]) 56 rfl Try.underlying25 info34 rfl (by decide) (by omega) u6 x6_1 (⟨t854,t855,t856,t857⟩:S34) [.string t854, .int .i64 t855, .int .i64 t856, .slice Ao30 t857.length co30] (fun k_=>k_≠gb827) (fun k_=>some k_=(.slice Ao30 t857.length co30:Value).ownBlock) rfl rfl ?aP (fun k_ hk_=>((zas (ok':=fun k_=>((fun k_=>k_≠gb827)) k_∧some k_≠(u6:Value).ownBlock) (zby (zcc (HO859.out) (zcl HO_6.out) (by decide)) BK827.out (by decide)) (fun k_ hk=>⟨hk.2,hk.1.2⟩))).1 k_ hk_.symm) ?aF ?aO ?aB ?aS ?aL ?_;(case aP=>exact k34_mkM _ _ _ (⟨t854,t855,t856,t857⟩:S34) (zas (zdm rfl (zas (ok':=fun k_=>((fun k_=>k_≠gb827)) k_∧some k_≠(u6:Value).ownBlock) (zby (zcc (HO859.out) (zcl HO_6.out) (by decide)) BK827.out (by decide)) (fun k_ hk=>⟨hk.2,hk.1.2⟩))) (fun _ h_=>h_)));(case aB=>exact(bs1 GE827.out));(case aF=>exact(fun k_ hk=>zek (pB BK827.out) k_ hk));(case aO=>exact(by(with_reducible repeat(first | apply zcn | apply zco | apply zcw));exact zca HO_6.out (fun k_ hk=>⟨hk.1,fun e_=>hk.2 e_⟩)));(case aS=>exact(zav (bs1 GE827.out)));(case aL=>have:=LMc26.out;omega);intro v861 w29 ho hb hg hat;rw[← Ny860.out] at ho;have n_:=jA3 (zen (pB BK827.out) hg (Kd.S_away HO_6.out (fun _ hk=>hk.1))) (hb) (ho);clear BK827 HB HO_6 HO859;obtain⟨BK827,HB,HO862⟩:=n_;clear ho hb hg hat)))
      go_roundg k1
      case measure=>have:=HK1.out;omega
      case rel=>exact⟨(y860),(wrap64 (x7_1+1)),jer,H',⟨by have:=HK1.out;omega⟩,⟨pS HO862.out⟩,⟨pB BK827.out⟩,⟨bs1 GE827.out⟩⟩
     rw[if_neg c26] at H
     exact absurd H (by simp)
    rw[if_neg c15] at H
    exact absurd H (by simp)
   rw[if_neg c6] at H
   have c6b0:=zaw c6
   clear c6
   obtain⟨⟨t863,t864,t865,t866⟩,A31,H⟩:=bnd H
   try dsimp only at H
   by_cases c32:x6_1.length<2513169434916
   ·rw[if_pos c32] at H
    have LMc32:=Aside0.mk c32
    clear c32
    obtain⟨y869,hy869⟩:∃ y_:List (S34),y_=(x6_1++[(⟨t863,t864,t865,t866⟩:S34)]):=⟨_,rfl⟩
    replace H:=bto hy869 H
    have Ny869:=Aside0.mk hy869
    clear hy869
    obtain⟨t872,A33,H⟩:=bnd H
    by_cases c34:t872=true
    ·subst c34
     rw[if_pos rfl] at H
     simp only[zax,zay] at H
     obtain⟨rfl,rfl⟩:=H
     obtain⟨hcz35_0,hcz35_1,hcz35_2,hcz35_3,hfz35_0,hfz35_1,hfz35_2,hfz35_3⟩:=cz4 BK827.out
     go_wp2_with (first | (go_at_call 94;(with_reducible refine(spec_l13Item.calls a1_0 a1_1 a1_2 _ _ l1_3 t863 t864 t865 t866 _ ?side1 ?side2 A31.out).mono ?_);(case side1=>exact jcs HR1_3.out);(case side2=>exact HC1_3.out);rintro e w36 ⟨v867,rfl,ho0,hb⟩;have n_:=jA4 (zds (pS HO_6.out) (zcp ho0) hb) (zbf ho0 (zav (bs1 GE827.out))) (jbb BK827.out hb) (zah (bs1 GE827.out) hb);clear HO_6 BK827 HB;obtain⟨HO_6,HO868,BK827,HB⟩:=n_;clear hb ho0;obtain⟨Ao38,co38,eo38⟩:=zbh HO868.out;subst eo38) | ((with_reducible refine zbz (b:= .append) (xs:= #[.tmp 46, .tmp 49]) rfl ?_);at_builtin;refine zdj k34 (w0:=w) w.heap.size rfl (.tmp 46) (.tmp 49) 25 34 (.agg #[(.string ⟨#[]⟩),(.int .i64 0),(.int .i64 0),(.slice none 0 0)]) 56 rfl Try.underlying25 info34 rfl (by decide) (by omega) u6 x6_1 (⟨t863,t864,t865,t866⟩:S34) [.string t863, .int .i64 t864, .int .i64 t865, .slice Ao38 t866.length co38] (fun k_=>k_≠gb827) (fun k_=>some k_=(.slice Ao38 t866.length co38:Value).ownBlock) rfl rfl ?aP (fun k_ hk_=>((zas (ok':=fun k_=>((fun k_=>k_≠gb827)) k_∧some k_≠(u6:Value).ownBlock) (zby (zcc (HO868.out) (zcl HO_6.out) (by decide)) BK827.out (by decide)) (fun k_ hk=>⟨hk.2,hk.1.2⟩))).1 k_ hk_.symm) ?aF ?aO ?aB ?aS ?aL ?_;(case aP=>exact k34_mkM _ _ _ (⟨t863,t864,t865,t866⟩:S34) (zas (zdm rfl (zas (ok':=fun k_=>((fun k_=>k_≠gb827)) k_∧some k_≠(u6:Value).ownBlock) (zby (zcc (HO868.out) (zcl HO_6.out) (by decide)) BK827.out (by decide)) (fun k_ hk=>⟨hk.2,hk.1.2⟩))) (fun _ h_=>h_)));(case aB=>exact(bs1 GE827.out));(case aF=>exact(fun k_ hk=>zek (pB BK827.out) k_ hk));(case aO=>exact(by(with_reducible repeat(first | apply zcn | apply zco | apply zcw));exact zca HO_6.out (fun k_ hk=>⟨hk.1,fun e_=>hk.2 e_⟩)));(case aS=>exact(zav (bs1 GE827.out)));(case aL=>have:=LMc32.out;omega);intro v870 w37 ho hb hg hat;rw[← Ny869.out] at ho;have n_:=jA3 (zen (pB BK827.out) hg (Kd.S_away HO_6.out (fun _ hk=>hk.1))) (hb) (ho);clear BK827 HB HO_6 HO868;obtain⟨BK827,HB,HO871⟩:=n_;clear ho hb hg hat;obtain⟨Ao39,co39,eo39⟩:=Kd.S_slice HO871.out;subst eo39) | (go_at_call 42;(with_reducible refine(spec_QueueOk.calls k1 _ _ y869 true _ ?side1 ?side2 A33.out).mono ?_);(case side1=>repeat(first | exact(zeg HO871.out).2.2 | (with_reducible first | apply zdo | apply zem | apply Kd.C_drew)));(case side2=>exact(zeg HO871.out).2.1);rintro e w40 ⟨rfl,hb⟩;have n_:=jA3 (zei (pS HO871.out) hb) (jbb BK827.out hb) (zah (bs1 GE827.out) hb);clear HO871 BK827 HB;obtain⟨HO871,BK827,HB⟩:=n_;(try clear hb);(try clear hb2);(try clear hk);(try clear hi)))
     go_ret2
     exact⟨_,jex,tqS HO871.out,(bs1 GE827.out)⟩
    replace c34:=zcd.mpr c34
    subst c34
    rw[if_neg (show ¬(false=true) by decide)] at H
    obtain⟨t873,A41,H⟩:=bnd H
    simp only[zax,zay] at H
    obtain⟨rfl,rfl⟩:=H
    obtain⟨hcz42_0,hcz42_1,hcz42_2,hcz42_3,hfz42_0,hfz42_1,hfz42_2,hfz42_3⟩:=cz4 BK827.out
    go_wp2_with (first | (go_at_call 94;(with_reducible refine(spec_l13Item.calls a1_0 a1_1 a1_2 _ _ l1_3 t863 t864 t865 t866 _ ?side1 ?side2 A31.out).mono ?_);(case side1=>exact jcs HR1_3.out);(case side2=>exact HC1_3.out);rintro e w43 ⟨v867,rfl,ho0,hb⟩;have n_:=jA4 (zds (pS HO_6.out) (zcp ho0) hb) (zbf ho0 (zav (bs1 GE827.out))) (jbb BK827.out hb) (zah (bs1 GE827.out) hb);clear HO_6 BK827 HB;obtain⟨HO_6,HO868,BK827,HB⟩:=n_;clear hb ho0;obtain⟨Ao45,co45,eo45⟩:=zbh HO868.out;subst eo45) | ((with_reducible refine zbz (b:= .append) (xs:= #[.tmp 46, .tmp 49]) rfl ?_);at_builtin;refine zdj k34 (w0:=w) w.heap.size rfl (.tmp 46) (.tmp 49) 25 34 (.agg #[(.string ⟨#[]⟩),(.int .i64 0),(.int .i64 0),(.slice none 0 0)]) 56 rfl Try.underlying25 info34 rfl (by decide) (by omega) u6 x6_1 (⟨t863,t864,t865,t866⟩:S34) [.string t863, .int .i64 t864, .int .i64 t865, .slice Ao45 t866.length co45] (fun k_=>k_≠gb827) (fun k_=>some k_=(.slice Ao45 t866.length co45:Value).ownBlock) rfl rfl ?aP (fun k_ hk_=>((zas (ok':=fun k_=>((fun k_=>k_≠gb827)) k_∧some k_≠(u6:Value).ownBlock) (zby (zcc (HO868.out) (zcl HO_6.out) (by decide)) BK827.out (by decide)) (fun k_ hk=>⟨hk.2,hk.1.2⟩))).1 k_ hk_.symm) ?aF ?aO ?aB ?aS ?aL ?_;(case aP=>exact k34_mkM _ _ _ (⟨t863,t864,t865,t866⟩:S34) (zas (zdm rfl (zas (ok':=fun k_=>((fun k_=>k_≠gb827)) k_∧some k_≠(u6:Value).ownBlock) (zby (zcc (HO868.out) (zcl HO_6.out) (by decide)) BK827.out (by decide)) (fun k_ hk=>⟨hk.2,hk.1.2⟩))) (fun _ h_=>h_)));(case aB=>exact(bs1 GE827.out));(case aF=>exact(fun k_ hk=>zek (pB BK827.out) k_ hk));(case aO=>exact(by(with_reducible repeat(first | apply zcn | apply zco | apply zcw));exact zca HO_6.out (fun k_ hk=>⟨hk.1,fun e_=>hk.2 e_⟩)));(case aS=>exact(zav (bs1 GE827.out)));(case aL=>have:=LMc32.out;omega);intro v870 w44 ho hb hg hat;rw[← Ny869.out] at ho;have n_:=jA3 (zen (pB BK827.out) hg (Kd.S_away HO_6.out (fun _ hk=>hk.1))) (hb) (ho);clear BK827 HB HO_6 HO868;obtain⟨BK827,HB,HO871⟩:=n_;clear ho hb hg hat;obtain⟨Ao46,co46,eo46⟩:=Kd.S_slice HO871.out;subst eo46) | (go_at_call 42;(with_reducible refine(spec_QueueOk.calls k1 _ _ y869 false _ ?side1 ?side2 A33.out).mono ?_);(case side1=>repeat(first | exact(zeg HO871.out).2.2 | (with_reducible first | apply zdo | apply zem | apply Kd.C_drew)));(case side2=>exact(zeg HO871.out).2.1);rintro e w47 ⟨rfl,hb⟩;have n_:=jA3 (zei (pS HO871.out) hb) (jbb BK827.out hb) (zah (bs1 GE827.out) hb);clear HO871 BK827 HB;obtain⟨HO871,BK827,HB⟩:=n_;(try clear hb);(try clear hb2);(try clear hk);(try clear hi)) | (go_at_call 101;(with_reducible refine(spec_l13Queue.calls k1 _ _ l0 t873 _ ?side1 ?side2 A41.out).mono ?_);(case side1=>exact jcs HR0.out);(case side2=>exact HC0.out);rintro e w48 ⟨v874,rfl,ho0,hb⟩;have n_:=jA4 (zds (pS HO871.out) (Kd.S_base ho0) hb) (zdf (Kd.S_newB (Kd.S_new' ho0 (Kd.S_lt (pS HO871.out))) (pB BK827.out)) (zav (bs1 GE827.out))) (jbb BK827.out hb) (zah (bs1 GE827.out) hb);clear HO871 BK827 HB;obtain⟨HO871,HO875,BK827,HB⟩:=n_;clear hb ho0))
    go_ret2
    exact⟨_,jex,tqS HO875.out,(bs1 GE827.out)⟩
   rw[if_neg c32] at H
   exact absurd H (by simp)
end Go.Proofs.Ytlalkldjpniakaa.P
