import Derived.Test.Ytlalkldjpniakaaqu20
namespace Go.Proofs.Ytlalkldjpniakaa.P
open Go.RowKit Go.Proofs.YtlalkldjpniakaaW.PrintWords Go.Proofs.YtlalkldjpniakaaW.PrintLast Go.Proofs.YtlalkldjpniakaaW.PrintMore
attribute [local go_sem] zbr zbs zch zci zbk zbl zbt zbu -- for this text's walks alone
set_option linter.unusedVariables false
set_option linter.unusedSimpArgs false

def spec_Take.l0:Nat→List (S34)→ByteArray→Int→Option (ByteArray×Int×Int×List Int×(List (S34))×Bool)
 | 0,_,_,_=>none
 | k+1,x0,x1,x7=>if x7<(x0.length:Int) then(if 0≤x7 then(if((rd_T34 x0 x7).f0).toList=x1.toList then(if x7≤(x0.length:Int) then((spec_l13Queue.f k (x0.take (x7:Int).toNat)).bind fun t420=>(if 0≤(wrap64 (x7+1)) then(if(wrap64 (x7+1))≤(x0.length:Int) then((spec_l13Queue.f k (x0.drop ((wrap64 (x7+1)):Int).toNat)).bind fun t427=>(if t420.length+t427.length<2513169434916 then((spec_l13Item.f ((rd_T34 x0 x7).f0) ((rd_T34 x0 x7).f1) ((rd_T34 x0 x7).f2) ((rd_T34 x0 x7).f3)).bind fun bt434=>(some (bt434.1,bt434.2.1,bt434.2.2.1,bt434.2.2.2,(t420++t427),true))) else(none))) else(none)) else(none))) else(none)) else(spec_Take.l0 k x0 x1 (wrap64 (x7+1)))) else(none)) else((spec_l13Queue.f k x0).bind fun t412=>(some ((⟨#[]⟩:ByteArray),0,0,([]:List Int),t412,false)))
def spec_Take.f (k:Nat) (l0:List (S34)) (a1:ByteArray):Option (ByteArray×Int×Int×List Int×(List (S34))×Bool):=spec_Take.l0 k l0 a1 0
theorem spec_Take.mono_l:∀ k,(∀ y0 y1 y2,LeO (spec_Take.l0 k y0 y1 y2) (spec_Take.l0 (k+1) y0 y1 y2))
 | 0=>fun _ _ _ r h=>by simp [spec_Take.l0] at h
 | k+1=>by
  have ih0:=spec_Take.mono_l k
  intro y0 y1 y2
  unfold spec_Take.l0
  have m0:=@spec_l13Queue.mono
  exact mt
theorem spec_Take.mono:∀ a0 a1 k,LeO (spec_Take.f k a0 a1) (spec_Take.f (k+1) a0 a1):=by
 intro a0 a1 k
 have ih0:=spec_Take.mono_l k
 unfold spec_Take.f
 have m0:=@spec_l13Queue.mono
 exact mt
def spec_Take.T5:Bool×List (List Nat×List Nat):=(true,[([],[]),([],[]),([0,1],[0,1]),([2],[2]),([],[]),([],[]),([5],[5]),([4,6],[4,6]),([7,3],[7]),([3,8,8],[3,8]),([9,9,0,1,2,3,4,5,6,7,8,9],[9])])
def spec_Take.B5:List Nat:=[0,0,3,7,0,0,32,112,255,511,1023]
theorem spec_Take.tab5:rtab .any (opsOf Try.f44 5)=spec_Take.T5:=by kernel_rfl
theorem spec_Take.bits5:waitsOk spec_Take.T5.2 spec_Take.B5=true:=by kernel_rfl
set_option maxHeartbeats 8000000 in
set_option maxRecDepth 100000 in
theorem spec_Take.calls (k:Nat) (A0:Option Addr) (c0:Nat) (l0:List (S34)) (a1:ByteArray) (r1:ByteArray) (r2:Int) (r3:Int) (r4:List Int) (r5:List (S34)) (r6:Bool) (w:World) (hr0:Kd.C k34 w A0 l0.length l0) (hc0:l0.length≤c0) (h:spec_Take.f k l0 a1=some (r1,r2,r3,r4,r5,r6)):
  Calls Try.prog 44 #[.slice A0 l0.length c0, .string a1] w fun e w'=>∃ v3_ v4_:Value,e= .returned (.tuple #[.agg #[.string r1, .int .i64 r2, .int .i64 r3,v3_],v4_, .bool r6])∧Kd.R (Kd.int .u8) 5 w' w.heap.size (fun k_=>(w.heap.size≤k_)) v3_ r4∧Kd.N k34 34 w' w.heap.size (fun k_=>(w.heap.size≤k_)∧some k_≠(v3_:Value).ownBlock) v4_ r5∧Below w.heap.size w w':=by
 have hu34:=Try.underlying34
 have HR0:=Aside0.mk hr0
 have HC0:=Aside0.mk hc0
 clear hr0 hc0
 have HB:=Aside0.mk (zbe w.heap.size w)
 have H:(spec_Take.l0 k l0 a1 0)=some (r1,r2,r3,r4,r5,r6):=h
 clear h
 have H':=Aside0.mk H
 clear H
 go_enter Try.func44,Try.ntmps44
 go_wp2_with (first | (refine jgd 4 ?_;refine bx 4 (#[.string (⟨#[]⟩:ByteArray), .int .i64 0, .int .i64 0, .slice none 0 0]) 34 ?_;intro gb411 hg w3 hbox hb;have xb_:=below_ofs bq hb;have n_:=jA4 (zah xb_ hb) (hbox) (ge0 hg xb_:w.heap.size≤gb411) (ge0 hg xb_:w.heap.size≤gb411);clear HB;obtain⟨HB,BK411,GW411,GE411⟩:=n_;clear xb_ hb hbox hg))
 go_loopg [7] k (fun kq v7 w'=>∃ (x7_1:Int) (x412000_1:ByteArray) (x412001_1:Int) (x412002_1:Int),v7= .int .i64 x7_1∧Aside0 (spec_Take.l0 kq l0 a1 x7_1=some (r1,r2,r3,r4,r5,r6))∧Aside0 (kq≤k)∧Aside0 (w'.heap[gb411]? =some (.cells #[.string x412000_1, .int .i64 x412001_1, .int .i64 x412002_1,(.slice none 0 0)] 34 (0,0)))∧Aside0 (Below w.heap.size w w'))
 case atStart=>exact⟨(0),((⟨#[]⟩:ByteArray)),(0),(0),jer,H',⟨zbc _⟩,⟨pB BK411.out⟩,⟨bs1 GE411.out⟩⟩
 case round=>
  clear H'
  try clear p2
  obtain⟨x7_1,x412000_1,x412001_1,x412002_1,rfl,HA,HK1,BK411,HB⟩:=hrel
  cases gk with
  | zero=>exact absurd HA.out (by simp [spec_Take.l0])
  | succ k1=>
   have H:=HA.out
   clear HA
   simp only[spec_Take.l0] at H
   by_cases c4:x7_1<(l0.length:Int)
   ·rw[if_pos c4] at H
    have c4b0:=zag c4
    clear c4
    by_cases c5:0≤x7_1
    ·rw[if_pos c5] at H
     have c5b0:=zag c5
     clear c5
     by_cases c6:((rd_T34 l0 x7_1).f0).toList=a1.toList
     ·rw[if_pos c6] at H
      have c6b0:=beqT c6
      have c6b1:=zbj.mpr c6
      clear c6
      have c7b0:=zbd (zac jab:0≤x7_1)
      by_cases c8:x7_1≤(l0.length:Int)
      ·rw[if_pos c8] at H
       have c8b0:=zbd c8
       have c8b1:=zag c8
       clear c8
       obtain⟨y416,hy416⟩:∃ y_:List (S34),y_=(l0.take (x7_1:Int).toNat):=⟨_,rfl⟩
       replace H:((spec_l13Queue.f k1 y416).bind fun t420=>(if 0≤(wrap64 (x7_1+1)) then(if(wrap64 (x7_1+1))≤(l0.length:Int) then((spec_l13Queue.f k1 (l0.drop ((wrap64 (x7_1+1)):Int).toNat)).bind fun t427=>(if t420.length+t427.length<2513169434916 then((spec_l13Item.f ((rd_T34 l0 x7_1).f0) ((rd_T34 l0 x7_1).f1) ((rd_T34 l0 x7_1).f2) ((rd_T34 l0 x7_1).f3)).bind fun bt434=>(some (bt434.1,bt434.2.1,bt434.2.2.1,bt434.2.2.2,(t420++t427),true))) else(none))) else(none)) else(none)))=some (r1,r2,r3,r4,r5,r6):=jrw hy416 H
       have Ny416:=Aside0.mk hy416
       clear hy416
       obtain⟨t420,A9,H⟩:=bnd H
       obtain⟨ji10,hji10⟩:∃ j_:Int,(wrap64 (x7_1+1))=j_:=⟨_,rfl⟩
       replace H:(if 0≤(ji10) then(if(ji10)≤(l0.length:Int) then((spec_l13Queue.f k1 (l0.drop ((ji10):Int).toNat)).bind fun t427=>(if t420.length+t427.length<2513169434916 then((spec_l13Item.f ((rd_T34 l0 x7_1).f0) ((rd_T34 l0 x7_1).f1) ((rd_T34 l0 x7_1).f2) ((rd_T34 l0 x7_1).f3)).bind fun bt434=>(some (bt434.1,bt434.2.1,bt434.2.2.1,bt434.2.2.2,(t420++t427),true))) else(none))) else(none)) else(none))=some (r1,r2,r3,r4,r5,r6):=by first | (rw[hji10] at H;exact H) | (simp only[hji10] at H ⊢;exact H)
       (try rw[hji10] at A9)
       have hji10w:(IntKind.i64.wrap (x7_1+1))=ji10:=(i64_w _).trans hji10
       by_cases c11:0≤(ji10)
       ·rw[if_pos c11] at H
        have c11b0:=zbd c11
        have c11b1:=zag c11
        clear c11
        by_cases c12:(ji10)≤(l0.length:Int)
        ·rw[if_pos c12] at H
         have c12b0:=zbd c12
         have c12b1:=zag c12
         clear c12
         obtain⟨y423,hy423⟩:∃ y_:List (S34),y_=(l0.drop ((ji10):Int).toNat):=⟨_,rfl⟩
         replace H:((spec_l13Queue.f k1 y423).bind fun t427=>(if t420.length+t427.length<2513169434916 then((spec_l13Item.f ((rd_T34 l0 x7_1).f0) ((rd_T34 l0 x7_1).f1) ((rd_T34 l0 x7_1).f2) ((rd_T34 l0 x7_1).f3)).bind fun bt434=>(some (bt434.1,bt434.2.1,bt434.2.2.1,bt434.2.2.2,(t420++t427),true))) else(none)))=some (r1,r2,r3,r4,r5,r6):=jrw hy423 H
         have Ny423:=Aside0.mk hy423
         clear hy423
         obtain⟨t427,A13,H⟩:=bnd H
         by_cases c14:t420.length+t427.length<2513169434916
         ·rw[if_pos c14] at H
          have LMc14:=Aside0.mk c14
          clear c14
          obtain⟨y430,hy430⟩:∃ y_:List (S34),y_=(t420++t427):=⟨_,rfl⟩
          replace H:((spec_l13Item.f ((rd_T34 l0 x7_1).f0) ((rd_T34 l0 x7_1).f1) ((rd_T34 l0 x7_1).f2) ((rd_T34 l0 x7_1).f3)).bind fun bt434=>(some (bt434.1,bt434.2.1,bt434.2.2.1,bt434.2.2.2,y430,true)))=some (r1,r2,r3,r4,r5,r6):=jrw hy430 H
          have Ny430:=Aside0.mk hy430
          clear hy430
          obtain⟨⟨t434,t435,t436,t437⟩,A15,H⟩:=bnd H
          try dsimp only at H
          simp only[zax,zay] at H
          obtain⟨rfl,rfl,rfl,rfl,rfl,rfl⟩:=H
          obtain⟨p415,q415,ad415,A415_3,c415_3,e415,hx415_0,hx415_1,hx415_2,hx415_3,HC415_3,HR415_3⟩:=jel HR0.out HB.out x7_1
          cases e415
          try go_wp2
          have n_:=jA2 (zar BK411.out) (zan HB.out)
          clear BK411 HB
          obtain⟨BK411,HB⟩:=n_
          have q17:(x7_1:Int)≤((l0.length:Int):Int):=zac jab
          obtain⟨i017,hi017,_,hsz17,_⟩:=info_parts info34
          have hroom17:l0.length≤c0:=HC0.out
          have hC17:Kd.C k34 _ (some ad415) l0.length l0:=HR0.out
          have hcut17:=cut_to (P:=Try.prog) 25 34 .i64 Try.underlying25 hi017 (some ad415) l0.length c0 x7_1 (zac jab) q17 hroom17
          have hr17:=Kd.C_take (m:=(x7_1:Int).toNat) hC17 (by omega)
          have hy17:y416.length=(x7_1:Int).toNat:=(by rw[Ny416.out,List.length_take];omega)
          rw[← Ny416.out] at hr17
          rw[← hy17] at hcut17
          have HR419:=Aside0.mk hr17
          have HC419:=Aside0.mk (show y416.length≤c0 from by omega)
          clear hr17 hC17 hroom17 hi017 hsz17
          have KY17:=Aside0.mk hy17
          clear hy17
          replace q17:=zbd q17
          have q18:((ji10):Int)≤((l0.length:Int):Int):=zac jab
          obtain⟨i018,hi018,_,hsz18,_⟩:=info_parts info34
          have hroom18:l0.length≤c0:=HC0.out
          have hC18:Kd.C k34 _ (some ad415) l0.length l0:=HR0.out
          have q018:(0:Int)≤((ji10):Int):=zac jab
          have hcut18:=cut_from (P:=Try.prog) 25 34 .i64 Try.underlying25 hi018 4 hsz18 (some ad415) l0.length c0 (ji10) q018 q18
          have hr18:=Kd.C_drop (m:=((ji10):Int).toNat) (c:=c0) hC18 (by omega) hroom18
          obtain⟨A18,hA18⟩:∃ A1,A1=(if c0=((ji10):Int).toNat then(some ad415) else((some ad415):Option Addr).map (·.add (((ji10):Int).toNat*4))):=⟨_,rfl⟩
          obtain⟨c18,hc18⟩:∃ c1,c1=c0 - ((ji10):Int).toNat:=⟨_,rfl⟩
          have hy18:y423.length=l0.length - ((ji10):Int).toNat:=(by rw[Ny423.out,List.length_drop] <;> omega)
          rw[show(l0).drop ((ji10):Int).toNat=y423 from Ny423.out.symm] at hr18
          replace hr18:Kd.C k34 _ A18 y423.length y423:=(by rw[hA18];exact hr18)
          rw[← hy18, ← hA18, ← hc18] at hcut18
          have HR426:=Aside0.mk hr18
          have HC426:=Aside0.mk (show y423.length≤c18 from by rw[hy18,hc18];exact Nat.sub_le_sub_right hroom18 _)
          clear hr18 hC18 hroom18 hi018 hsz18 hc18
          have KY18:=Aside0.mk hy18
          have KA18:=Aside0.mk hA18
          clear hy18 hA18
          replace q18:=zbd q18
          refine start_ (n:=11) (S:=fun w'=>True) (ds:=[]) #[false,false,false,false,false,false,false,false,false,false,false] (by kernel_rfl) rfl rfl trivial (fun hHeld=>?_);refine with_tabW spec_Take.tab5 spec_Take.bits5 (fun HT_ HW_=>?_)
          generalize wr.drew=w16 at BK411 HB HR419 HR426 hHeld ⊢
          refine pu 0 22 HT_.out ?_
          refine pu 1 23 HT_.out ?_
          refine pu 2 24 HT_.out ?_
          refine pu 4 26 HT_.out ?_
          refine pu 5 27 HT_.out ?_
          refine pu 6 28 HT_.out ?_
          refine pu 7 29 HT_.out ?_
          refine one_ (i:=3) (N:=some 25) #[true,true,true,true,true,true,true,true,false,false,false] rfl rfl (one_of HT_.out (by kernel_rfl)) (by decide) (fun K hK=>?_)
          refine goes_ Try.func101 (by kernel_rfl) rfl #[.slice (some ad415) y416.length c0] (by rfl) rfl rfl jhl ?_
          with_reducible refine(spec_l13Queue.calls k1 _ _ y416 t420 _ ?side1 ?side2 A9.out).mono ?_
          (case side1=>exact jcs HR419.out)
          (case side2=>exact HC419.out)
          rintro e w19 ⟨v421,rfl,ho0,hb⟩
          refine⟨_,rfl,?_⟩
          have n_:=jA3 (Kd.N_lower (Kd.N_mono (ok':=fun k_=>(w.heap.size≤k_)∧k_≠gb411) (Kd.S_N (zeq ho0)) (fun k_ hk_=>⟨(zcq (zav (bs1 GE411.out)) hk_.2.1),(zek (pB BK411.out) k_ hk_.2.1)⟩)) (zav (bs1 GE411.out))) (jbb BK411.out hb) (zah (bs1 GE411.out) hb)
          clear BK411 HB
          obtain⟨HO422,BK411,HB⟩:=n_
          (try clear hb)
          (try clear hb2)
          (try clear hk)
          (try clear hi)
          (try clear ho0)
          refine hK.out _ _ trivial (fun hHeld=>?_)
          clear hK K
          refine norm_ (a':=?_) ?_ ?_
          rotate_left
          ·show Act.put _ (some 25) _=_
           simp only[Act.put,zct,zdz,zea,i64_w,i32_w]
           rfl
          refine one_ (i:=8) (N:=some 30) #[true,true,true,true,true,true,true,true,true,false,false] rfl rfl (one_of HT_.out (by kernel_rfl)) (by decide) (fun K hK=>?_)
          refine goes_ Try.func101 (by kernel_rfl) rfl #[.slice A18 y423.length c18] (by rfl) rfl rfl jhl ?_
          with_reducible refine(spec_l13Queue.calls k1 _ _ y423 t427 _ ?side1 ?side2 A13.out).mono ?_
          (case side1=>exact jcs HR426.out)
          (case side2=>exact HC426.out)
          rintro e w20 ⟨v428,rfl,ho0,hb⟩
          refine⟨_,rfl,?_⟩
          have n_:=jA4 (Kd.N_elder' (pN HO422.out) (by first | exact Kd.N_base ho0 | exact Kd.S_base ho0) hb) (Kd.N_lower (Kd.N_mono (ok':=fun k_=>(w.heap.size≤k_)∧some k_≠(v421:Value).ownBlock∧k_≠gb411) (Kd.S_N (zeq ho0)) (fun k_ hk_=>⟨(zcq (zav (bs1 GE411.out)) hk_.2.1),(Kd.fresh' (Kd.N_lt (pN HO422.out)) k_ hk_.2.1),(zek (pB BK411.out) k_ hk_.2.1)⟩)) (zav (bs1 GE411.out))) (jbb BK411.out hb) (zah (bs1 GE411.out) hb)
          clear HO422 BK411 HB
          obtain⟨HO422,HO429,BK411,HB⟩:=n_
          (try clear hb)
          (try clear hb2)
          (try clear hk)
          (try clear hi)
          (try clear ho0)
          obtain⟨Ao22,co22,eo22⟩:=Kd.N_slice HO429.out
          (first | subst eo22 | (injection eo22 with f1_ f2_ f3_;have f4_:=f1_.symm;have f5_:=f3_.symm;clear f1_ f2_ f3_;subst f4_;subst f5_))
          refine hK.out _ _ trivial (fun hHeld=>?_)
          clear hK K
          refine norm_ (a':=?_) ?_ ?_
          rotate_left
          ·show Act.put _ (some 30) _=_
           simp only[Act.put,zct,zdz,zea,i64_w,i32_w]
           rfl
          refine one_ (i:=9) (N:=some 31) #[true,true,true,true,true,true,true,true,true,true,false] rfl rfl (one_of HT_.out (by kernel_rfl)) (by decide) (fun K hK=>?_)
          refine Kd.N_append_rows_step k34 (w0:=w) w.heap.size (by rfl) (.tmp 25) (.tmp 30) 25 34 (.agg #[(.string ⟨#[]⟩),(.int .i64 0),(.int .i64 0),(.slice none 0 0)]) 56 rfl Try.underlying25 info34 rfl (by decide) (by omega) v421 t420 t427 _ _ _ (fun k_=>(w.heap.size≤k_)∧k_≠gb411) (fun k_=>((fun k_=>(w.heap.size≤k_)∧k_≠gb411)) k_∧some k_≠(v421:Value).ownBlock) rfl rfl ?aO ?aR (fun _ hk=>hk) ?aF ?aB ?aS ?aL ?_
          (case aR=>exact(by skip;exact Kd.N_F (Kd.N_mono (ok':=(fun k_=>((fun k_=>(w.heap.size≤k_)∧k_≠gb411)) k_∧some k_≠(v421:Value).ownBlock)) (HO429.out) (fun k_ hk=>⟨⟨hk.1,hk.2.2⟩,hk.2.1⟩))))
          (case aB=>exact(bs1 GE411.out))
          (case aF=>exact(fun k_ hk=>⟨(zcq (zav (bs1 GE411.out)) hk),zek (pB BK411.out) k_ hk⟩))
          (case aO=>exact(by(with_reducible repeat(first | apply Kd.N_alloc | apply Kd.N_drewN | apply Kd.N_drew));exact Kd.N_mono HO422.out (fun _ hk=>⟨hk.1.1,hk.1.2⟩)))
          (case aS=>exact(zav (bs1 GE411.out)))
          (case aL=>have:=LMc14.out;omega)
          intro v431 w21 ho hb hg hat
          rw[← Ny430.out] at ho
          have n_:=jA4 (zen (pB BK411.out) hg (Kd.N_away HO422.out (fun _ hk=>hk.1.2))) (Kd.N_afterv (ok:=(fun k_=>(w.heap.size≤k_)∧k_≠gb411)) (by(with_reducible repeat(first | apply Kd.N_alloc | apply Kd.N_drewN | apply Kd.N_drew));exact Kd.N_mono HO429.out (fun _ hk=>⟨⟨hk.1,hk.2.2⟩,hk.2.1⟩)) hg hat) (hb) (ho)
          clear BK411 HO429 HB HO422
          obtain⟨BK411,HO429,HB,HO432⟩:=n_
          clear ho hb hg hat
          refine hK.out _ _ trivial (fun hHeld=>?_)
          clear hK K
          refine norm_ (a':=?_) ?_ ?_
          rotate_left
          ·show Act.put _ (some 31) _=_
           simp only[Act.put,zct,zdz,zea,i64_w,i32_w]
           rfl
          refine pu 10 8 HT_.out ?_
          refine done_ (done_of HT_.out (by kernel_rfl)) ?_
          obtain⟨p433,q433,ad433,A433_3,c433_3,e433,hx433_0,hx433_1,hx433_2,hx433_3,HC433_3,HR433_3⟩:=jel HR0.out HB.out x7_1
          obtain rfl:ad415=ad433:=(by injection e433)
          try go_wp2_with (first | (refine jgc 94 ?_;refine jgs 36 Try.func94 #[.agg #[.string ((rd_T34 l0 x7_1).f0), .int .i64 ((rd_T34 l0 x7_1).f1), .int .i64 ((rd_T34 l0 x7_1).f2), .slice A433_3 ((rd_T34 l0 x7_1).f3).length c433_3]] ?_;(with_reducible refine(spec_l13Item.calls ((rd_T34 l0 x7_1).f0) ((rd_T34 l0 x7_1).f1) ((rd_T34 l0 x7_1).f2) _ _ ((rd_T34 l0 x7_1).f3) t434 t435 t436 t437 _ ?side1 ?side2 A15.out).mono ?_);(case side1=>exact jcs HR433_3.out);(case side2=>exact HC433_3.out);rintro e w23 ⟨v438,rfl,ho0,hb⟩;refine⟨_,rfl,?_⟩;have n_:=jA5 (Kd.N_elder' (pN HO429.out) (zcp ho0) hb) (Kd.N_elder' (pN HO432.out) (zcp ho0) hb) (zbf (Kd.R_newM (M:=fun k_=>(w.heap.size≤k_)) ho0 (zav (bs1 GE411.out)) (fun k_ h_=>h_)) (zav (bs1 GE411.out))) (jbb BK411.out hb) (zah (bs1 GE411.out) hb);clear HO429 HO432 BK411 HB;obtain⟨HO429,HO432,HO439,BK411,HB⟩:=n_;(try clear hb);(try clear hb2);(try clear hk);(try clear hi);(try clear ho0);obtain⟨hcz24_0,hcz24_1,hcz24_2,hcz24_3,hfz24_0,hfz24_1,hfz24_2,hfz24_3⟩:=cz4 BK411.out;obtain⟨Ao25,co25,eo25⟩:=zbh HO439.out;subst eo25))
          refine zec (results_ctt rfl _ _ gb411 34 #[.string t434, .int .i64 t435, .int .i64 t436, .slice Ao25 t437.length co25] (0,0) _ rfl (by(with_reducible repeat(first | refine zal ?_ _ | refine zar ?_ | refine zam ?_ _));refine zbw (cs:= #[.string t434, .int .i64 t435, .int .i64 t436, .slice none 0 0]) ?_ 3 _ rfl;(with_reducible repeat(first | refine zal ?_ _ | refine zar ?_ | refine zam ?_ _));refine zbw (cs:= #[.string t434, .int .i64 t435, .int .i64 x412002_1, .slice none 0 0]) ?_ 2 _ rfl;(with_reducible repeat(first | refine zal ?_ _ | refine zar ?_ | refine zam ?_ _));refine zbw (cs:= #[.string t434, .int .i64 x412001_1, .int .i64 x412002_1, .slice none 0 0]) ?_ 1 _ rfl;(with_reducible repeat(first | refine zal ?_ _ | refine zar ?_ | refine zam ?_ _));refine zbw (cs:= #[.string x412000_1, .int .i64 x412001_1, .int .i64 x412002_1, .slice none 0 0]) ?_ 0 _ rfl;(with_reducible repeat(first | refine zal ?_ _ | refine zar ?_ | refine zam ?_ _));exact BK411.out) Try.underlying34 rfl (by kernel_rfl)) rfl ?_
          exact⟨_,_,by first | rfl | (simp [errW_none,errW_some] <;> rfl) | (simp only[← hji10];first | rfl | (simp [errW_none,errW_some] <;> rfl)) | (simp [*,errW_none,errW_some] <;> rfl),by(with_reducible repeat(first | apply zdb | apply zdc | apply zdl));exact zas (zck (p:=⟨gb411,3,none⟩) (rf3 HO439.out BK411.out) (fun _ hk=>hk.2) (.slice Ao25 t437.length co25)) (fun _ hk=>hk.1.1),by(with_reducible repeat(first | apply Kd.N_alloc | apply Kd.N_drewN | apply Kd.N_drew));exact Kd.N_mono (Kd.N_far (p:=⟨gb411,3,none⟩) (Kd.N_far (p:=⟨gb411,2,none⟩) (Kd.N_far (p:=⟨gb411,1,none⟩) (Kd.N_far (p:=⟨gb411,0,none⟩) (Kd.N_mono HO432.out (fun k_ hk=>(⟨hk,hk.1.2⟩:_∧k_≠gb411))) (fun _ hk=>hk.2) (.string t434)) (fun _ hk=>hk.2) (.int .i64 t435)) (fun _ hk=>hk.2) (.int .i64 t436)) (fun _ hk=>hk.2) (.slice Ao25 t437.length co25)) (fun _ hk=>⟨hk.1.1.1,hk.1.2⟩),(bs1 GE411.out)⟩
         rw[if_neg c14] at H
         exact absurd H (by simp)
        rw[if_neg c12] at H
        exact absurd H (by simp)
       rw[if_neg c11] at H
       exact absurd H (by simp)
      rw[if_neg c8] at H
      exact absurd H (by simp)
     rw[if_neg c6] at H
     have c6b0:=zbb.mpr c6
     have c6b1:=zda.mpr c6
     have H':=Aside0.mk H
     clear H
     obtain⟨p415,q415,ad415,A415_3,c415_3,e415,hx415_0,hx415_1,hx415_2,hx415_3,HC415_3,HR415_3⟩:=jel HR0.out HB.out x7_1
     cases e415
     go_wp2
     go_roundg k1
     case measure=>have:=HK1.out;omega
     case rel=>exact⟨(wrap64 (x7_1+1)),(x412000_1),(x412001_1),(x412002_1),jer,H',⟨by have:=HK1.out;omega⟩,⟨pB BK411.out⟩,⟨bs1 GE411.out⟩⟩
    rw[if_neg c5] at H
    exact absurd H (by simp)
   rw[if_neg c4] at H
   have c4b0:=zaw c4
   clear c4
   obtain⟨t412,A26,H⟩:=bnd H
   simp only[zax,zay] at H
   obtain⟨rfl,rfl,rfl,rfl,rfl,rfl⟩:=H
   go_wp2_with (first | (refine jgc 101 ?_;refine jgs 40 Try.func101 #[.slice A0 l0.length c0] ?_;(with_reducible refine(spec_l13Queue.calls k1 _ _ l0 t412 _ ?side1 ?side2 A26.out).mono ?_);(case side1=>exact jcs HR0.out);(case side2=>exact HC0.out);rintro e w27 ⟨v413,rfl,ho0,hb⟩;refine⟨_,rfl,?_⟩;have n_:=jA3 (Kd.N_lower (Kd.N_mono (ok':=fun k_=>(w.heap.size≤k_)∧k_≠gb411) (Kd.S_N (zeq ho0)) (fun k_ hk_=>⟨(zcq (zav (bs1 GE411.out)) hk_.2.1),(zek (pB BK411.out) k_ hk_.2.1)⟩)) (zav (bs1 GE411.out))) (jbb BK411.out hb) (zah (bs1 GE411.out) hb);clear BK411 HB;obtain⟨HO414,BK411,HB⟩:=n_;clear hb ho0;obtain⟨hcz28_0,hcz28_1,hcz28_2,hcz28_3,hfz28_0,hfz28_1,hfz28_2,hfz28_3⟩:=cz4 BK411.out))
   refine zec (results_ctt rfl _ _ gb411 34 #[.string (⟨#[]⟩:ByteArray), .int .i64 0, .int .i64 0, .slice none 0 0] (0,0) _ rfl (by(with_reducible repeat(first | refine zal ?_ _ | refine zar ?_ | refine zam ?_ _));refine zbw (cs:= #[.string (⟨#[]⟩:ByteArray), .int .i64 0, .int .i64 0, .slice none 0 0]) ?_ 3 _ rfl;(with_reducible repeat(first | refine zal ?_ _ | refine zar ?_ | refine zam ?_ _));refine zbw (cs:= #[.string (⟨#[]⟩:ByteArray), .int .i64 0, .int .i64 x412002_1, .slice none 0 0]) ?_ 2 _ rfl;(with_reducible repeat(first | refine zal ?_ _ | refine zar ?_ | refine zam ?_ _));refine zbw (cs:= #[.string (⟨#[]⟩:ByteArray), .int .i64 x412001_1, .int .i64 x412002_1, .slice none 0 0]) ?_ 1 _ rfl;(with_reducible repeat(first | refine zal ?_ _ | refine zar ?_ | refine zam ?_ _));refine zbw (cs:= #[.string x412000_1, .int .i64 x412001_1, .int .i64 x412002_1, .slice none 0 0]) ?_ 0 _ rfl;(with_reducible repeat(first | refine zal ?_ _ | refine zar ?_ | refine zam ?_ _));exact BK411.out) Try.underlying34 rfl (by kernel_rfl)) rfl ?_
   exact⟨_,_,jex,by first | exact Kd.R_nil _ _ _ _ _ | exact Kd.N_nil _ _ _ _ _ | exact Kd.V_nil _ _ _ _ _ | exact Kd.Q_nil _ _ _ _ _ | exact Kd.S_nil _ _ _ _ _,by(with_reducible repeat(first | apply Kd.N_alloc | apply Kd.N_drewN | apply Kd.N_drew));exact Kd.N_mono (Kd.N_far (p:=⟨gb411,3,none⟩) (Kd.N_far (p:=⟨gb411,2,none⟩) (Kd.N_far (p:=⟨gb411,1,none⟩) (Kd.N_far (p:=⟨gb411,0,none⟩) (Kd.N_mono HO414.out (fun k_ hk=>(⟨hk,hk.2⟩:_∧k_≠gb411))) (fun _ hk=>hk.2) (.string (⟨#[]⟩:ByteArray))) (fun _ hk=>hk.2) (.int .i64 0)) (fun _ hk=>hk.2) (.int .i64 0)) (fun _ hk=>hk.2) (.slice none 0 0)) (fun _ hk=>⟨hk.1.1,(by simp [Value.ownBlock])⟩),(bs1 GE411.out)⟩
end Go.Proofs.Ytlalkldjpniakaa.P
