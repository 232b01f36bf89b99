import Derived.Test.Ytlalkldjpniakaaqu35
namespace Go.Proofs.Ytlalkldjpniakaa.P
open Go.RowKit Go.Proofs.YtlalkldjpniakaaW.PrintWords Go.Proofs.YtlalkldjpniakaaW.PrintLast Go.Proofs.YtlalkldjpniakaaW.PrintMore
attribute [local go_sem] zbr zbs zch zci zbk zbl zbt zbu -- for this text's walks alone
set_option linter.unusedVariables false
set_option linter.unusedSimpArgs false
set_option maxHeartbeats 8000000
set_option maxRecDepth 100000

def laws_toItemS.l0:Nat→List (S31)→List (S34)→Int→Option ((List (S34)))
 | 0,_,_,_=>none
 | k+1,x0,x3,x4=>if x4<(x0.length:Int) then(if 0≤x4 then((laws_toItem.f k ((rd_T31 x0 x4).f0) ((rd_T31 x0 x4).f1) ((rd_T31 x0 x4).f2) ((rd_T31 x0 x4).f3)).bind fun bt122=>(if x4<(x3.length:Int) then(laws_toItemS.l0 k x0 (x3.set (x4:Int).toNat (⟨bt122.1,bt122.2.1,bt122.2.2.1,bt122.2.2.2⟩:S34)) (wrap64 (x4+1))) else(none))) else(none)) else(some x3)
def laws_toItemS.f (k:Nat) (l0:List (S31)):Option ((List (S34))):=if 0≤(l0.length:Int) then(if((l0.length:Int):Int).toNat≤5026338869833 then(laws_toItemS.l0 k l0 (List.replicate ((l0.length:Int):Int).toNat z34) 0) else(none)) else(none)
theorem laws_toItemS.mono_l:∀ k,(∀ y0 y1 y2,LeO (laws_toItemS.l0 k y0 y1 y2) (laws_toItemS.l0 (k+1) y0 y1 y2))
 | 0=>fun _ _ _ r h=>by simp [laws_toItemS.l0] at h
 | k+1=>by
  have ih0:=laws_toItemS.mono_l k
  intro y0 y1 y2
  unfold laws_toItemS.l0
  have m0:=@laws_toItem.mono
  exact mt
theorem laws_toItemS.mono:∀ a0 k,LeO (laws_toItemS.f k a0) (laws_toItemS.f (k+1) a0):=by
 intro a0 k
 have ih0:=laws_toItemS.mono_l k
 unfold laws_toItemS.f
 have m0:=@laws_toItem.mono
 exact mt
theorem laws_toItemS.calls (k:Nat) (A0:Option Addr) (c0:Nat) (l0:List (S31)) (r:List (S34)) (w:World) (hr0:Kd.C k31 w A0 l0.length l0) (hc0:l0.length≤c0) (h:laws_toItemS.f k l0=some r):
  Calls Try.prog 20 #[.slice A0 l0.length c0] w fun e w'=>∃ v0_:Value,e= .returned (v0_)∧Kd.S k34 34 w' w.heap.size (fun _=>True) v0_ r∧Below w.heap.size w w':=by
 have hu31:=Try.underlying31
 have hu34:=Try.underlying34
 have HR0:=Aside0.mk hr0
 have HC0:=Aside0.mk hc0
 clear hr0 hc0
 have HB:=Aside0.mk (zbe w.heap.size w)
 have H:(if 0≤(l0.length:Int) then(if((l0.length:Int):Int).toNat≤5026338869833 then(laws_toItemS.l0 k l0 (List.replicate ((l0.length:Int):Int).toNat z34) 0) else(none)) else(none))=some r:=h
 clear h
 by_cases c2:0≤(l0.length:Int)
 ·rw[if_pos c2] at H
  have c2b0:=zbd c2
  have c2b1:=zag c2
  clear c2
  by_cases c3:((l0.length:Int):Int).toNat≤5026338869833
  ·rw[if_pos c3] at H
   have c3b0:=zbd c3
   have c3b1:=zag c3
   clear c3
   obtain⟨y118,hy118⟩:∃ y_:List (S34),y_=(List.replicate ((l0.length:Int):Int).toNat z34):=⟨_,rfl⟩
   replace H:(laws_toItemS.l0 k l0 y118 0)=some r:=jrw hy118 H
   have Ny118:=Aside0.mk hy118
   clear hy118
   have H':=Aside0.mk H
   clear H
   go_enter Try.func20,Try.ntmps20
   go_wp2_with (first | (refine jgd 7 ?_;refine Kd.S_make k34 _ 34 rfl (N:=7) rfl 25 _ _ rfl (l0.length:Int) rfl rfl Try.underlying25 (.agg #[(.string ⟨#[]⟩),(.int .i64 0),(.int .i64 0),(.slice none 0 0)]) 56 info34 rfl (by decide) (by omega) z34 (ok:=fun _=>True) (okp:=fun _=>True) (k34_mkM _ _ _ z34 (Kd.R_nil _ _ _ _ _)) (fun _ hk=>hk) trivial (zac jab) (zcq (Nat.mul_le_mul_right _ (zac jab:(l0.length:Int).toNat≤5026338869833)) (by omega)) (zbe _ _) (zbc _) ?_;intro v119 w4 ho5 hb hg_ hnew_;have xb_:=below_ofs bq hb;clear hg_ hnew_;(first | rw[← Ny118.out] at ho5 | (simp only[Int.reduceToNat] at ho5;rw[← Ny118.out] at ho5));have n_:=jA2 (zdf ho5 (zav xb_)) (zah xb_ hb);clear HB;obtain⟨HO120,HB⟩:=n_;clear xb_ hb ho5))
   go_loopg [4] k (fun kq v4 w'=>∃ (x3_1:List (S34)) (x4_1:Int),v4= .int .i64 x4_1∧Aside0 (laws_toItemS.l0 kq l0 x3_1 x4_1=some r)∧Aside0 (kq≤k)∧Aside0 (Kd.S k34 34 w' w.heap.size (fun _=>True) v119 x3_1)∧Aside0 (Below w.heap.size w w'))
   case atStart=>exact⟨(y118),(0),jer,H',⟨zbc _⟩,⟨pS HO120.out⟩,⟨bq⟩⟩
   case round=>
    clear H'
    try clear c2
    try clear c2b0
    try clear c2b1
    try clear p2
    try clear c3
    try clear c3b0
    try clear c3b1
    obtain⟨x3_1,x4_1,rfl,HA,HK1,HO_3,HB⟩:=hrel
    cases gk with
    | zero=>exact absurd HA.out (by simp [laws_toItemS.l0])
    | succ k1=>
     have H:=HA.out
     clear HA
     simp only[laws_toItemS.l0] at H
     by_cases c6:x4_1<(l0.length:Int)
     ·rw[if_pos c6] at H
      have c6b0:=zag c6
      clear c6
      by_cases c7:0≤x4_1
      ·rw[if_pos c7] at H
       have c7b0:=zag c7
       clear c7
       obtain⟨⟨t122,t123,t124,t125⟩,A8,H⟩:=bnd H
       try dsimp only at H
       by_cases c9:x4_1<(x3_1.length:Int)
       ·rw[if_pos c9] at H
        have c9b0:=zag c9
        clear c9
        obtain⟨y128,hy128⟩:∃ y_:List (S34),y_=(x3_1.set (x4_1:Int).toNat (⟨t122,t123,t124,t125⟩:S34)):=⟨_,rfl⟩
        replace H:(laws_toItemS.l0 k1 l0 y128 (wrap64 (x4_1+1)))=some r:=jrw hy128 H
        have Ny128:=Aside0.mk hy128
        clear hy128
        have H':=Aside0.mk H
        clear H
        have p121:0≤(x4_1:Int):=zac jab
        have q121:x4_1<(l0.length:Int):=zac jab
        obtain⟨ad121,A121_3,c121_3,e121,hx121_0,hx121_1,hx121_2,hx121_3,hl121_3,hi121_3⟩:=at_T31 HR0.out x4_1 p121 q121
        cases e121
        replace hx121_0:=jcB HB.out hx121_0
        replace hx121_1:=jcB HB.out hx121_1
        replace hx121_2:=jcB HB.out hx121_2
        replace hx121_3:=jcB HB.out hx121_3
        have HR121_3:=Aside0.mk hi121_3
        have HC121_3:=Aside0.mk hl121_3
        clear hi121_3 hl121_3
        replace p121:=zbd p121
        replace q121:=zbd q121
        have p10:0≤(x4_1:Int):=zac jab
        have q10:(x4_1:Int)<((x3_1.length:Int):Int):=zac jab
        obtain⟨gq,cq,eq,gbq,glq,clq,HGq⟩:=Kd.S_form HO_3.out (by omega)
        (first | cases eq | (injection eq with ea_ en_ ec_;(first | subst ea_ | (injection ea_ with ea_;subst ea_));subst ec_;clear en_))
        obtain⟨okq,ceq,hclq,hMq,hccq,hfrq,hokq,hHq⟩:=Kd.S_elem HO_3.out z34 (x4_1:Int) p10 q10
        have HH:=Aside0.mk (Kd.H_widen hHq)
        have HP:=Aside0.mk p10
        have HQ:=Aside0.mk q10
        have HCL:=Aside0.mk hclq
        have HBS:=Aside0.mk (zav HB.out)
        clear hclq hMq hccq hfrq hokq hHq gbq glq HGq
        replace p10:=zbd p10
        replace q10:=zbd q10
        go_wp2_with (first | (refine jgc 25 ?_;refine jgs 20 Try.func25 #[.agg #[.string ((rd_T31 l0 x4_1).f0), .int .i64 ((rd_T31 l0 x4_1).f1), .int .i64 ((rd_T31 l0 x4_1).f2), .slice A121_3 ((rd_T31 l0 x4_1).f3).length c121_3]] ?_;(with_reducible refine(laws_toItem.calls k1 ((rd_T31 l0 x4_1).f0) ((rd_T31 l0 x4_1).f1) ((rd_T31 l0 x4_1).f2) _ _ ((rd_T31 l0 x4_1).f3) t122 t123 t124 t125 _ ?side1 ?side2 A8.out).mono ?_);(case side1=>exact jcs HR121_3.out);(case side2=>exact HC121_3.out);rintro e w11 ⟨v126,rfl,ho0,hb⟩;refine⟨_,rfl,?_⟩;have n0_:=Aside0.mk (Kd.H_below (by(with_reducible repeat(first | apply Kd.H_alloc | apply Kd.H_drewN | apply Kd.H_drew));exact HH.out) hb);have n1_:=Aside0.mk ho0;have n2_:=Aside0.mk (zah bq hb);clear HH HB;have HH:=n0_;have HV:=n1_;have HB:=n2_;clear n0_ n1_ n2_;clear hb ho0) | ((with_reducible refine gate_store (t:=34) (p:=21) rfl ?_);refine Kd.H_store (g:=gq) (n:=x3_1.length) (cap:=cq) (o':=x4_1.toNat*4) (w0:=w) k34 w.heap.size ?a1 ?a2 34 (.tmp 21) (.tmp 20) ?a3 34 (x4_1:Int) 0 x3_1 (⟨t122,t123,t124,t125⟩:S34) (.agg #[.string t122, .int .i64 t123, .int .i64 t124,v126]) [.string t122, .int .i64 t123, .int .i64 t124,v126] ceq (fun _=>True) (fun k_=>okq k_∨True∧wr.heap.size≤k_) (fun k_=>wr.heap.size≤k_) ?a4 ?off ?a5 ?a6 ?ti ?one ?HO ?h0 ?h1 ?le ?hM ?hok ?HB ?_;(case HO=>exact HH.out);(case a1=>rfl);(case a2=>rfl);(case a3=>rfl);(case a4=>rfl);(case a5=>rfl);(case a6=>rfl);(case h0=>exact HP.out);(case h1=>exact HQ.out);(case HB=>exact HB.out);(case off=>rfl);(case ti=>kernel_rfl);(case one=>intro q_ hq_;simp only[zdr,zcz,or_false] at hq_;rcases hq_ with rfl | rfl | rfl | rfl;rfl;rfl;rfl;(obtain⟨Az_,cz_,ez_⟩:=zbh HV.out;rw[ez_];rfl));(case le=>exact zbc _);(case hM=>rw[List.take_zero,List.nil_append,List.drop_eq_nil_of_le (by rw[HCL.out];exact zbc 4),List.append_nil];exact k34_mkM _ _ _ (⟨t122,t123,t124,t125⟩:S34) (zbf (zas (Kd.R_newM (M:=fun k_=>wr.heap.size≤k_) HV.out (zbc _) (fun k_ h_=>h_)) (fun _ hk=>by first | exact hk | exact hk.1 | exact hk.2)) HBS.out));(case hok=>exact fun k_ hk_=> .inr ⟨trivial,hk_⟩);intro w1_ hs_ hb_ hg_;rw[← Ny128.out] at hs_;have n0_:=Aside0.mk hs_;have n1_:=Aside0.mk hb_;clear HH HB;have HO_q:=n0_;have HB:=n1_;clear n0_ n1_ hs_ hb_ hg_))
        go_roundg k1
        case measure=>have:=HK1.out;omega
        case rel=>exact⟨(y128),(wrap64 (x4_1+1)),jer,H',⟨by have:=HK1.out;omega⟩,⟨pS HO_q.out⟩,⟨bq⟩⟩
       rw[if_neg c9] at H
       exact absurd H (by simp)
      rw[if_neg c7] at H
      exact absurd H (by simp)
     rw[if_neg c6] at H
     have c6b0:=zaw c6
     clear c6
     obtain rfl:=Option.some.inj H
     go_wp2
     go_ret
     exact⟨_,jex,by(with_reducible repeat(first | apply zcn | apply zco | apply zcw));exact HO_3.out,bq⟩
  rw[if_neg c3] at H
  exact absurd H (by simp)
 rw[if_neg c2] at H
 exact absurd H (by simp)
def laws_eqItem.f (k:Nat) (a0_0:ByteArray) (a0_1:Int) (a0_2:Int) (l0_3:List Int) (a1_0:ByteArray) (a1_1:Int) (a1_2:Int) (l1_3:List Int):Option (Bool):=if a0_0.toList=a1_0.toList then(if a0_1=a1_1 then(if a0_2=a1_2 then((laws_eqByteS.f k l0_3 l1_3).bind fun t135=>(if t135=true then(some true) else(some false))) else(some false)) else(some false)) else(some false)
theorem laws_eqItem.mono:∀ a0 a1 a2 a3 a4 a5 a6 a7 k,LeO (laws_eqItem.f k a0 a1 a2 a3 a4 a5 a6 a7) (laws_eqItem.f (k+1) a0 a1 a2 a3 a4 a5 a6 a7):=by
 intro a0 a1 a2 a3 a4 a5 a6 a7 k
 unfold laws_eqItem.f
 have m0:=@laws_eqByteS.mono
 exact mt
theorem laws_eqItem.wk {P:Prop} (h:P:=by
 go_enter Try.func27,Try.ntmps27
 go_wp2_with (first | (refine jgd 2 ?_;refine bx 2 (#[.string a0_0, .int .i64 a0_1, .int .i64 a0_2, .slice A0_3 l0_3.length c0_3]) 34 ?_;intro gb133 hg w_ hbox hb;have xb_:=below_ofs bq hb;have n_:=jA4 (zah xb_ hb) (hbox) (ge0 hg xb_:w.heap.size≤gb133) (ge0 hg xb_:w.heap.size≤gb133);clear HB;obtain⟨HB,BK133,GW133,GE133⟩:=n_;clear xb_ hb hbox hg) | (refine jgd 3 ?_;refine bx 3 (#[.string a1_0, .int .i64 a1_1, .int .i64 a1_2, .slice A1_3 l1_3.length c1_3]) 34 ?_;intro gb134 hg w_ hbox hb;have n_:=jA7 (jbb BK133.out hb) (zah (bs1 GE133.out) hb) (hbox) (ge0 hg (bs1 GE133.out):w.heap.size≤gb134) (ge0 hg (bs1 GE133.out):w.heap.size≤gb134) (nl hg (pB BK133.out):gb133≠gb134) (ng hg (pB BK133.out):gb134≠gb133);clear BK133 HB;obtain⟨BK133,HB,BK134,GW134,GE134,NB133_134,NB134_133⟩:=n_;clear hb hbox hg;have hnb_:=NB133_134.out;have hnc_:=NB134_133.out;obtain⟨c0,c1,c2,c3,z0,z1,z2,z3⟩:=cz4 BK133.out;obtain⟨c0,c1,c2,c3,z0,z1,z2,z3⟩:=cz4 BK134.out) | (refine jgc 50 ?_;refine jgs 24 Try.func50 #[.slice A0_3 l0_3.length c0_3, .slice A1_3 l1_3.length c1_3] ?_;(with_reducible refine(laws_eqByteS.calls k _ _ l0_3 _ _ l1_3 _ _ ?side1 ?side2 ?side3 ?side4 A6.out).mono ?_);(case side1=>exact jcs HR0_3.out);(case side2=>exact HC0_3.out);(case side3=>exact jcs HR1_3.out);(case side4=>exact HC1_3.out);rintro e w' ⟨rfl,⟨nd,rfl⟩⟩;refine⟨_,rfl,?_⟩))
 go_ret
 exact⟨jex,(bs2 GE133.out GE134.out)⟩):P:=h
theorem laws_eqItem.calls (k:Nat) (a0_0:ByteArray) (a0_1:Int) (a0_2:Int) (A0_3:Option Addr) (c0_3:Nat) (l0_3:List Int) (a1_0:ByteArray) (a1_1:Int) (a1_2:Int) (A1_3:Option Addr) (c1_3:Nat) (l1_3:List Int) (r:Bool) (w:World) (hr0_3:Kd.C (Kd.int .u8) w A0_3 l0_3.length l0_3) (hc0_3:l0_3.length≤c0_3) (hr1_3:Kd.C (Kd.int .u8) w A1_3 l1_3.length l1_3) (hc1_3:l1_3.length≤c1_3) (h:laws_eqItem.f k a0_0 a0_1 a0_2 l0_3 a1_0 a1_1 a1_2 l1_3=some r):
  Calls Try.prog 27 #[.agg #[.string a0_0, .int .i64 a0_1, .int .i64 a0_2, .slice A0_3 l0_3.length c0_3], .agg #[.string a1_0, .int .i64 a1_1, .int .i64 a1_2, .slice A1_3 l1_3.length c1_3]] w fun e w'=>e= .returned (.bool r)∧Below w.heap.size w w':=by
 have hu34:=Try.underlying34
 have HR0_3:=Aside0.mk hr0_3
 have HC0_3:=Aside0.mk hc0_3
 clear hr0_3 hc0_3
 have HR1_3:=Aside0.mk hr1_3
 have HC1_3:=Aside0.mk hc1_3
 clear hr1_3 hc1_3
 have HB:=Aside0.mk (zbe w.heap.size w)
 have H:(if a0_0.toList=a1_0.toList then(if a0_1=a1_1 then(if a0_2=a1_2 then((laws_eqByteS.f k l0_3 l1_3).bind fun t135=>(if t135=true then(some true) else(some false))) else(some false)) else(some false)) else(some false))=some r:=h
 clear h
 by_cases c3:a0_0.toList=a1_0.toList
 ·rw[if_pos c3] at H
  have c3b0:=beqT c3
  have c3b1:=zbj.mpr c3
  clear c3
  by_cases c4:a0_1=a1_1
  ·rw[if_pos c4] at H
   have c4b0:=beqT c4
   have c4b1:=zbj.mpr c4
   clear c4
   by_cases c5:a0_2=a1_2
   ·rw[if_pos c5] at H
    have c5b0:=beqT c5
    have c5b1:=zbj.mpr c5
    clear c5
    obtain⟨t135,A6,H⟩:=bnd H
    by_cases c7:t135=true
    ·subst c7
     rw[if_pos rfl] at H
     obtain rfl:=Option.some.inj H
     exact laws_eqItem.wk
    replace c7:=zcd.mpr c7
    subst c7
    rw[if_neg (show ¬(false=true) by decide)] at H
    obtain rfl:=Option.some.inj H
    exact laws_eqItem.wk
   rw[if_neg c5] at H
   have c5b0:=zbb.mpr c5
   have c5b1:=zda.mpr c5
   obtain rfl:=Option.some.inj H
   exact laws_eqItem.wk
  rw[if_neg c4] at H
  have c4b0:=zbb.mpr c4
  have c4b1:=zda.mpr c4
  obtain rfl:=Option.some.inj H
  exact laws_eqItem.wk
 rw[if_neg c3] at H
 have c3b0:=zbb.mpr c3
 have c3b1:=zda.mpr c3
 obtain rfl:=Option.some.inj H
 exact laws_eqItem.wk
end Go.Proofs.Ytlalkldjpniakaa.P
