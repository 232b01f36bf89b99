import Derived.Test.Ytlalkldjpniakaaqu10
namespace Go.Proofs.Ytlalkldjpniakaa.P
open Go.RowKit Go.Proofs.YtlalkldjpniakaaW.PrintWords Go.Proofs.YtlalkldjpniakaaW.PrintLast Go.Proofs.YtlalkldjpniakaaW.PrintMore
attribute [local go_sem] zbr zbs zch zci zbk zbl zbt zbu -- for this text's walks alone
set_option linter.unusedVariables false
set_option linter.unusedSimpArgs false
set_option maxHeartbeats 8000000
set_option maxRecDepth 100000

def spec_Unhex.l0:Nat→ByteArray→List Int→Int→Option (List Int×Bool)
 | 0,_,_,_=>none
 | k+1,x0,x4,x5=>if(wrap64 (x5+1))<(x0.size:Int) then(if 0≤x5 then(if x5<(x0.size:Int) then((spec_l1Sign.f k (bt x0 x5)).bind fun t158=>(if 0≤(wrap64 (x5+1)) then((spec_l1Sign.f k (bt x0 (wrap64 (x5+1)))).bind fun t159=>(if t158<0 then(some ((([]:List Int)),false)) else(if t159<0 then(some ((([]:List Int)),false)) else(if x4.length<140737488355328 then(spec_Unhex.l0 k x0 (x4++[(wrap64 ((wrap64 (16*t158))+t159)) % 256]) (wrap64 (x5+2))) else(none))))) else(none))) else(none)) else(none)) else(if((x0.size:Int) % 2)=0 then(some (x4,true)) else(some ((([]:List Int)),false)))
def spec_Unhex.f (k:Nat) (a0:ByteArray):Option (List Int×Bool):=spec_Unhex.l0 k a0 (([]:List Int)) 0
theorem spec_Unhex.mono_l:∀ k,(∀ y0 y1 y2,LeO (spec_Unhex.l0 k y0 y1 y2) (spec_Unhex.l0 (k+1) y0 y1 y2))
 | 0=>fun _ _ _ r h=>by simp [spec_Unhex.l0] at h
 | k+1=>by
  have ih0:=spec_Unhex.mono_l k
  intro y0 y1 y2
  unfold spec_Unhex.l0
  have m0:=@spec_l1Sign.mono
  exact mt
theorem spec_Unhex.mono:∀ a0 k,LeO (spec_Unhex.f k a0) (spec_Unhex.f (k+1) a0):=by
 intro a0 k
 have ih0:=spec_Unhex.mono_l k
 unfold spec_Unhex.f
 have m0:=@spec_l1Sign.mono
 exact mt
theorem spec_Unhex.calls (k:Nat) (a0:ByteArray) (r1:List Int) (r2:Bool) (w:World) (h:spec_Unhex.f k a0=some (r1,r2)):
  Calls Try.prog 106 #[.string a0] w fun e w'=>∃ v0_:Value,e= .returned (.tuple #[v0_, .bool r2])∧Kd.R (Kd.int .u8) 5 w' w.heap.size (fun _=>True) v0_ r1∧Below w.heap.size w w':=by
 have HB:=Aside0.mk (zbe w.heap.size w)
 have H:(spec_Unhex.l0 k a0 (([]:List Int)) 0)=some (r1,r2):=h
 clear h
 obtain⟨y152,hy152⟩:∃ y_:List Int,y_=(([]:List Int)):=⟨_,rfl⟩
 replace H:(spec_Unhex.l0 k a0 y152 0)=some (r1,r2):=jrw hy152 H
 have Ny152:=Aside0.mk hy152
 clear hy152
 have H':=Aside0.mk H
 clear H
 go_enter Try.func106,Try.ntmps106
 go_wp2_with (first | (refine jgd 8 ?_;refine jlt 8 (Kd.int .u8) 5 ?_;intro v153 w2 ho3 hb;have xb_:=below_ofs bq hb;(first | rw[← Ny152.out] at ho3 | (simp only[Int.reduceToNat] at ho3;rw[← Ny152.out] at ho3));have n_:=jA2 (zbf ho3 (zav xb_)) (zah xb_ hb);clear HB;obtain⟨HO154,HB⟩:=n_;clear xb_ hb ho3))
 go_loopg [4,5] k (fun kq v4 v5 w'=>∃ (x4_1:List Int) (x5_1:Int),v5= .int .i64 x5_1∧Aside0 (spec_Unhex.l0 kq a0 x4_1 x5_1=some (r1,r2))∧Aside0 (kq≤k)∧Aside0 (Kd.R (Kd.int .u8) 5 w' w.heap.size (fun _=>True) v4 x4_1)∧Aside0 (Below w.heap.size w w'))
 case atStart=>exact⟨(y152),(0),jer,H',⟨zbc _⟩,⟨pR HO154.out⟩,⟨bq⟩⟩
 case round=>
  clear H'
  try clear c1
  try clear p2
  obtain⟨x4_1,x5_1,rfl,HA,HK1,HO_4,HB⟩:=hrel
  cases gk with
  | zero=>exact absurd HA.out (by simp [spec_Unhex.l0])
  | succ k1=>
   have H:=HA.out
   clear HA
   simp only[spec_Unhex.l0] at H
   by_cases c4:(wrap64 (x5_1+1))<(a0.size:Int)
   ·rw[if_pos c4] at H
    have c4b0:=zag c4
    clear c4
    by_cases c5:0≤x5_1
    ·rw[if_pos c5] at H
     have c5b0:=zag c5
     clear c5
     by_cases c6:x5_1<(a0.size:Int)
     ·rw[if_pos c6] at H
      have c6b0:=zag c6
      clear c6
      obtain⟨t158,A8,H⟩:=bnd H
      obtain⟨ji9,hji9⟩:∃ j_:Int,(wrap64 (x5_1+1))=j_:=⟨_,rfl⟩
      replace H:(if 0≤(ji9) then((spec_l1Sign.f k1 (bt a0 (ji9))).bind fun t159=>(if t158<0 then(some ((([]:List Int)),false)) else(if t159<0 then(some ((([]:List Int)),false)) else(if x4_1.length<140737488355328 then(spec_Unhex.l0 k1 a0 (x4_1++[(wrap64 ((wrap64 (16*t158))+t159)) % 256]) (wrap64 (x5_1+2))) else(none))))) else(none))=some (r1,r2):=by first | (rw[hji9] at H;exact H) | (simp only[hji9] at H ⊢;exact H)
      (try rw[hji9] at c4b0)
      (try rw[hji9] at A8)
      have hji9w:(IntKind.i64.wrap (x5_1+1))=ji9:=(i64_w _).trans hji9
      by_cases c10:0≤(ji9)
      ·rw[if_pos c10] at H
       have c10b0:=zag c10
       clear c10
       obtain⟨t159,A12,H⟩:=bnd H
       by_cases c13:t158<0
       ·rw[if_pos c13] at H
        have c13b0:=zag c13
        clear c13
        obtain⟨y160,hy160⟩:∃ y_:List Int,y_=(([]:List Int)):=⟨_,rfl⟩
        replace H:(some (y160,false))=some (r1,r2):=jrw hy160 H
        have Ny160:=Aside0.mk hy160
        clear hy160
        simp only[zax,zay] at H
        obtain⟨rfl,rfl⟩:=H
        have p7:0≤(x5_1:Int):=zac jab
        have q7:x5_1<(a0.size:Int):=zac jab
        have hx7:=bt_at a0 x5_1
        replace p7:=zbd p7
        replace q7:=zbd q7
        go_wp2_with (first | (go_at_call 135;(with_reducible refine(spec_l1Sign.calls k1 (bt a0 x5_1) t158 _ A8.out).mono ?_);rintro e w' ⟨rfl,⟨nd,rfl⟩⟩;(try first | exact⟨rfl,_,zaf _ _ _⟩ | exact⟨rfl,_,zcr (zaf _ _ _) (zcs (World.drewN _) (zbi _ _ _))⟩);have p11:0≤((ji9):Int):=zac jab;have q11:(ji9)<(a0.size:Int):=zac jab;have hx11:=bt_at a0 (ji9);replace p11:=zbd p11;replace q11:=zbd q11) | (go_at_call 135;(with_reducible refine(spec_l1Sign.calls k1 (bt a0 (ji9)) t159 _ A12.out).mono ?_);rintro e w' ⟨rfl,⟨nd,rfl⟩⟩;(try first | exact⟨rfl,_,zaf _ _ _⟩ | exact⟨rfl,_,zcr (zaf _ _ _) (zcs (World.drewN _) (zbi _ _ _))⟩)) | (refine jgd 31 ?_;refine jlt 31 (Kd.int .u8) 5 ?_;intro v161 w14 ho15 hb;have xb_:=below_ofs bq hb;(first | rw[← Ny160.out] at ho15 | (simp only[Int.reduceToNat] at ho15;rw[← Ny160.out] at ho15));have qHO_4:=Kd.R_ofs (pR HO_4.out) hb;have n_:=jA3 (Kd.R_elder' qHO_4 (zcp ho15) hb) (zbf (Kd.R_new' ho15 (Kd.R_lt qHO_4)) (zav xb_)) (zah xb_ hb);clear qHO_4 HO_4 HB;obtain⟨HO_4,HO162,HB⟩:=n_;clear xb_ hb ho15))
        repeat(go_quiet (first | (go_at_call 135;(with_reducible refine(spec_l1Sign.calls k1 (bt a0 x5_1) t158 _ A8.out).mono ?_);rintro e w' ⟨rfl,⟨nd,rfl⟩⟩;(try first | exact⟨rfl,_,zaf _ _ _⟩ | exact⟨rfl,_,zcr (zaf _ _ _) (zcs (World.drewN _) (zbi _ _ _))⟩);have p11:0≤((ji9):Int):=zac jab;have q11:(ji9)<(a0.size:Int):=zac jab;have hx11:=bt_at a0 (ji9);replace p11:=zbd p11;replace q11:=zbd q11) | (go_at_call 135;(with_reducible refine(spec_l1Sign.calls k1 (bt a0 (ji9)) t159 _ A12.out).mono ?_);rintro e w' ⟨rfl,⟨nd,rfl⟩⟩;(try first | exact⟨rfl,_,zaf _ _ _⟩ | exact⟨rfl,_,zcr (zaf _ _ _) (zcs (World.drewN _) (zbi _ _ _))⟩)) | (refine jgd 31 ?_;refine jlt 31 (Kd.int .u8) 5 ?_;intro v161 w14 ho15 hb;(first | rw[← Ny160.out] at ho15 | (simp only[Int.reduceToNat] at ho15;rw[← Ny160.out] at ho15));have n_:=jA3 (Kd.R_elder' (pR HO_4.out) (zcp ho15) hb) (zbf (Kd.R_new' ho15 (Kd.R_lt (pR HO_4.out))) (zav bq)) (zah bq hb);clear HO_4 HB;obtain⟨HO_4,HO162,HB⟩:=n_;clear hb ho15));try go_wp2_with (first | (go_at_call 135;(with_reducible refine(spec_l1Sign.calls k1 (bt a0 x5_1) t158 _ A8.out).mono ?_);rintro e w' ⟨rfl,⟨nd,rfl⟩⟩;(try first | exact⟨rfl,_,zaf _ _ _⟩ | exact⟨rfl,_,zcr (zaf _ _ _) (zcs (World.drewN _) (zbi _ _ _))⟩);have p11:0≤((ji9):Int):=zac jab;have q11:(ji9)<(a0.size:Int):=zac jab;have hx11:=bt_at a0 (ji9);replace p11:=zbd p11;replace q11:=zbd q11) | (go_at_call 135;(with_reducible refine(spec_l1Sign.calls k1 (bt a0 (ji9)) t159 _ A12.out).mono ?_);rintro e w' ⟨rfl,⟨nd,rfl⟩⟩;(try first | exact⟨rfl,_,zaf _ _ _⟩ | exact⟨rfl,_,zcr (zaf _ _ _) (zcs (World.drewN _) (zbi _ _ _))⟩)) | (refine jgd 31 ?_;refine jlt 31 (Kd.int .u8) 5 ?_;intro v161 w14 ho15 hb;(first | rw[← Ny160.out] at ho15 | (simp only[Int.reduceToNat] at ho15;rw[← Ny160.out] at ho15));have n_:=jA3 (Kd.R_elder' (pR HO_4.out) (zcp ho15) hb) (zbf (Kd.R_new' ho15 (Kd.R_lt (pR HO_4.out))) (zav bq)) (zah bq hb);clear HO_4 HB;obtain⟨HO_4,HO162,HB⟩:=n_;clear hb ho15)))
        go_ret2
        exact⟨_,by first | rfl | (simp [errW_none,errW_some] <;> rfl) | (simp only[← hji9];first | rfl | (simp [errW_none,errW_some] <;> rfl)) | (simp [*,errW_none,errW_some] <;> rfl),tqR HO162.out,bq⟩
       rw[if_neg c13] at H
       have c13b0:=zaw c13
       clear c13
       by_cases c16:t159<0
       ·rw[if_pos c16] at H
        have c16b0:=zag c16
        clear c16
        obtain⟨y163,hy163⟩:∃ y_:List Int,y_=(([]:List Int)):=⟨_,rfl⟩
        replace H:(some (y163,false))=some (r1,r2):=jrw hy163 H
        have Ny163:=Aside0.mk hy163
        clear hy163
        simp only[zax,zay] at H
        obtain⟨rfl,rfl⟩:=H
        have p7:0≤(x5_1:Int):=zac jab
        have q7:x5_1<(a0.size:Int):=zac jab
        have hx7:=bt_at a0 x5_1
        replace p7:=zbd p7
        replace q7:=zbd q7
        go_wp2_with (first | (go_at_call 135;(with_reducible refine(spec_l1Sign.calls k1 (bt a0 x5_1) t158 _ A8.out).mono ?_);rintro e w' ⟨rfl,⟨nd,rfl⟩⟩;(try first | exact⟨rfl,_,zaf _ _ _⟩ | exact⟨rfl,_,zcr (zaf _ _ _) (zcs (World.drewN _) (zbi _ _ _))⟩);have p11:0≤((ji9):Int):=zac jab;have q11:(ji9)<(a0.size:Int):=zac jab;have hx11:=bt_at a0 (ji9);replace p11:=zbd p11;replace q11:=zbd q11) | (go_at_call 135;(with_reducible refine(spec_l1Sign.calls k1 (bt a0 (ji9)) t159 _ A12.out).mono ?_);rintro e w' ⟨rfl,⟨nd,rfl⟩⟩;(try first | exact⟨rfl,_,zaf _ _ _⟩ | exact⟨rfl,_,zcr (zaf _ _ _) (zcs (World.drewN _) (zbi _ _ _))⟩)) | (refine jgd 31 ?_;refine jlt 31 (Kd.int .u8) 5 ?_;intro v164 w17 ho18 hb;have xb_:=below_ofs bq hb;(first | rw[← Ny163.out] at ho18 | (simp only[Int.reduceToNat] at ho18;rw[← Ny163.out] at ho18));have qHO_4:=Kd.R_ofs (pR HO_4.out) hb;have n_:=jA3 (Kd.R_elder' qHO_4 (zcp ho18) hb) (zbf (Kd.R_new' ho18 (Kd.R_lt qHO_4)) (zav xb_)) (zah xb_ hb);clear qHO_4 HO_4 HB;obtain⟨HO_4,HO165,HB⟩:=n_;clear xb_ hb ho18))
        repeat(go_quiet (first | (go_at_call 135;(with_reducible refine(spec_l1Sign.calls k1 (bt a0 x5_1) t158 _ A8.out).mono ?_);rintro e w' ⟨rfl,⟨nd,rfl⟩⟩;(try first | exact⟨rfl,_,zaf _ _ _⟩ | exact⟨rfl,_,zcr (zaf _ _ _) (zcs (World.drewN _) (zbi _ _ _))⟩);have p11:0≤((ji9):Int):=zac jab;have q11:(ji9)<(a0.size:Int):=zac jab;have hx11:=bt_at a0 (ji9);replace p11:=zbd p11;replace q11:=zbd q11) | (go_at_call 135;(with_reducible refine(spec_l1Sign.calls k1 (bt a0 (ji9)) t159 _ A12.out).mono ?_);rintro e w' ⟨rfl,⟨nd,rfl⟩⟩;(try first | exact⟨rfl,_,zaf _ _ _⟩ | exact⟨rfl,_,zcr (zaf _ _ _) (zcs (World.drewN _) (zbi _ _ _))⟩)) | (refine jgd 31 ?_;refine jlt 31 (Kd.int .u8) 5 ?_;intro v164 w17 ho18 hb;(first | rw[← Ny163.out] at ho18 | (simp only[Int.reduceToNat] at ho18;rw[← Ny163.out] at ho18));have n_:=jA3 (Kd.R_elder' (pR HO_4.out) (zcp ho18) hb) (zbf (Kd.R_new' ho18 (Kd.R_lt (pR HO_4.out))) (zav bq)) (zah bq hb);clear HO_4 HB;obtain⟨HO_4,HO165,HB⟩:=n_;clear hb ho18));try go_wp2_with (first | (go_at_call 135;(with_reducible refine(spec_l1Sign.calls k1 (bt a0 x5_1) t158 _ A8.out).mono ?_);rintro e w' ⟨rfl,⟨nd,rfl⟩⟩;(try first | exact⟨rfl,_,zaf _ _ _⟩ | exact⟨rfl,_,zcr (zaf _ _ _) (zcs (World.drewN _) (zbi _ _ _))⟩);have p11:0≤((ji9):Int):=zac jab;have q11:(ji9)<(a0.size:Int):=zac jab;have hx11:=bt_at a0 (ji9);replace p11:=zbd p11;replace q11:=zbd q11) | (go_at_call 135;(with_reducible refine(spec_l1Sign.calls k1 (bt a0 (ji9)) t159 _ A12.out).mono ?_);rintro e w' ⟨rfl,⟨nd,rfl⟩⟩;(try first | exact⟨rfl,_,zaf _ _ _⟩ | exact⟨rfl,_,zcr (zaf _ _ _) (zcs (World.drewN _) (zbi _ _ _))⟩)) | (refine jgd 31 ?_;refine jlt 31 (Kd.int .u8) 5 ?_;intro v164 w17 ho18 hb;(first | rw[← Ny163.out] at ho18 | (simp only[Int.reduceToNat] at ho18;rw[← Ny163.out] at ho18));have n_:=jA3 (Kd.R_elder' (pR HO_4.out) (zcp ho18) hb) (zbf (Kd.R_new' ho18 (Kd.R_lt (pR HO_4.out))) (zav bq)) (zah bq hb);clear HO_4 HB;obtain⟨HO_4,HO165,HB⟩:=n_;clear hb ho18)))
        go_ret2
        exact⟨_,by first | rfl | (simp [errW_none,errW_some] <;> rfl) | (simp only[← hji9];first | rfl | (simp [errW_none,errW_some] <;> rfl)) | (simp [*,errW_none,errW_some] <;> rfl),tqR HO165.out,bq⟩
       rw[if_neg c16] at H
       have c16b0:=zaw c16
       clear c16
       by_cases c19:x4_1.length<140737488355328
       ·rw[if_pos c19] at H
        have LMc19:=Aside0.mk c19
        clear c19
        obtain⟨y166,hy166⟩:∃ y_:List Int,y_=(x4_1++[(wrap64 ((wrap64 (16*t158))+t159)) % 256]):=⟨_,rfl⟩
        replace H:(spec_Unhex.l0 k1 a0 y166 (wrap64 (x5_1+2)))=some (r1,r2):=jrw hy166 H
        have Ny166:=Aside0.mk hy166
        clear hy166
        have H':=Aside0.mk H
        clear H
        have p7:0≤(x5_1:Int):=zac jab
        have q7:x5_1<(a0.size:Int):=zac jab
        have hx7:=bt_at a0 x5_1
        replace p7:=zbd p7
        replace q7:=zbd q7
        go_wp2_with (first | (go_at_call 135;(with_reducible refine(spec_l1Sign.calls k1 (bt a0 x5_1) t158 _ A8.out).mono ?_);rintro e w' ⟨rfl,⟨nd,rfl⟩⟩;(try first | exact⟨rfl,_,zaf _ _ _⟩ | exact⟨rfl,_,zcr (zaf _ _ _) (zcs (World.drewN _) (zbi _ _ _))⟩);have p11:0≤((ji9):Int):=zac jab;have q11:(ji9)<(a0.size:Int):=zac jab;have hx11:=bt_at a0 (ji9);replace p11:=zbd p11;replace q11:=zbd q11) | (go_at_call 135;(with_reducible refine(spec_l1Sign.calls k1 (bt a0 (ji9)) t159 _ A12.out).mono ?_);rintro e w' ⟨rfl,⟨nd,rfl⟩⟩;(try first | exact⟨rfl,_,zaf _ _ _⟩ | exact⟨rfl,_,zcr (zaf _ _ _) (zcs (World.drewN _) (zbi _ _ _))⟩)) | ((with_reducible refine zbz (b:= .append) (xs:= #[.tmp 32, .tmp 38]) rfl ?_);at_builtin;refine Kd.R_append (Kd.int .u8) (w0:=w) w.heap.size rfl (.tmp 32) (.tmp 38) 29 5 (.int .u8 0) 1 rfl Try.underlying29 info5 rfl (by decide) (by omega) u4 x4_1 ((wrap64 ((wrap64 (16*t158))+t159)) % 256) [.int .u8 ((wrap64 ((wrap64 (16*t158))+t159)) % 256)] (fun _=>True) (fun _=>False) rfl rfl ?aP (fun _ hk=>hk.elim) ?aF ?aO ?aB ?aS ?aL ?_;(case aP=>exact rfl);(case aB=>exact bq);(case aF=>exact(fun _ _=>trivial));(case aO=>exact(pR HO_4.out));(case aS=>exact(zav bq));(case aL=>have:=LMc19.out;omega);intro v167 w20 ho hb hg hat;rw[← Ny166.out] at ho;have n_:=jA2 (hb) (ho);clear HB HO_4;obtain⟨HB,HO168⟩:=n_;clear ho hb hg hat))
        repeat(go_quiet (first | (go_at_call 135;(with_reducible refine(spec_l1Sign.calls k1 (bt a0 x5_1) t158 _ A8.out).mono ?_);rintro e w' ⟨rfl,⟨nd,rfl⟩⟩;(try first | exact⟨rfl,_,zaf _ _ _⟩ | exact⟨rfl,_,zcr (zaf _ _ _) (zcs (World.drewN _) (zbi _ _ _))⟩);have p11:0≤((ji9):Int):=zac jab;have q11:(ji9)<(a0.size:Int):=zac jab;have hx11:=bt_at a0 (ji9);replace p11:=zbd p11;replace q11:=zbd q11) | (go_at_call 135;(with_reducible refine(spec_l1Sign.calls k1 (bt a0 (ji9)) t159 _ A12.out).mono ?_);rintro e w' ⟨rfl,⟨nd,rfl⟩⟩;(try first | exact⟨rfl,_,zaf _ _ _⟩ | exact⟨rfl,_,zcr (zaf _ _ _) (zcs (World.drewN _) (zbi _ _ _))⟩)) | ((with_reducible refine zbz (b:= .append) (xs:= #[.tmp 32, .tmp 38]) rfl ?_);at_builtin;refine Kd.R_append (Kd.int .u8) (w0:=w) w.heap.size rfl (.tmp 32) (.tmp 38) 29 5 (.int .u8 0) 1 rfl Try.underlying29 info5 rfl (by decide) (by omega) u4 x4_1 ((wrap64 ((wrap64 (16*t158))+t159)) % 256) [.int .u8 ((wrap64 ((wrap64 (16*t158))+t159)) % 256)] (fun _=>True) (fun _=>False) rfl rfl ?aP (fun _ hk=>hk.elim) ?aF ?aO ?aB ?aS ?aL ?_;(case aP=>exact rfl);(case aB=>exact bq);(case aF=>exact(fun _ _=>trivial));(case aO=>exact(pR HO_4.out));(case aS=>exact(zav bq));(case aL=>have:=LMc19.out;omega);intro v167 w20 ho hb hg hat;rw[← Ny166.out] at ho;have n_:=jA2 (hb) (ho);clear HB HO_4;obtain⟨HB,HO168⟩:=n_;clear ho hb hg hat));try go_wp2_with (first | (go_at_call 135;(with_reducible refine(spec_l1Sign.calls k1 (bt a0 x5_1) t158 _ A8.out).mono ?_);rintro e w' ⟨rfl,⟨nd,rfl⟩⟩;(try first | exact⟨rfl,_,zaf _ _ _⟩ | exact⟨rfl,_,zcr (zaf _ _ _) (zcs (World.drewN _) (zbi _ _ _))⟩);have p11:0≤((ji9):Int):=zac jab;have q11:(ji9)<(a0.size:Int):=zac jab;have hx11:=bt_at a0 (ji9);replace p11:=zbd p11;replace q11:=zbd q11) | (go_at_call 135;(with_reducible refine(spec_l1Sign.calls k1 (bt a0 (ji9)) t159 _ A12.out).mono ?_);rintro e w' ⟨rfl,⟨nd,rfl⟩⟩;(try first | exact⟨rfl,_,zaf _ _ _⟩ | exact⟨rfl,_,zcr (zaf _ _ _) (zcs (World.drewN _) (zbi _ _ _))⟩)) | ((with_reducible refine zbz (b:= .append) (xs:= #[.tmp 32, .tmp 38]) rfl ?_);at_builtin;refine Kd.R_append (Kd.int .u8) (w0:=w) w.heap.size rfl (.tmp 32) (.tmp 38) 29 5 (.int .u8 0) 1 rfl Try.underlying29 info5 rfl (by decide) (by omega) u4 x4_1 ((wrap64 ((wrap64 (16*t158))+t159)) % 256) [.int .u8 ((wrap64 ((wrap64 (16*t158))+t159)) % 256)] (fun _=>True) (fun _=>False) rfl rfl ?aP (fun _ hk=>hk.elim) ?aF ?aO ?aB ?aS ?aL ?_;(case aP=>exact rfl);(case aB=>exact bq);(case aF=>exact(fun _ _=>trivial));(case aO=>exact(pR HO_4.out));(case aS=>exact(zav bq));(case aL=>have:=LMc19.out;omega);intro v167 w20 ho hb hg hat;rw[← Ny166.out] at ho;have n_:=jA2 (hb) (ho);clear HB HO_4;obtain⟨HB,HO168⟩:=n_;clear ho hb hg hat)))
        go_roundg k1
        case measure=>have:=HK1.out;omega
        case rel=>exact⟨(y166),(wrap64 (x5_1+2)),jer,H',⟨by have:=HK1.out;omega⟩,⟨pR HO168.out⟩,⟨bq⟩⟩
       rw[if_neg c19] at H
       exact absurd H (by simp)
      rw[if_neg c10] at H
      exact absurd H (by simp)
     rw[if_neg c6] at H
     exact absurd H (by simp)
    rw[if_neg c5] at H
    exact absurd H (by simp)
   rw[if_neg c4] at H
   have c4b0:=zaw c4
   clear c4
   by_cases c21:((a0.size:Int) % 2)=0
   ·rw[if_pos c21] at H
    have c21b0:=beqT c21
    have c21b1:=zbj.mpr c21
    clear c21
    simp only[zax,zay] at H
    obtain⟨rfl,rfl⟩:=H
    go_wp2
    go_ret2
    exact⟨_,jex,by(with_reducible repeat(first | apply zdb | apply zdc | apply zdl));exact HO_4.out,bq⟩
   rw[if_neg c21] at H
   have c21b0:=zbb.mpr c21
   have c21b1:=zda.mpr c21
   obtain⟨y155,hy155⟩:∃ y_:List Int,y_=(([]:List Int)):=⟨_,rfl⟩
   replace H:(some (y155,false))=some (r1,r2):=jrw hy155 H
   have Ny155:=Aside0.mk hy155
   clear hy155
   simp only[zax,zay] at H
   obtain⟨rfl,rfl⟩:=H
   go_wp2_with (first | (refine jgd 44 ?_;refine jlt 44 (Kd.int .u8) 5 ?_;intro v156 w22 ho23 hb;have xb_:=below_ofs bq hb;(first | rw[← Ny155.out] at ho23 | (simp only[Int.reduceToNat] at ho23;rw[← Ny155.out] at ho23));have qHO_4:=Kd.R_ofs (pR HO_4.out) hb;have n_:=jA3 (Kd.R_elder' qHO_4 (zcp ho23) hb) (zbf (Kd.R_new' ho23 (Kd.R_lt qHO_4)) (zav xb_)) (zah xb_ hb);clear qHO_4 HO_4 HB;obtain⟨HO_4,HO157,HB⟩:=n_;clear xb_ hb ho23))
   go_ret2
   exact⟨_,jex,tqR HO157.out,bq⟩
def spec_l13Route.f (k:Nat) (a0:ByteArray):Option (Bool):=(spec_Unhex.f k a0).bind fun bt169=>(if bt169.2=true then(some ((bt169.1.length:Int)==8)) else(some false))
theorem spec_l13Route.mono:∀ a0 k,LeO (spec_l13Route.f k a0) (spec_l13Route.f (k+1) a0):=by
 intro a0 k
 unfold spec_l13Route.f
 have m0:=@spec_Unhex.mono
 exact mt
theorem spec_l13Route.wk {P:Prop} (h:P:=by
 go_enter Try.func88,Try.ntmps88
 go_wp2_with (first | (refine jgc 106 ?_;refine jgs 7 Try.func106 #[.string a0] ?_;(with_reducible refine(spec_Unhex.calls k a0 t169 true _ A2.out).mono ?_);rintro e w_ ⟨v171,rfl,ho0,hb⟩;refine⟨_,rfl,?_⟩;have xb_:=below_ofs bq hb;have n_:=jA2 (zbf ho0 (zav xb_)) (zah xb_ hb);clear HB;obtain⟨HO172,HB⟩:=n_;clear xb_ hb ho0;obtain⟨Ao5,co5,eo5⟩:=zbh HO172.out;subst eo5) | (refine jgc 106 ?_;refine jgs 7 Try.func106 #[.string a0] ?_;(with_reducible refine(spec_Unhex.calls k a0 t169 false _ A2.out).mono ?_);rintro e w_ ⟨v171,rfl,ho0,hb⟩;refine⟨_,rfl,?_⟩;have xb_:=below_ofs bq hb;have n_:=jA2 (zbf ho0 (zav xb_)) (zah xb_ hb);clear HB;obtain⟨HO172,HB⟩:=n_;clear xb_ hb ho0))
 go_ret
 exact⟨jex,bq⟩):P:=h
theorem spec_l13Route.calls (k:Nat) (a0:ByteArray) (r:Bool) (w:World) (h:spec_l13Route.f k a0=some r):
  Calls Try.prog 88 #[.string a0] w fun e w'=>e= .returned (.bool r)∧Below w.heap.size w w':=by
 have HB:=Aside0.mk (zbe w.heap.size w)
 have H:((spec_Unhex.f k a0).bind fun bt169=>(if bt169.2=true then(some ((bt169.1.length:Int)==8)) else(some false)))=some r:=h
 clear h
 obtain⟨⟨t169,t170⟩,A2,H⟩:=bnd H
 try dsimp only at H
 by_cases c3:t170=true
 ·subst c3
  rw[if_pos rfl] at H
  obtain rfl:=Option.some.inj H
  exact spec_l13Route.wk
 replace c3:=zcd.mpr c3
 subst c3
 rw[if_neg (show ¬(false=true) by decide)] at H
 obtain rfl:=Option.some.inj H
 exact spec_l13Route.wk
end Go.Proofs.Ytlalkldjpniakaa.P
