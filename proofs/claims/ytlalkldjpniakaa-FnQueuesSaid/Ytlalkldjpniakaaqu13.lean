import Derived.Test.Ytlalkldjpniakaaqu12
namespace Go.Proofs.Ytlalkldjpniakaa.P
open Go.RowKit Go.Proofs.YtlalkldjpniakaaW.PrintWords Go.Proofs.YtlalkldjpniakaaW.PrintLast Go.Proofs.YtlalkldjpniakaaW.PrintMore
attribute [local go_sem] zbr zbs zch zci zbk zbl zbt zbu -- for this text's walks alone
set_option linter.unusedVariables false
set_option linter.unusedSimpArgs false
set_option maxHeartbeats 8000000
set_option maxRecDepth 100000

def impl_Unhex.l0:Nat→ByteArray→List Int→Int→Option (List Int×Bool)
 | 0,_,_,_=>none
 | k+1,x0,x4,x5=>if x5<(x0.size:Int) then(if 0≤x5 then((strings_IndexByte.f (⟨#[48,49,50,51,52,53,54,55,56,57,97,98,99,100,101,102]⟩:ByteArray) (bt x0 x5)).bind fun t181=>(if 0≤(wrap64 (x5+1)) then(if(wrap64 (x5+1))<(x0.size:Int) then((strings_IndexByte.f (⟨#[48,49,50,51,52,53,54,55,56,57,97,98,99,100,101,102]⟩:ByteArray) (bt x0 (wrap64 (x5+1)))).bind fun t182=>(if t181<0 then(some (([]:List Int),false)) else(if t182<0 then(some (([]:List Int),false)) else(if x4.length<140737488355328 then(impl_Unhex.l0 k x0 (x4++[(Go.bits .or .i64 (wrap64 (t181*16)) t182) % 256]) (wrap64 (x5+2))) else(none))))) else(none)) else(none))) else(none)) else(some (x4,true))
def impl_Unhex.f (k:Nat) (a0:ByteArray):Option (List Int×Bool):=if((a0.size:Int) % 2)=0 then(impl_Unhex.l0 k a0 (([]:List Int)) 0) else(some (([]:List Int),false))
theorem impl_Unhex.mono_l:∀ k,(∀ y0 y1 y2,LeO (impl_Unhex.l0 k y0 y1 y2) (impl_Unhex.l0 (k+1) y0 y1 y2))
 | 0=>fun _ _ _ r h=>by simp [impl_Unhex.l0] at h
 | k+1=>by
  have ih0:=impl_Unhex.mono_l k
  intro y0 y1 y2
  unfold impl_Unhex.l0
  exact mt
theorem impl_Unhex.mono:∀ a0 k,LeO (impl_Unhex.f k a0) (impl_Unhex.f (k+1) a0):=by
 intro a0 k
 have ih0:=impl_Unhex.mono_l k
 unfold impl_Unhex.f
 exact mt
theorem impl_Unhex.calls (k:Nat) (a0:ByteArray) (r1:List Int) (r2:Bool) (w:World) (h:impl_Unhex.f k a0=some (r1,r2)):
  Calls Try.prog 108 #[.string a0] w fun e w'=>∃ v0_:Value,e= .returned (.tuple #[v0_, .bool r2])∧Kd.R (Kd.int .u8) 5 w' w.heap.size (fun _=>True) v0_ r1∧Below w.heap.size w w':=by
 have HB:=Aside0.mk (zbe w.heap.size w)
 have H:(if((a0.size:Int) % 2)=0 then(impl_Unhex.l0 k a0 (([]:List Int)) 0) else(some (([]:List Int),false)))=some (r1,r2):=h
 clear h
 by_cases c2:((a0.size:Int) % 2)=0
 ·rw[if_pos c2] at H
  have c2b0:=beqT c2
  have c2b1:=zbj.mpr c2
  clear c2
  obtain⟨y178,hy178⟩:∃ y_:List Int,y_=(([]:List Int)):=⟨_,rfl⟩
  replace H:(impl_Unhex.l0 k a0 y178 0)=some (r1,r2):=jrw hy178 H
  have Ny178:=Aside0.mk hy178
  clear hy178
  have H':=Aside0.mk H
  clear H
  go_enter Try.func108,Try.ntmps108
  go_wp2_with (first | (refine jgd 12 ?_;refine jlt 12 (Kd.int .u8) 5 ?_;intro v179 w3 ho4 hb;have xb_:=below_ofs bq hb;(first | rw[← Ny178.out] at ho4 | (simp only[Int.reduceToNat] at ho4;rw[← Ny178.out] at ho4));have n_:=jA2 (zbf ho4 (zav xb_)) (zah xb_ hb);clear HB;obtain⟨HO180,HB⟩:=n_;clear xb_ hb ho4))
  go_loopg [4,5] k (fun kq v4 v5 w'=>∃ (x4_1:List Int) (x5_1:Int),v5= .int .i64 x5_1∧Aside0 (impl_Unhex.l0 kq a0 x4_1 x5_1=some (r1,r2))∧Aside0 (kq≤k)∧Aside0 (Kd.R (Kd.int .u8) 5 w' w.heap.size (fun _=>True) v4 x4_1)∧Aside0 (Below w.heap.size w w'))
  case atStart=>exact⟨(y178),(0),jer,H',⟨zbc _⟩,⟨pR HO180.out⟩,⟨bq⟩⟩
  case round=>
   clear H'
   try clear c1
   try clear c2
   try clear c2b0
   try clear c2b1
   try clear p2
   obtain⟨x4_1,x5_1,rfl,HA,HK1,HO_4,HB⟩:=hrel
   cases gk with
   | zero=>exact absurd HA.out (by simp [impl_Unhex.l0])
   | succ k1=>
    have H:=HA.out
    clear HA
    simp only[impl_Unhex.l0] at H
    by_cases c5:x5_1<(a0.size:Int)
    ·rw[if_pos c5] at H
     have c5b0:=zag c5
     clear c5
     by_cases c6:0≤x5_1
     ·rw[if_pos c6] at H
      have c6b0:=zag c6
      clear c6
      obtain⟨t181,A8,H⟩:=bnd H
      obtain⟨ji9,hji9⟩:∃ j_:Int,(wrap64 (x5_1+1))=j_:=⟨_,rfl⟩
      replace H:(if 0≤(ji9) then(if(ji9)<(a0.size:Int) then((strings_IndexByte.f (⟨#[48,49,50,51,52,53,54,55,56,57,97,98,99,100,101,102]⟩:ByteArray) (bt a0 (ji9))).bind fun t182=>(if t181<0 then(some (([]:List Int),false)) else(if t182<0 then(some (([]:List Int),false)) else(if x4_1.length<140737488355328 then(impl_Unhex.l0 k1 a0 (x4_1++[(Go.bits .or .i64 (wrap64 (t181*16)) t182) % 256]) (wrap64 (x5_1+2))) else(none))))) else(none)) else(none))=some (r1,r2):=by first | (rw[hji9] at H;exact H) | (simp only[hji9] at H ⊢;exact H)
      (try rw[hji9] at A8)
      have hji9w:(IntKind.i64.wrap (x5_1+1))=ji9:=(i64_w _).trans hji9
      by_cases c10:0≤(ji9)
      ·rw[if_pos c10] at H
       have c10b0:=zag c10
       clear c10
       by_cases c11:(ji9)<(a0.size:Int)
       ·rw[if_pos c11] at H
        have c11b0:=zag c11
        clear c11
        obtain⟨t182,A13,H⟩:=bnd H
        by_cases c14:t181<0
        ·rw[if_pos c14] at H
         have c14b0:=zag c14
         clear c14
         simp only[zax,zay] at H
         obtain⟨rfl,rfl⟩:=H
         have p7:0≤(x5_1:Int):=zac jab
         have q7:x5_1<(a0.size:Int):=zac jab
         have hx7:=bt_at a0 x5_1
         replace p7:=zbd p7
         replace q7:=zbd q7
         go_wp2_with (first | (go_at_call 137;(with_reducible refine(strings_IndexByte.calls (⟨#[48,49,50,51,52,53,54,55,56,57,97,98,99,100,101,102]⟩:ByteArray) (bt a0 x5_1) t181 _ A8.out).mono ?_);rintro e w' ⟨rfl,⟨nd,rfl⟩⟩;(try first | exact⟨rfl,_,zaf _ _ _⟩ | exact⟨rfl,_,zcr (zaf _ _ _) (zcs (World.drewN _) (zbi _ _ _))⟩);have p12:0≤((ji9):Int):=zac jab;have q12:(ji9)<(a0.size:Int):=zac jab;have hx12:=bt_at a0 (ji9);replace p12:=zbd p12;replace q12:=zbd q12) | (go_at_call 137;(with_reducible refine(strings_IndexByte.calls (⟨#[48,49,50,51,52,53,54,55,56,57,97,98,99,100,101,102]⟩:ByteArray) (bt a0 (ji9)) t182 _ A13.out).mono ?_);rintro e w' ⟨rfl,⟨nd,rfl⟩⟩;(try first | exact⟨rfl,_,zaf _ _ _⟩ | exact⟨rfl,_,zcr (zaf _ _ _) (zcs (World.drewN _) (zbi _ _ _))⟩)))
         repeat(go_quiet (first | (go_at_call 137;(with_reducible refine(strings_IndexByte.calls (⟨#[48,49,50,51,52,53,54,55,56,57,97,98,99,100,101,102]⟩:ByteArray) (bt a0 x5_1) t181 _ A8.out).mono ?_);rintro e w' ⟨rfl,⟨nd,rfl⟩⟩;(try first | exact⟨rfl,_,zaf _ _ _⟩ | exact⟨rfl,_,zcr (zaf _ _ _) (zcs (World.drewN _) (zbi _ _ _))⟩);have p12:0≤((ji9):Int):=zac jab;have q12:(ji9)<(a0.size:Int):=zac jab;have hx12:=bt_at a0 (ji9);replace p12:=zbd p12;replace q12:=zbd q12) | (go_at_call 137;(with_reducible refine(strings_IndexByte.calls (⟨#[48,49,50,51,52,53,54,55,56,57,97,98,99,100,101,102]⟩:ByteArray) (bt a0 (ji9)) t182 _ A13.out).mono ?_);rintro e w' ⟨rfl,⟨nd,rfl⟩⟩;(try first | exact⟨rfl,_,zaf _ _ _⟩ | exact⟨rfl,_,zcr (zaf _ _ _) (zcs (World.drewN _) (zbi _ _ _))⟩)));try go_wp2_with (first | (go_at_call 137;(with_reducible refine(strings_IndexByte.calls (⟨#[48,49,50,51,52,53,54,55,56,57,97,98,99,100,101,102]⟩:ByteArray) (bt a0 x5_1) t181 _ A8.out).mono ?_);rintro e w' ⟨rfl,⟨nd,rfl⟩⟩;(try first | exact⟨rfl,_,zaf _ _ _⟩ | exact⟨rfl,_,zcr (zaf _ _ _) (zcs (World.drewN _) (zbi _ _ _))⟩);have p12:0≤((ji9):Int):=zac jab;have q12:(ji9)<(a0.size:Int):=zac jab;have hx12:=bt_at a0 (ji9);replace p12:=zbd p12;replace q12:=zbd q12) | (go_at_call 137;(with_reducible refine(strings_IndexByte.calls (⟨#[48,49,50,51,52,53,54,55,56,57,97,98,99,100,101,102]⟩:ByteArray) (bt a0 (ji9)) t182 _ A13.out).mono ?_);rintro e w' ⟨rfl,⟨nd,rfl⟩⟩;(try first | exact⟨rfl,_,zaf _ _ _⟩ | exact⟨rfl,_,zcr (zaf _ _ _) (zcs (World.drewN _) (zbi _ _ _))⟩))))
         go_ret2
         exact⟨_,by first | rfl | (simp [errW_none,errW_some] <;> rfl) | (simp only[← hji9];first | rfl | (simp [errW_none,errW_some] <;> rfl)) | (simp [*,errW_none,errW_some] <;> rfl),by first | exact Kd.R_nil _ _ _ _ _ | exact Kd.N_nil _ _ _ _ _ | exact Kd.V_nil _ _ _ _ _ | exact Kd.Q_nil _ _ _ _ _ | exact Kd.S_nil _ _ _ _ _,bq⟩
        rw[if_neg c14] at H
        have c14b0:=zaw c14
        clear c14
        by_cases c15:t182<0
        ·rw[if_pos c15] at H
         have c15b0:=zag c15
         clear c15
         simp only[zax,zay] at H
         obtain⟨rfl,rfl⟩:=H
         have p7:0≤(x5_1:Int):=zac jab
         have q7:x5_1<(a0.size:Int):=zac jab
         have hx7:=bt_at a0 x5_1
         replace p7:=zbd p7
         replace q7:=zbd q7
         go_wp2_with (first | (go_at_call 137;(with_reducible refine(strings_IndexByte.calls (⟨#[48,49,50,51,52,53,54,55,56,57,97,98,99,100,101,102]⟩:ByteArray) (bt a0 x5_1) t181 _ A8.out).mono ?_);rintro e w' ⟨rfl,⟨nd,rfl⟩⟩;(try first | exact⟨rfl,_,zaf _ _ _⟩ | exact⟨rfl,_,zcr (zaf _ _ _) (zcs (World.drewN _) (zbi _ _ _))⟩);have p12:0≤((ji9):Int):=zac jab;have q12:(ji9)<(a0.size:Int):=zac jab;have hx12:=bt_at a0 (ji9);replace p12:=zbd p12;replace q12:=zbd q12) | (go_at_call 137;(with_reducible refine(strings_IndexByte.calls (⟨#[48,49,50,51,52,53,54,55,56,57,97,98,99,100,101,102]⟩:ByteArray) (bt a0 (ji9)) t182 _ A13.out).mono ?_);rintro e w' ⟨rfl,⟨nd,rfl⟩⟩;(try first | exact⟨rfl,_,zaf _ _ _⟩ | exact⟨rfl,_,zcr (zaf _ _ _) (zcs (World.drewN _) (zbi _ _ _))⟩)))
         repeat(go_quiet (first | (go_at_call 137;(with_reducible refine(strings_IndexByte.calls (⟨#[48,49,50,51,52,53,54,55,56,57,97,98,99,100,101,102]⟩:ByteArray) (bt a0 x5_1) t181 _ A8.out).mono ?_);rintro e w' ⟨rfl,⟨nd,rfl⟩⟩;(try first | exact⟨rfl,_,zaf _ _ _⟩ | exact⟨rfl,_,zcr (zaf _ _ _) (zcs (World.drewN _) (zbi _ _ _))⟩);have p12:0≤((ji9):Int):=zac jab;have q12:(ji9)<(a0.size:Int):=zac jab;have hx12:=bt_at a0 (ji9);replace p12:=zbd p12;replace q12:=zbd q12) | (go_at_call 137;(with_reducible refine(strings_IndexByte.calls (⟨#[48,49,50,51,52,53,54,55,56,57,97,98,99,100,101,102]⟩:ByteArray) (bt a0 (ji9)) t182 _ A13.out).mono ?_);rintro e w' ⟨rfl,⟨nd,rfl⟩⟩;(try first | exact⟨rfl,_,zaf _ _ _⟩ | exact⟨rfl,_,zcr (zaf _ _ _) (zcs (World.drewN _) (zbi _ _ _))⟩)));try go_wp2_with (first | (go_at_call 137;(with_reducible refine(strings_IndexByte.calls (⟨#[48,49,50,51,52,53,54,55,56,57,97,98,99,100,101,102]⟩:ByteArray) (bt a0 x5_1) t181 _ A8.out).mono ?_);rintro e w' ⟨rfl,⟨nd,rfl⟩⟩;(try first | exact⟨rfl,_,zaf _ _ _⟩ | exact⟨rfl,_,zcr (zaf _ _ _) (zcs (World.drewN _) (zbi _ _ _))⟩);have p12:0≤((ji9):Int):=zac jab;have q12:(ji9)<(a0.size:Int):=zac jab;have hx12:=bt_at a0 (ji9);replace p12:=zbd p12;replace q12:=zbd q12) | (go_at_call 137;(with_reducible refine(strings_IndexByte.calls (⟨#[48,49,50,51,52,53,54,55,56,57,97,98,99,100,101,102]⟩:ByteArray) (bt a0 (ji9)) t182 _ A13.out).mono ?_);rintro e w' ⟨rfl,⟨nd,rfl⟩⟩;(try first | exact⟨rfl,_,zaf _ _ _⟩ | exact⟨rfl,_,zcr (zaf _ _ _) (zcs (World.drewN _) (zbi _ _ _))⟩))))
         go_ret2
         exact⟨_,by first | rfl | (simp [errW_none,errW_some] <;> rfl) | (simp only[← hji9];first | rfl | (simp [errW_none,errW_some] <;> rfl)) | (simp [*,errW_none,errW_some] <;> rfl),by first | exact Kd.R_nil _ _ _ _ _ | exact Kd.N_nil _ _ _ _ _ | exact Kd.V_nil _ _ _ _ _ | exact Kd.Q_nil _ _ _ _ _ | exact Kd.S_nil _ _ _ _ _,bq⟩
        rw[if_neg c15] at H
        have c15b0:=zaw c15
        clear c15
        by_cases c16:x4_1.length<140737488355328
        ·rw[if_pos c16] at H
         have LMc16:=Aside0.mk c16
         clear c16
         obtain⟨y183,hy183⟩:∃ y_:List Int,y_=(x4_1++[(Go.bits .or .i64 (wrap64 (t181*16)) t182) % 256]):=⟨_,rfl⟩
         replace H:(impl_Unhex.l0 k1 a0 y183 (wrap64 (x5_1+2)))=some (r1,r2):=jrw hy183 H
         have Ny183:=Aside0.mk hy183
         clear hy183
         have H':=Aside0.mk H
         clear H
         have p7:0≤(x5_1:Int):=zac jab
         have q7:x5_1<(a0.size:Int):=zac jab
         have hx7:=bt_at a0 x5_1
         replace p7:=zbd p7
         replace q7:=zbd q7
         go_wp2_with (first | (go_at_call 137;(with_reducible refine(strings_IndexByte.calls (⟨#[48,49,50,51,52,53,54,55,56,57,97,98,99,100,101,102]⟩:ByteArray) (bt a0 x5_1) t181 _ A8.out).mono ?_);rintro e w' ⟨rfl,⟨nd,rfl⟩⟩;(try first | exact⟨rfl,_,zaf _ _ _⟩ | exact⟨rfl,_,zcr (zaf _ _ _) (zcs (World.drewN _) (zbi _ _ _))⟩);have p12:0≤((ji9):Int):=zac jab;have q12:(ji9)<(a0.size:Int):=zac jab;have hx12:=bt_at a0 (ji9);replace p12:=zbd p12;replace q12:=zbd q12) | (go_at_call 137;(with_reducible refine(strings_IndexByte.calls (⟨#[48,49,50,51,52,53,54,55,56,57,97,98,99,100,101,102]⟩:ByteArray) (bt a0 (ji9)) t182 _ A13.out).mono ?_);rintro e w' ⟨rfl,⟨nd,rfl⟩⟩;(try first | exact⟨rfl,_,zaf _ _ _⟩ | exact⟨rfl,_,zcr (zaf _ _ _) (zcs (World.drewN _) (zbi _ _ _))⟩)) | ((with_reducible refine zbz (b:= .append) (xs:= #[.tmp 34, .tmp 40]) rfl ?_);at_builtin;refine Kd.R_append (Kd.int .u8) (w0:=w) w.heap.size rfl (.tmp 34) (.tmp 40) 29 5 (.int .u8 0) 1 rfl Try.underlying29 info5 rfl (by decide) (by omega) u4 x4_1 ((Go.bits .or .i64 (wrap64 (t181*16)) t182) % 256) [.int .u8 ((Go.bits .or .i64 (wrap64 (t181*16)) t182) % 256)] (fun _=>True) (fun _=>False) rfl rfl ?aP (fun _ hk=>hk.elim) ?aF ?aO ?aB ?aS ?aL ?_;(case aP=>exact rfl);(case aB=>exact bq);(case aF=>exact(fun _ _=>trivial));(case aO=>exact(pR HO_4.out));(case aS=>exact(zav bq));(case aL=>have:=LMc16.out;omega);intro v184 w17 ho hb hg hat;rw[← Ny183.out] at ho;have n_:=jA2 (hb) (ho);clear HB HO_4;obtain⟨HB,HO185⟩:=n_;clear ho hb hg hat))
         repeat(go_quiet (first | (go_at_call 137;(with_reducible refine(strings_IndexByte.calls (⟨#[48,49,50,51,52,53,54,55,56,57,97,98,99,100,101,102]⟩:ByteArray) (bt a0 x5_1) t181 _ A8.out).mono ?_);rintro e w' ⟨rfl,⟨nd,rfl⟩⟩;(try first | exact⟨rfl,_,zaf _ _ _⟩ | exact⟨rfl,_,zcr (zaf _ _ _) (zcs (World.drewN _) (zbi _ _ _))⟩);have p12:0≤((ji9):Int):=zac jab;have q12:(ji9)<(a0.size:Int):=zac jab;have hx12:=bt_at a0 (ji9);replace p12:=zbd p12;replace q12:=zbd q12) | (go_at_call 137;(with_reducible refine(strings_IndexByte.calls (⟨#[48,49,50,51,52,53,54,55,56,57,97,98,99,100,101,102]⟩:ByteArray) (bt a0 (ji9)) t182 _ A13.out).mono ?_);rintro e w' ⟨rfl,⟨nd,rfl⟩⟩;(try first | exact⟨rfl,_,zaf _ _ _⟩ | exact⟨rfl,_,zcr (zaf _ _ _) (zcs (World.drewN _) (zbi _ _ _))⟩)) | ((with_reducible refine zbz (b:= .append) (xs:= #[.tmp 34, .tmp 40]) rfl ?_);at_builtin;refine Kd.R_append (Kd.int .u8) (w0:=w) w.heap.size rfl (.tmp 34) (.tmp 40) 29 5 (.int .u8 0) 1 rfl Try.underlying29 info5 rfl (by decide) (by omega) u4 x4_1 ((Go.bits .or .i64 (wrap64 (t181*16)) t182) % 256) [.int .u8 ((Go.bits .or .i64 (wrap64 (t181*16)) t182) % 256)] (fun _=>True) (fun _=>False) rfl rfl ?aP (fun _ hk=>hk.elim) ?aF ?aO ?aB ?aS ?aL ?_;(case aP=>exact rfl);(case aB=>exact bq);(case aF=>exact(fun _ _=>trivial));(case aO=>exact(pR HO_4.out));(case aS=>exact(zav bq));(case aL=>have:=LMc16.out;omega);intro v184 w17 ho hb hg hat;rw[← Ny183.out] at ho;have n_:=jA2 (hb) (ho);clear HB HO_4;obtain⟨HB,HO185⟩:=n_;clear ho hb hg hat));try go_wp2_with (first | (go_at_call 137;(with_reducible refine(strings_IndexByte.calls (⟨#[48,49,50,51,52,53,54,55,56,57,97,98,99,100,101,102]⟩:ByteArray) (bt a0 x5_1) t181 _ A8.out).mono ?_);rintro e w' ⟨rfl,⟨nd,rfl⟩⟩;(try first | exact⟨rfl,_,zaf _ _ _⟩ | exact⟨rfl,_,zcr (zaf _ _ _) (zcs (World.drewN _) (zbi _ _ _))⟩);have p12:0≤((ji9):Int):=zac jab;have q12:(ji9)<(a0.size:Int):=zac jab;have hx12:=bt_at a0 (ji9);replace p12:=zbd p12;replace q12:=zbd q12) | (go_at_call 137;(with_reducible refine(strings_IndexByte.calls (⟨#[48,49,50,51,52,53,54,55,56,57,97,98,99,100,101,102]⟩:ByteArray) (bt a0 (ji9)) t182 _ A13.out).mono ?_);rintro e w' ⟨rfl,⟨nd,rfl⟩⟩;(try first | exact⟨rfl,_,zaf _ _ _⟩ | exact⟨rfl,_,zcr (zaf _ _ _) (zcs (World.drewN _) (zbi _ _ _))⟩)) | ((with_reducible refine zbz (b:= .append) (xs:= #[.tmp 34, .tmp 40]) rfl ?_);at_builtin;refine Kd.R_append (Kd.int .u8) (w0:=w) w.heap.size rfl (.tmp 34) (.tmp 40) 29 5 (.int .u8 0) 1 rfl Try.underlying29 info5 rfl (by decide) (by omega) u4 x4_1 ((Go.bits .or .i64 (wrap64 (t181*16)) t182) % 256) [.int .u8 ((Go.bits .or .i64 (wrap64 (t181*16)) t182) % 256)] (fun _=>True) (fun _=>False) rfl rfl ?aP (fun _ hk=>hk.elim) ?aF ?aO ?aB ?aS ?aL ?_;(case aP=>exact rfl);(case aB=>exact bq);(case aF=>exact(fun _ _=>trivial));(case aO=>exact(pR HO_4.out));(case aS=>exact(zav bq));(case aL=>have:=LMc16.out;omega);intro v184 w17 ho hb hg hat;rw[← Ny183.out] at ho;have n_:=jA2 (hb) (ho);clear HB HO_4;obtain⟨HB,HO185⟩:=n_;clear ho hb hg hat)))
         go_roundg k1
         case measure=>have:=HK1.out;omega
         case rel=>exact⟨(y183),(wrap64 (x5_1+2)),jer,H',⟨by have:=HK1.out;omega⟩,⟨pR HO185.out⟩,⟨bq⟩⟩
        rw[if_neg c16] at H
        exact absurd H (by simp)
       rw[if_neg c11] at H
       exact absurd H (by simp)
      rw[if_neg c10] at H
      exact absurd H (by simp)
     rw[if_neg c6] at H
     exact absurd H (by simp)
    rw[if_neg c5] at H
    have c5b0:=zaw c5
    clear c5
    simp only[zax,zay] at H
    obtain⟨rfl,rfl⟩:=H
    go_wp2
    go_ret2
    exact⟨_,jex,by(with_reducible repeat(first | apply zdb | apply zdc | apply zdl));exact HO_4.out,bq⟩
 rw[if_neg c2] at H
 have c2b0:=zbb.mpr c2
 have c2b1:=zda.mpr c2
 simp only[zax,zay] at H
 obtain⟨rfl,rfl⟩:=H
 go_enter Try.func108,Try.ntmps108
 go_wp2
 go_ret2
 exact⟨_,jex,by first | exact Kd.R_nil _ _ _ _ _ | exact Kd.N_nil _ _ _ _ _ | exact Kd.V_nil _ _ _ _ _ | exact Kd.Q_nil _ _ _ _ _ | exact Kd.S_nil _ _ _ _ _,bq⟩
def impl_isRoute.f (k:Nat) (a0:ByteArray):Option (Bool):=(impl_Unhex.f k a0).bind fun bt186=>(if bt186.2=true then(some ((a0.size:Int)==16)) else(some false))
theorem impl_isRoute.mono:∀ a0 k,LeO (impl_isRoute.f k a0) (impl_isRoute.f (k+1) a0):=by
 intro a0 k
 unfold impl_isRoute.f
 have m0:=@impl_Unhex.mono
 exact mt
theorem impl_isRoute.wk {P:Prop} (h:P:=by
 go_enter Try.func90,Try.ntmps90
 go_wp2_with (first | (refine jgc 108 ?_;refine jgs 7 Try.func108 #[.string a0] ?_;(with_reducible refine(impl_Unhex.calls k a0 t186 _ _ A2.out).mono ?_);rintro e w_ ⟨v188,rfl,ho0,hb⟩;refine⟨_,rfl,?_⟩;have xb_:=below_ofs bq hb;have n_:=jA2 (zbf ho0 (zav xb_)) (zah xb_ hb);clear HB;obtain⟨HO189,HB⟩:=n_;clear xb_ hb ho0))
 go_ret
 exact⟨jex,bq⟩):P:=h
theorem impl_isRoute.calls (k:Nat) (a0:ByteArray) (r:Bool) (w:World) (h:impl_isRoute.f k a0=some r):
  Calls Try.prog 90 #[.string a0] w fun e w'=>e= .returned (.bool r)∧Below w.heap.size w w':=by
 have HB:=Aside0.mk (zbe w.heap.size w)
 have H:((impl_Unhex.f k a0).bind fun bt186=>(if bt186.2=true then(some ((a0.size:Int)==16)) else(some false)))=some r:=h
 clear h
 obtain⟨⟨t186,t187⟩,A2,H⟩:=bnd H
 try dsimp only at H
 by_cases c3:t187=true
 ·subst c3
  rw[if_pos rfl] at H
  obtain rfl:=Option.some.inj H
  exact impl_isRoute.wk
 replace c3:=zcd.mpr c3
 subst c3
 rw[if_neg (show ¬(false=true) by decide)] at H
 obtain rfl:=Option.some.inj H
 exact impl_isRoute.wk
def impl_in.f (a0:Int) (a1:Int) (a2:Int):Option (Bool):=if a0≥a1 then(some (decide (a0≤a2))) else(some false)
theorem impl_in.wk {P:Prop} (h:P:=by
 go_enter Try.func91,Try.ntmps91
 go_wp2
 go_ret
 exact⟨by first | rfl | (simp;done) | (simp [*];done),by repeat(first | exact Drawn0.refl _ | apply Drawn0.step)⟩):P:=h
theorem impl_in.calls (a0:Int) (a1:Int) (a2:Int) (r:Bool) (w:World) (h:impl_in.f a0 a1 a2=some r):
  Calls Try.prog 91 #[.int .i64 a0, .int .i64 a1, .int .i64 a2] w fun e w'=>e= .returned (.bool r)∧Drawn0 w w':=by
 have H:(if a0≥a1 then(some (decide (a0≤a2))) else(some false))=some r:=h
 clear h
 by_cases c4:a0≥a1
 ·rw[if_pos c4] at H
  have c4b0:=zag c4
  clear c4
  obtain rfl:=Option.some.inj H
  exact impl_in.wk
 rw[if_neg c4] at H
 have c4b0:=zaw c4
 clear c4
 obtain rfl:=Option.some.inj H
 exact impl_in.wk
end Go.Proofs.Ytlalkldjpniakaa.P
