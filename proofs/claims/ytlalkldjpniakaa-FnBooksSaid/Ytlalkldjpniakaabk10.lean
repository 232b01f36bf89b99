import Derived.Test.Ytlalkldjpniakaabk9
namespace Go.Proofs.Ytlalkldjpniakaa.P
open Go.RowKit Go.Proofs.YtlalkldjpniakaaW.PrintWords Go.Proofs.YtlalkldjpniakaaW.PrintLast Go.Proofs.YtlalkldjpniakaaW.PrintMore
attribute [local go_sem] zck zcl zdl zdm zbz zca zcm zcn -- for this text's walks alone
set_option linter.unusedVariables false
set_option linter.unusedSimpArgs false
set_option maxHeartbeats 8000000
set_option maxRecDepth 100000

def impl_Unhex.l0:Nat→ByteArray→List Int→Int→Option (List Int×Bool)
 | 0,_,_,_=>none
 | k+1,x0,x4,x5=>if x5<(x0.size:Int) then(if 0≤x5 then((strings_IndexByte.f (⟨#[48,49,50,51,52,53,54,55,56,57,97,98,99,100,101,102]⟩:ByteArray) (bt x0 x5)).bind fun t181=>(if 0≤(wrap64 (x5+1)) then(if(wrap64 (x5+1))<(x0.size:Int) then((strings_IndexByte.f (⟨#[48,49,50,51,52,53,54,55,56,57,97,98,99,100,101,102]⟩:ByteArray) (bt x0 (wrap64 (x5+1)))).bind fun t182=>(if t181<0 then(some (([]:List Int),false)) else(if t182<0 then(some (([]:List Int),false)) else(if x4.length<140737488355328 then(impl_Unhex.l0 k x0 (x4++[(Go.bits .or .i64 (wrap64 (t181*16)) t182) % 256]) (wrap64 (x5+2))) else(none))))) else(none)) else(none))) else(none)) else(some (x4,true))
def impl_Unhex.f (k:Nat) (a0:ByteArray):Option (List Int×Bool):=if((a0.size:Int) % 2)=0 then(impl_Unhex.l0 k a0 (([]:List Int)) 0) else(some (([]:List Int),false))
theorem impl_Unhex.mono_l:∀ k,(∀ y0 y1 y2,LeO (impl_Unhex.l0 k y0 y1 y2) (impl_Unhex.l0 (k+1) y0 y1 y2))
 | 0=>fun _ _ _ r h=>by simp [impl_Unhex.l0] at h
 | k+1=>by
  have ih0:=impl_Unhex.mono_l k
  intro y0 y1 y2
  unfold impl_Unhex.l0
  exact mt
theorem impl_Unhex.mono:∀ a0 k,LeO (impl_Unhex.f k a0) (impl_Unhex.f (k+1) a0):=by
 intro a0 k
 have ih0:=impl_Unhex.mono_l k
 unfold impl_Unhex.f
 exact mt
theorem impl_Unhex.calls (k:Nat) (a0:ByteArray) (r1:List Int) (r2:Bool) (w:World) (h:impl_Unhex.f k a0=some (r1,r2)):
  Calls Try.prog 108 #[.string a0] w fun e w'=>∃ v0_:Value,e= .returned (.tuple #[v0_, .bool r2])∧Kd.R (Kd.int .u8) 5 w' w.heap.size (fun _=>True) v0_ r1∧Below w.heap.size w w':=by
 have HB:=Aside0.mk (zbo w.heap.size w)
 have H:(if((a0.size:Int) % 2)=0 then(impl_Unhex.l0 k a0 (([]:List Int)) 0) else(some (([]:List Int),false)))=some (r1,r2):=h
 clear h
 by_cases c2:((a0.size:Int) % 2)=0
 ·rw[if_pos c2] at H
  have Q0:=beqT c2
  have R0:=zbb.mpr c2
  clear c2
  obtain⟨S0,H0⟩:∃ y_:List Int,y_=(([]:List Int)):=⟨_,rfl⟩
  replace H:(impl_Unhex.l0 k a0 S0 0)=some (r1,r2):=jrw H0 H
  have N0:=Aside0.mk H0
  clear H0
  have H':=Aside0.mk H
  clear H
  go_enter Try.func108,Try.ntmps108
  go_wp2_with (first | (refine jgd 12 ?_;refine jlt 12 (Kd.int .u8) 5 ?_;intro v179 w3 T0 hb;have xb_:=below_ofs bq hb;(first | rw[← N0.out] at T0 | (simp only[Int.reduceToNat] at T0;rw[← N0.out] at T0));have n_:=jA2 (zax T0 (zal xb_)) (zac xb_ hb);clear HB;obtain⟨U0,HB⟩:=n_;clear xb_ hb T0))
  go_loopg [4,5] k (fun kq v4 v5 w'=>∃ (E0:List Int) (o0:Int),v5= .int .i64 o0∧Aside0 (impl_Unhex.l0 kq a0 E0 o0=some (r1,r2))∧Aside0 (kq≤k)∧Aside0 (Kd.R (Kd.int .u8) 5 w' w.heap.size (fun _=>True) v4 E0)∧Aside0 (Below w.heap.size w w'))
  case atStart=>exact⟨(S0),(0),jer,H',⟨zaf _⟩,⟨pR U0.out⟩,⟨bq⟩⟩
  case round=>
   clear H'
   try clear c1
   try clear c2
   try clear Q0
   try clear R0
   try clear p2
   obtain⟨E0,o0,rfl,HA,C1,G0,HB⟩:=hrel
   cases gk with
   | zero=>exact absurd HA.out (by simp [impl_Unhex.l0])
   | succ k1=>
    have H:=HA.out
    clear HA
    simp only[impl_Unhex.l0] at H
    by_cases c5:o0<(a0.size:Int)
    ·rw[if_pos c5] at H
     have n1:=zae c5
     clear c5
     by_cases c6:0≤o0
     ·rw[if_pos c6] at H
      have G1:=zae c6
      clear c6
      obtain⟨C0,A8,H⟩:=bnd H
      obtain⟨ji9,hji9⟩:∃ j_:Int,(wrap64 (o0+1))=j_:=⟨_,rfl⟩
      replace H:(if 0≤(ji9) then(if(ji9)<(a0.size:Int) then((strings_IndexByte.f (⟨#[48,49,50,51,52,53,54,55,56,57,97,98,99,100,101,102]⟩:ByteArray) (bt a0 (ji9))).bind fun B0=>(if C0<0 then(some (([]:List Int),false)) else(if B0<0 then(some (([]:List Int),false)) else(if E0.length<140737488355328 then(impl_Unhex.l0 k1 a0 (E0++[(Go.bits .or .i64 (wrap64 (C0*16)) B0) % 256]) (wrap64 (o0+2))) else(none))))) else(none)) else(none))=some (r1,r2):=by first | (rw[hji9] at H;exact H) | (simp only[hji9] at H ⊢;exact H)
      (try rw[hji9] at A8)
      have hji9w:(IntKind.i64.wrap (o0+1))=ji9:=(i64_w _).trans hji9
      by_cases c10:0≤(ji9)
      ·rw[if_pos c10] at H
       have D1:=zae c10
       clear c10
       by_cases Y0:(ji9)<(a0.size:Int)
       ·rw[if_pos Y0] at H
        have E1:=zae Y0
        clear Y0
        obtain⟨B0,M0,H⟩:=bnd H
        by_cases O0:C0<0
        ·rw[if_pos O0] at H
         have V0:=zae O0
         clear O0
         simp only[zaz,zbn] at H
         obtain⟨rfl,rfl⟩:=H
         have p7:0≤(o0:Int):=zad jab
         have q7:o0<(a0.size:Int):=zad jab
         have F1:=bt_at a0 o0
         replace p7:=zbr p7
         replace q7:=zbr q7
         go_wp2_with (first | (go_at_call 137;(with_reducible refine(strings_IndexByte.calls (⟨#[48,49,50,51,52,53,54,55,56,57,97,98,99,100,101,102]⟩:ByteArray) (bt a0 o0) C0 _ A8.out).mono ?_);rintro e w' ⟨rfl,⟨nd,rfl⟩⟩;(try first | exact⟨rfl,_,zao _ _ _⟩ | exact⟨rfl,_,zer (zao _ _ _) (zeo (World.drewN _) (zci _ _ _))⟩);have p12:0≤((ji9):Int):=zad jab;have D0:(ji9)<(a0.size:Int):=zad jab;have F0:=bt_at a0 (ji9);replace p12:=zbr p12;replace D0:=zbr D0) | (go_at_call 137;(with_reducible refine(strings_IndexByte.calls (⟨#[48,49,50,51,52,53,54,55,56,57,97,98,99,100,101,102]⟩:ByteArray) (bt a0 (ji9)) B0 _ M0.out).mono ?_);rintro e w' ⟨rfl,⟨nd,rfl⟩⟩;(try first | exact⟨rfl,_,zao _ _ _⟩ | exact⟨rfl,_,zer (zao _ _ _) (zeo (World.drewN _) (zci _ _ _))⟩)))
         repeat(go_quiet (first | (go_at_call 137;(with_reducible refine(strings_IndexByte.calls (⟨#[48,49,50,51,52,53,54,55,56,57,97,98,99,100,101,102]⟩:ByteArray) (bt a0 o0) C0 _ A8.out).mono ?_);rintro e w' ⟨rfl,⟨nd,rfl⟩⟩;(try first | exact⟨rfl,_,zao _ _ _⟩ | exact⟨rfl,_,zer (zao _ _ _) (zeo (World.drewN _) (zci _ _ _))⟩);have p12:0≤((ji9):Int):=zad jab;have D0:(ji9)<(a0.size:Int):=zad jab;have F0:=bt_at a0 (ji9);replace p12:=zbr p12;replace D0:=zbr D0) | (go_at_call 137;(with_reducible refine(strings_IndexByte.calls (⟨#[48,49,50,51,52,53,54,55,56,57,97,98,99,100,101,102]⟩:ByteArray) (bt a0 (ji9)) B0 _ M0.out).mono ?_);rintro e w' ⟨rfl,⟨nd,rfl⟩⟩;(try first | exact⟨rfl,_,zao _ _ _⟩ | exact⟨rfl,_,zer (zao _ _ _) (zeo (World.drewN _) (zci _ _ _))⟩)));try go_wp2_with (first | (go_at_call 137;(with_reducible refine(strings_IndexByte.calls (⟨#[48,49,50,51,52,53,54,55,56,57,97,98,99,100,101,102]⟩:ByteArray) (bt a0 o0) C0 _ A8.out).mono ?_);rintro e w' ⟨rfl,⟨nd,rfl⟩⟩;(try first | exact⟨rfl,_,zao _ _ _⟩ | exact⟨rfl,_,zer (zao _ _ _) (zeo (World.drewN _) (zci _ _ _))⟩);have p12:0≤((ji9):Int):=zad jab;have D0:(ji9)<(a0.size:Int):=zad jab;have F0:=bt_at a0 (ji9);replace p12:=zbr p12;replace D0:=zbr D0) | (go_at_call 137;(with_reducible refine(strings_IndexByte.calls (⟨#[48,49,50,51,52,53,54,55,56,57,97,98,99,100,101,102]⟩:ByteArray) (bt a0 (ji9)) B0 _ M0.out).mono ?_);rintro e w' ⟨rfl,⟨nd,rfl⟩⟩;(try first | exact⟨rfl,_,zao _ _ _⟩ | exact⟨rfl,_,zer (zao _ _ _) (zeo (World.drewN _) (zci _ _ _))⟩))))
         go_ret2
         exact⟨_,by first | rfl | (simp [errW_none,errW_some] <;> rfl) | (simp only[← hji9];first | rfl | (simp [errW_none,errW_some] <;> rfl)) | (simp [*,errW_none,errW_some] <;> rfl),by first | exact zgo _ _ _ _ _ | exact Kd.N_nil _ _ _ _ _ | exact Kd.V_nil _ _ _ _ _ | exact Kd.Q_nil _ _ _ _ _ | exact Kd.S_nil _ _ _ _ _,bq⟩
        rw[if_neg O0] at H
        have V0:=zbf O0
        clear O0
        by_cases P0:B0<0
        ·rw[if_pos P0] at H
         have W0:=zae P0
         clear P0
         simp only[zaz,zbn] at H
         obtain⟨rfl,rfl⟩:=H
         have p7:0≤(o0:Int):=zad jab
         have q7:o0<(a0.size:Int):=zad jab
         have F1:=bt_at a0 o0
         replace p7:=zbr p7
         replace q7:=zbr q7
         go_wp2_with (first | (go_at_call 137;(with_reducible refine(strings_IndexByte.calls (⟨#[48,49,50,51,52,53,54,55,56,57,97,98,99,100,101,102]⟩:ByteArray) (bt a0 o0) C0 _ A8.out).mono ?_);rintro e w' ⟨rfl,⟨nd,rfl⟩⟩;(try first | exact⟨rfl,_,zao _ _ _⟩ | exact⟨rfl,_,zer (zao _ _ _) (zeo (World.drewN _) (zci _ _ _))⟩);have p12:0≤((ji9):Int):=zad jab;have D0:(ji9)<(a0.size:Int):=zad jab;have F0:=bt_at a0 (ji9);replace p12:=zbr p12;replace D0:=zbr D0) | (go_at_call 137;(with_reducible refine(strings_IndexByte.calls (⟨#[48,49,50,51,52,53,54,55,56,57,97,98,99,100,101,102]⟩:ByteArray) (bt a0 (ji9)) B0 _ M0.out).mono ?_);rintro e w' ⟨rfl,⟨nd,rfl⟩⟩;(try first | exact⟨rfl,_,zao _ _ _⟩ | exact⟨rfl,_,zer (zao _ _ _) (zeo (World.drewN _) (zci _ _ _))⟩)))
         repeat(go_quiet (first | (go_at_call 137;(with_reducible refine(strings_IndexByte.calls (⟨#[48,49,50,51,52,53,54,55,56,57,97,98,99,100,101,102]⟩:ByteArray) (bt a0 o0) C0 _ A8.out).mono ?_);rintro e w' ⟨rfl,⟨nd,rfl⟩⟩;(try first | exact⟨rfl,_,zao _ _ _⟩ | exact⟨rfl,_,zer (zao _ _ _) (zeo (World.drewN _) (zci _ _ _))⟩);have p12:0≤((ji9):Int):=zad jab;have D0:(ji9)<(a0.size:Int):=zad jab;have F0:=bt_at a0 (ji9);replace p12:=zbr p12;replace D0:=zbr D0) | (go_at_call 137;(with_reducible refine(strings_IndexByte.calls (⟨#[48,49,50,51,52,53,54,55,56,57,97,98,99,100,101,102]⟩:ByteArray) (bt a0 (ji9)) B0 _ M0.out).mono ?_);rintro e w' ⟨rfl,⟨nd,rfl⟩⟩;(try first | exact⟨rfl,_,zao _ _ _⟩ | exact⟨rfl,_,zer (zao _ _ _) (zeo (World.drewN _) (zci _ _ _))⟩)));try go_wp2_with (first | (go_at_call 137;(with_reducible refine(strings_IndexByte.calls (⟨#[48,49,50,51,52,53,54,55,56,57,97,98,99,100,101,102]⟩:ByteArray) (bt a0 o0) C0 _ A8.out).mono ?_);rintro e w' ⟨rfl,⟨nd,rfl⟩⟩;(try first | exact⟨rfl,_,zao _ _ _⟩ | exact⟨rfl,_,zer (zao _ _ _) (zeo (World.drewN _) (zci _ _ _))⟩);have p12:0≤((ji9):Int):=zad jab;have D0:(ji9)<(a0.size:Int):=zad jab;have F0:=bt_at a0 (ji9);replace p12:=zbr p12;replace D0:=zbr D0) | (go_at_call 137;(with_reducible refine(strings_IndexByte.calls (⟨#[48,49,50,51,52,53,54,55,56,57,97,98,99,100,101,102]⟩:ByteArray) (bt a0 (ji9)) B0 _ M0.out).mono ?_);rintro e w' ⟨rfl,⟨nd,rfl⟩⟩;(try first | exact⟨rfl,_,zao _ _ _⟩ | exact⟨rfl,_,zer (zao _ _ _) (zeo (World.drewN _) (zci _ _ _))⟩))))
         go_ret2
         exact⟨_,by first | rfl | (simp [errW_none,errW_some] <;> rfl) | (simp only[← hji9];first | rfl | (simp [errW_none,errW_some] <;> rfl)) | (simp [*,errW_none,errW_some] <;> rfl),by first | exact zgo _ _ _ _ _ | exact Kd.N_nil _ _ _ _ _ | exact Kd.V_nil _ _ _ _ _ | exact Kd.Q_nil _ _ _ _ _ | exact Kd.S_nil _ _ _ _ _,bq⟩
        rw[if_neg P0] at H
        have W0:=zbf P0
        clear P0
        by_cases Z0:E0.length<140737488355328
        ·rw[if_pos Z0] at H
         have I0:=Aside0.mk Z0
         clear Z0
         obtain⟨X0,J0⟩:∃ y_:List Int,y_=(E0++[(Go.bits .or .i64 (wrap64 (C0*16)) B0) % 256]):=⟨_,rfl⟩
         replace H:(impl_Unhex.l0 k1 a0 X0 (wrap64 (o0+2)))=some (r1,r2):=jrw J0 H
         have K0:=Aside0.mk J0
         clear J0
         have H':=Aside0.mk H
         clear H
         have p7:0≤(o0:Int):=zad jab
         have q7:o0<(a0.size:Int):=zad jab
         have F1:=bt_at a0 o0
         replace p7:=zbr p7
         replace q7:=zbr q7
         go_wp2_with (first | (go_at_call 137;(with_reducible refine(strings_IndexByte.calls (⟨#[48,49,50,51,52,53,54,55,56,57,97,98,99,100,101,102]⟩:ByteArray) (bt a0 o0) C0 _ A8.out).mono ?_);rintro e w' ⟨rfl,⟨nd,rfl⟩⟩;(try first | exact⟨rfl,_,zao _ _ _⟩ | exact⟨rfl,_,zer (zao _ _ _) (zeo (World.drewN _) (zci _ _ _))⟩);have p12:0≤((ji9):Int):=zad jab;have D0:(ji9)<(a0.size:Int):=zad jab;have F0:=bt_at a0 (ji9);replace p12:=zbr p12;replace D0:=zbr D0) | (go_at_call 137;(with_reducible refine(strings_IndexByte.calls (⟨#[48,49,50,51,52,53,54,55,56,57,97,98,99,100,101,102]⟩:ByteArray) (bt a0 (ji9)) B0 _ M0.out).mono ?_);rintro e w' ⟨rfl,⟨nd,rfl⟩⟩;(try first | exact⟨rfl,_,zao _ _ _⟩ | exact⟨rfl,_,zer (zao _ _ _) (zeo (World.drewN _) (zci _ _ _))⟩)) | ((with_reducible refine zcd (b:= .append) (xs:= #[.tmp 34, .tmp 40]) rfl ?_);at_builtin;refine zhd (Kd.int .u8) (w0:=w) w.heap.size rfl (.tmp 34) (.tmp 40) 29 5 (.int .u8 0) 1 rfl Try.underlying29 info5 rfl (by decide) (by omega) u4 E0 ((Go.bits .or .i64 (wrap64 (C0*16)) B0) % 256) [.int .u8 ((Go.bits .or .i64 (wrap64 (C0*16)) B0) % 256)] (fun _=>True) (fun _=>False) rfl rfl ?aP (fun _ hk=>hk.elim) ?aF ?aO ?aB ?aS ?aL ?_;(case aP=>exact rfl);(case aB=>exact bq);(case aF=>exact(fun _ _=>trivial));(case aO=>exact(pR G0.out));(case aS=>exact(zal bq));(case aL=>have:=I0.out;omega);intro v184 w17 ho hb hg hat;rw[← K0.out] at ho;have n_:=jA2 (hb) (ho);clear HB G0;obtain⟨HB,L0⟩:=n_;clear ho hb hg hat))
         repeat(go_quiet (first | (go_at_call 137;(with_reducible refine(strings_IndexByte.calls (⟨#[48,49,50,51,52,53,54,55,56,57,97,98,99,100,101,102]⟩:ByteArray) (bt a0 o0) C0 _ A8.out).mono ?_);rintro e w' ⟨rfl,⟨nd,rfl⟩⟩;(try first | exact⟨rfl,_,zao _ _ _⟩ | exact⟨rfl,_,zer (zao _ _ _) (zeo (World.drewN _) (zci _ _ _))⟩);have p12:0≤((ji9):Int):=zad jab;have D0:(ji9)<(a0.size:Int):=zad jab;have F0:=bt_at a0 (ji9);replace p12:=zbr p12;replace D0:=zbr D0) | (go_at_call 137;(with_reducible refine(strings_IndexByte.calls (⟨#[48,49,50,51,52,53,54,55,56,57,97,98,99,100,101,102]⟩:ByteArray) (bt a0 (ji9)) B0 _ M0.out).mono ?_);rintro e w' ⟨rfl,⟨nd,rfl⟩⟩;(try first | exact⟨rfl,_,zao _ _ _⟩ | exact⟨rfl,_,zer (zao _ _ _) (zeo (World.drewN _) (zci _ _ _))⟩)) | ((with_reducible refine zcd (b:= .append) (xs:= #[.tmp 34, .tmp 40]) rfl ?_);at_builtin;refine zhd (Kd.int .u8) (w0:=w) w.heap.size rfl (.tmp 34) (.tmp 40) 29 5 (.int .u8 0) 1 rfl Try.underlying29 info5 rfl (by decide) (by omega) u4 E0 ((Go.bits .or .i64 (wrap64 (C0*16)) B0) % 256) [.int .u8 ((Go.bits .or .i64 (wrap64 (C0*16)) B0) % 256)] (fun _=>True) (fun _=>False) rfl rfl ?aP (fun _ hk=>hk.elim) ?aF ?aO ?aB ?aS ?aL ?_;(case aP=>exact rfl);(case aB=>exact bq);(case aF=>exact(fun _ _=>trivial));(case aO=>exact(pR G0.out));(case aS=>exact(zal bq));(case aL=>have:=I0.out;omega);intro v184 w17 ho hb hg hat;rw[← K0.out] at ho;have n_:=jA2 (hb) (ho);clear HB G0;obtain⟨HB,L0⟩:=n_;clear ho hb hg hat));try go_wp2_with (first | (go_at_call 137;(with_reducible refine(strings_IndexByte.calls (⟨#[48,49,50,51,52,53,54,55,56,57,97,98,99,100,101,102]⟩:ByteArray) (bt a0 o0) C0 _ A8.out).mono ?_);rintro e w' ⟨rfl,⟨nd,rfl⟩⟩;(try first | exact⟨rfl,_,zao _ _ _⟩ | exact⟨rfl,_,zer (zao _ _ _) (zeo (World.drewN _) (zci _ _ _))⟩);have p12:0≤((ji9):Int):=zad jab;have D0:(ji9)<(a0.size:Int):=zad jab;have F0:=bt_at a0 (ji9);replace p12:=zbr p12;replace D0:=zbr D0) | (go_at_call 137;(with_reducible refine(strings_IndexByte.calls (⟨#[48,49,50,51,52,53,54,55,56,57,97,98,99,100,101,102]⟩:ByteArray) (bt a0 (ji9)) B0 _ M0.out).mono ?_);rintro e w' ⟨rfl,⟨nd,rfl⟩⟩;(try first | exact⟨rfl,_,zao _ _ _⟩ | exact⟨rfl,_,zer (zao _ _ _) (zeo (World.drewN _) (zci _ _ _))⟩)) | ((with_reducible refine zcd (b:= .append) (xs:= #[.tmp 34, .tmp 40]) rfl ?_);at_builtin;refine zhd (Kd.int .u8) (w0:=w) w.heap.size rfl (.tmp 34) (.tmp 40) 29 5 (.int .u8 0) 1 rfl Try.underlying29 info5 rfl (by decide) (by omega) u4 E0 ((Go.bits .or .i64 (wrap64 (C0*16)) B0) % 256) [.int .u8 ((Go.bits .or .i64 (wrap64 (C0*16)) B0) % 256)] (fun _=>True) (fun _=>False) rfl rfl ?aP (fun _ hk=>hk.elim) ?aF ?aO ?aB ?aS ?aL ?_;(case aP=>exact rfl);(case aB=>exact bq);(case aF=>exact(fun _ _=>trivial));(case aO=>exact(pR G0.out));(case aS=>exact(zal bq));(case aL=>have:=I0.out;omega);intro v184 w17 ho hb hg hat;rw[← K0.out] at ho;have n_:=jA2 (hb) (ho);clear HB G0;obtain⟨HB,L0⟩:=n_;clear ho hb hg hat)))
         go_roundg k1
         case measure=>have:=C1.out;omega
         case rel=>exact⟨(X0),(wrap64 (o0+2)),jer,H',⟨by have:=C1.out;omega⟩,⟨pR L0.out⟩,⟨bq⟩⟩
        rw[if_neg Z0] at H
        exact absurd H (by simp)
       rw[if_neg Y0] at H
       exact absurd H (by simp)
      rw[if_neg c10] at H
      exact absurd H (by simp)
     rw[if_neg c6] at H
     exact absurd H (by simp)
    rw[if_neg c5] at H
    have n1:=zbf c5
    clear c5
    simp only[zaz,zbn] at H
    obtain⟨rfl,rfl⟩:=H
    go_wp2
    go_ret2
    exact⟨_,jex,by(with_reducible repeat(first | apply zbl | apply zbm | apply zbs));exact G0.out,bq⟩
 rw[if_neg c2] at H
 have Q0:=zau.mpr c2
 have R0:=zcz.mpr c2
 simp only[zaz,zbn] at H
 obtain⟨rfl,rfl⟩:=H
 go_enter Try.func108,Try.ntmps108
 go_wp2
 go_ret2
 exact⟨_,jex,by first | exact zgo _ _ _ _ _ | exact Kd.N_nil _ _ _ _ _ | exact Kd.V_nil _ _ _ _ _ | exact Kd.Q_nil _ _ _ _ _ | exact Kd.S_nil _ _ _ _ _,bq⟩
def impl_isRoute.f (k:Nat) (a0:ByteArray):Option (Bool):=(impl_Unhex.f k a0).bind fun bt186=>(if bt186.2=true then(some ((a0.size:Int)==16)) else(some false))
theorem impl_isRoute.mono:∀ a0 k,LeO (impl_isRoute.f k a0) (impl_isRoute.f (k+1) a0):=by
 intro a0 k
 unfold impl_isRoute.f
 have m0:=@impl_Unhex.mono
 exact mt
theorem impl_isRoute.wk {P:Prop} (h:P:=by
 go_enter Try.func90,Try.ntmps90
 go_wp2_with (first | (refine jgc 108 ?_;refine jgs 7 Try.func108 #[.string a0] ?_;(with_reducible refine(impl_Unhex.calls k a0 t186 _ _ A2.out).mono ?_);rintro e w_ ⟨v188,rfl,ho0,hb⟩;refine⟨_,rfl,?_⟩;have xb_:=below_ofs bq hb;have n_:=jA2 (zax ho0 (zal xb_)) (zac xb_ hb);clear HB;obtain⟨HO189,HB⟩:=n_;clear xb_ hb ho0))
 go_ret
 exact⟨jex,bq⟩):P:=h
theorem impl_isRoute.calls (k:Nat) (a0:ByteArray) (r:Bool) (w:World) (h:impl_isRoute.f k a0=some r):
  Calls Try.prog 90 #[.string a0] w fun e w'=>e= .returned (.bool r)∧Below w.heap.size w w':=by
 have HB:=Aside0.mk (zbo w.heap.size w)
 have H:((impl_Unhex.f k a0).bind fun bt186=>(if bt186.2=true then(some ((a0.size:Int)==16)) else(some false)))=some r:=h
 clear h
 obtain⟨⟨t186,o0⟩,A2,H⟩:=bnd H
 try dsimp only at H
 by_cases c3:o0=true
 ·subst c3
  rw[if_pos rfl] at H
  obtain rfl:=Option.some.inj H
  exact impl_isRoute.wk
 replace c3:=zcp.mpr c3
 subst c3
 rw[if_neg (show ¬(false=true) by decide)] at H
 obtain rfl:=Option.some.inj H
 exact impl_isRoute.wk
def impl_in.f (a0:Int) (a1:Int) (a2:Int):Option (Bool):=if a0≥a1 then(some (decide (a0≤a2))) else(some false)
theorem impl_in.wk {P:Prop} (h:P:=by
 go_enter Try.func91,Try.ntmps91
 go_wp2
 go_ret
 exact⟨by first | rfl | (simp;done) | (simp [*];done),by repeat(first | exact Drawn0.refl _ | apply Drawn0.step)⟩):P:=h
theorem impl_in.calls (a0:Int) (a1:Int) (a2:Int) (r:Bool) (w:World) (h:impl_in.f a0 a1 a2=some r):
  Calls Try.prog 91 #[.int .i64 a0, .int .i64 a1, .int .i64 a2] w fun e w'=>e= .returned (.bool r)∧Drawn0 w w':=by
 have H:(if a0≥a1 then(some (decide (a0≤a2))) else(some false))=some r:=h
 clear h
 by_cases c4:a0≥a1
 ·rw[if_pos c4] at H
  have o0:=zae c4
  clear c4
  obtain rfl:=Option.some.inj H
  exact impl_in.wk
 rw[if_neg c4] at H
 have o0:=zbf c4
 clear c4
 obtain rfl:=Option.some.inj H
 exact impl_in.wk
def impl_ItemOk.f (k:Nat) (a0_0:ByteArray) (a0_1:Int) (a0_2:Int) (l0_3:List Int):Option (Bool):=(impl_isRoute.f k a0_0).bind fun t191=>(if t191=true then((impl_in.f a0_1 0 9).bind fun t192=>(if t192=true then((impl_in.f a0_2 0 100000).bind fun t193=>(if t193=true then(some (decide ((l0_3.length:Int)≤1560))) else(some false))) else(some false))) else(some false))
theorem impl_ItemOk.mono:∀ a0 a1 a2 a3 k,LeO (impl_ItemOk.f k a0 a1 a2 a3) (impl_ItemOk.f (k+1) a0 a1 a2 a3):=by
 intro a0 a1 a2 a3 k
 unfold impl_ItemOk.f
 have m0:=@impl_isRoute.mono
 exact mt
theorem impl_ItemOk.wk {P:Prop} (h:P:=by
 go_enter Try.func26,Try.ntmps26
 go_wp2_with (first | (refine jgd 1 ?_;(try(refine gate_guard (by rfl) ?_;dsimp only));refine bx 1 (#[.string a0_0, .int .i64 a0_1, .int .i64 a0_2, .slice A0_3 l0_3.length c0_3]) 34 ?_;intro gb190 hg w_ hbox hb;have xb_:=below_ofs bq hb;have n_:=jA4 (zac xb_ hb) (hbox) (ge0 hg xb_:w.heap.size≤gb190) (ge0 hg xb_:w.heap.size≤gb190);clear HB;obtain⟨HB,BK190,GW190,GE190⟩:=n_;clear xb_ hb hbox hg;obtain⟨c0,c1,c2,c3,z0,z1,z2,z3⟩:=cz4 BK190.out) | (refine jgc 90 ?_;refine jgs 5 Try.func90 #[.string a0_0] ?_;(with_reducible refine(impl_isRoute.calls k a0_0 _ _ A2.out).mono ?_);rintro e w_ ⟨rfl,hb⟩;refine⟨_,rfl,?_⟩;have n_:=jA2 (jbb BK190.out hb) (zac (bs1 GE190.out) hb);clear BK190 HB;obtain⟨BK190,HB⟩:=n_;(try clear hb);(try clear hb2);(try clear hk);(try clear hi);obtain⟨c0,c1,c2,c3,z0,z1,z2,z3⟩:=cz4 BK190.out) | (go_at_call 91;(with_reducible refine(impl_in.calls a0_1 0 9 _ _ A4.out).mono ?_);rintro e w' ⟨rfl,⟨nd,rfl⟩⟩) | (go_at_call 91;(with_reducible refine(impl_in.calls a0_2 0 100000 _ _ A6.out).mono ?_);rintro e w' ⟨rfl,⟨nd,rfl⟩⟩))
 go_ret
 exact⟨jex,(bs1 GE190.out)⟩):P:=h
theorem impl_ItemOk.calls (k:Nat) (a0_0:ByteArray) (a0_1:Int) (a0_2:Int) (A0_3:Option Addr) (c0_3:Nat) (l0_3:List Int) (r:Bool) (w:World) (hr0_3:Kd.C (Kd.int .u8) w A0_3 l0_3.length l0_3) (hc0_3:l0_3.length≤c0_3) (h:impl_ItemOk.f k a0_0 a0_1 a0_2 l0_3=some r):
  Calls Try.prog 26 #[.agg #[.string a0_0, .int .i64 a0_1, .int .i64 a0_2, .slice A0_3 l0_3.length c0_3]] w fun e w'=>e= .returned (.bool r)∧Below w.heap.size w w':=by
 have hu34:=Try.underlying34
 have HR0_3:=Aside0.mk hr0_3
 have o0:=Aside0.mk hc0_3
 clear hr0_3 hc0_3
 have HB:=Aside0.mk (zbo w.heap.size w)
 have H:((impl_isRoute.f k a0_0).bind fun t191=>(if t191=true then((impl_in.f a0_1 0 9).bind fun t192=>(if t192=true then((impl_in.f a0_2 0 100000).bind fun t193=>(if t193=true then(some (decide ((l0_3.length:Int)≤1560))) else(some false))) else(some false))) else(some false)))=some r:=h
 clear h
 obtain⟨t191,A2,H⟩:=bnd H
 by_cases c3:t191=true
 ·subst c3
  rw[if_pos rfl] at H
  obtain⟨t192,A4,H⟩:=bnd H
  by_cases c5:t192=true
  ·subst c5
   rw[if_pos rfl] at H
   obtain⟨t193,A6,H⟩:=bnd H
   by_cases c7:t193=true
   ·subst c7
    rw[if_pos rfl] at H
    obtain rfl:=Option.some.inj H
    exact impl_ItemOk.wk
   replace c7:=zcp.mpr c7
   subst c7
   rw[if_neg (show ¬(false=true) by decide)] at H
   obtain rfl:=Option.some.inj H
   exact impl_ItemOk.wk
  replace c5:=zcp.mpr c5
  subst c5
  rw[if_neg (show ¬(false=true) by decide)] at H
  obtain rfl:=Option.some.inj H
  exact impl_ItemOk.wk
 replace c3:=zcp.mpr c3
 subst c3
 rw[if_neg (show ¬(false=true) by decide)] at H
 obtain rfl:=Option.some.inj H
 exact impl_ItemOk.wk
def slices_Clone_byte_byte.f (l0:List Int):Option (List Int):=if l0.length<140737488355328 then some l0 else none
theorem slices_Clone_byte_byte.wk {P:Prop} (h:P:=by
 go_enter Try.func116,Try.ntmps116
 go_wp2_with (first | (refine jgd 5 ?_;refine jlt 5 (Kd.int .u8) 5 ?_;intro v297 w_ ho9 hb;have xb_:=below_ofs bq hb;have n_:=jA2 (zax ho9 (zal xb_)) (zac xb_ hb);clear HB;obtain⟨HO298,HB⟩:=n_;clear xb_ hb ho9) | ((with_reducible refine zcd (b:= .append) (xs:= #[.tmp 5, .tmp 6]) rfl ?_);at_builtin;refine zej (Kd.int .u8) (w0:=w) w.heap.size rfl (.tmp 5) (.tmp 6) 29 5 (.int .u8 0) 1 rfl Try.underlying29 info5 rfl (by decide) (by omega) v297 ([]:List Int) l0 _ _ _ (fun _=>True) (fun _=>False) rfl rfl ?aO ?aR (fun _ _ h=>h) (fun _ h=>h.elim) ?aF ?aB ?aS ?aL ?_;(case aR=>exact jcs HR0.out);(case aB=>exact bq);(case aF=>exact(fun _ _=>trivial));(case aO=>exact(pR HO298.out));(case aS=>exact(zal bq));(case aL=>have:=LMc3.out;simp;omega);intro v300 w10 ho hb hg hat;have n_:=jA2 (hb) (ho);clear HB HO298;obtain⟨HB,HO301⟩:=n_;clear ho hb hg hat))
 go_ret
 first | (exact⟨_,rfl,by(with_reducible repeat(first | apply zbl | apply zbm | apply zbs));simpa using HO301.out,bq⟩) | (exact⟨_,rfl,zgo _ _ _ _ _,zbo _ _⟩)):P:=h
theorem slices_Clone_byte_byte.calls (A0:Option Addr) (c0:Nat) (l0:List Int) (r:List Int) (w:World) (hr0:Kd.C (Kd.int .u8) w A0 l0.length l0) (hc0:l0.length≤c0) (h:slices_Clone_byte_byte.f l0=some r):
  Calls Try.prog 116 #[.slice A0 l0.length c0] w fun e w'=>∃ v0_:Value,e= .returned (v0_)∧Kd.R (Kd.int .u8) 5 w' w.heap.size (fun _=>True) v0_ r∧Below w.heap.size w w':=by
 unfold slices_Clone_byte_byte.f at h
 by_cases c3:l0.length<140737488355328
 ·rw[if_pos c3] at h
  have LMc3:=Aside0.mk c3
  clear c3
  obtain rfl:=Option.some.inj h
  have HB:=Aside0.mk (zbo w.heap.size w)
  cases A0 with
  | none=>
   have hl:l0=[]:=by
    apply List.eq_nil_of_length_eq_zero
    rcases Nat.eq_zero_or_pos l0.length with h0 | h0
    ·exact h0
    obtain⟨ad,e,_⟩:=hr0.2.2 h0
    cases e
   subst hl
   clear hr0 hc0
   have hq:=fun W=>Lib.run_eql_slice_nil (P:=Try.prog) W 29 5 none 0 c0 0 0 Try.underlying29
   exact slices_Clone_byte_byte.wk
  | some ad=>
   have HR0:=Aside0.mk hr0
   have o0:=Aside0.mk hc0
   clear hr0 hc0
   have hq:=fun W=>Lib.run_eql_slice_nil (P:=Try.prog) W 29 5 (some ad) l0.length c0 0 0 Try.underlying29
   exact slices_Clone_byte_byte.wk
 rw[if_neg c3] at h
 cases h
def impl_itemOf.f (a0_0:Int) (a0_1:ByteArray) (a0_2:Int) (a0_3:Int) (l0_4:List Int):Option (ByteArray×Int×Int×List Int):=(slices_Clone_byte_byte.f l0_4).bind fun t295=>(some (a0_1,a0_2,a0_3,t295))
def impl_itemOf.T1:Bool×List (List Nat×List Nat):=(true,[([],[]),([0],[0]),([],[]),([2],[2]),([],[]),([4],[4]),([],[]),([6],[6]),([7],[7]),([1,3,5,8],[1,3,5,8]),([9,8,0,1,2,3,4,5,6,7,8,9],[9])])
def impl_itemOf.B1:List Nat:=[0,1,0,4,0,16,0,64,192,511,1023]
theorem impl_itemOf.tab1:rtab .any (opsOf Try.f93 1)=impl_itemOf.T1:=by kernel_rfl
theorem impl_itemOf.bits1:waitsOk impl_itemOf.T1.2 impl_itemOf.B1=true:=by kernel_rfl
theorem impl_itemOf.calls (a0_0:Int) (a0_1:ByteArray) (a0_2:Int) (a0_3:Int) (A0_4:Option Addr) (c0_4:Nat) (l0_4:List Int) (r1:ByteArray) (r2:Int) (r3:Int) (r4:List Int) (w:World) (hr0_4:Kd.C (Kd.int .u8) w A0_4 l0_4.length l0_4) (hc0_4:l0_4.length≤c0_4) (h:impl_itemOf.f a0_0 a0_1 a0_2 a0_3 l0_4=some (r1,r2,r3,r4)):
  Calls Try.prog 93 #[.agg #[.int .i64 a0_0, .string a0_1, .int .i64 a0_2, .int .i64 a0_3, .slice A0_4 l0_4.length c0_4]] w fun e w'=>∃ v3_:Value,e= .returned (.agg #[.string r1, .int .i64 r2, .int .i64 r3,v3_])∧Kd.R (Kd.int .u8) 5 w' w.heap.size (fun _=>True) v3_ r4∧Below w.heap.size w w':=by
 have hu48:=Try.underlying48
 have hu34:=Try.underlying34
 have HR0_4:=Aside0.mk hr0_4
 have HC0_4:=Aside0.mk hc0_4
 clear hr0_4 hc0_4
 have HB:=Aside0.mk (zbo w.heap.size w)
 have H:((slices_Clone_byte_byte.f l0_4).bind fun t295=>(some (a0_1,a0_2,a0_3,t295)))=some (r1,r2,r3,r4):=h
 clear h
 obtain⟨t295,A2,H⟩:=bnd H
 simp only[zaz,zbn] at H
 obtain⟨rfl,rfl,rfl,rfl⟩:=H
 go_enter Try.func93,Try.ntmps93
 try go_wp2_with (first | (refine jgd 1 ?_;refine bx 1 (#[.int .i64 a0_0, .string a0_1, .int .i64 a0_2, .int .i64 a0_3, .slice A0_4 l0_4.length c0_4]) 48 ?_;intro F0 hg w3 hbox hb;have n_:=jA4 (zac bq hb) (hbox) (ge0 hg bq:w.heap.size≤F0) (ge0 hg bq:w.heap.size≤F0);clear HB;obtain⟨HB,C0,J0,G0⟩:=n_;clear hb hbox hg) | (refine jgd 2 ?_;refine bx 2 (#[.string (⟨#[]⟩:ByteArray), .int .i64 0, .int .i64 0, .slice none 0 0]) 34 ?_;intro B0 hg w4 hbox hb;have n_:=jA7 (jbb C0.out hb) (zac (bs1 G0.out) hb) (hbox) (ge0 hg (bs1 G0.out):w.heap.size≤B0) (ge0 hg (bs1 G0.out):w.heap.size≤B0) (nl hg (pB C0.out):F0≠B0) (ng hg (pB C0.out):B0≠F0);clear C0 HB;obtain⟨C0,HB,D0,K0,H0,o0,E0⟩:=n_;clear hb hbox hg))
 have n_:=jA3 (zan C0.out) (zan D0.out) (zba HB.out)
 clear C0 D0 HB
 obtain⟨C0,D0,HB⟩:=n_
 refine start_ (n:=11) (S:=fun w'=>w'.cell? ⟨F0,0,none⟩=some (.int .i64 a0_0)∧w'.cell? ⟨F0,1,none⟩=some (.string a0_1)∧w'.cell? ⟨F0,2,none⟩=some (.int .i64 a0_2)∧w'.cell? ⟨F0,3,none⟩=some (.int .i64 a0_3)∧w'.cell? ⟨F0,4,none⟩=some (.slice A0_4 l0_4.length c0_4)) (ds:=[]) #[false,false,false,false,false,false,false,false,false,false,false] (by kernel_rfl) rfl rfl ⟨(zbi C0.out 0).trans rfl,(zbi C0.out 1).trans rfl,(zbi C0.out 2).trans rfl,(zbi C0.out 3).trans rfl,(zbi C0.out 4).trans rfl⟩ (fun hHeld=>?_);refine with_tabW impl_itemOf.tab1 impl_itemOf.bits1 (fun HT_ HW_=>?_)
 generalize w4.drew=w5 at C0 D0 HB hHeld ⊢
 refine pu 0 3 HT_.out ?_
 refine pu 2 5 HT_.out ?_
 refine pu 4 7 HT_.out ?_
 refine pu 6 9 HT_.out ?_
 refine tk 1 4 HT_.out HW_.out hHeld ?_
 refine tk 3 6 HT_.out HW_.out hHeld ?_
 refine tk 5 8 HT_.out HW_.out hHeld ?_
 refine tk 7 10 HT_.out HW_.out hHeld ?_
 refine one_ (i:=8) (N:=some 11) #[true,true,true,true,true,true,true,true,true,false,false] rfl rfl (one_of HT_.out (by kernel_rfl)) (by decide) (fun K hK=>?_)
 refine goes_ Try.func116 (by kernel_rfl) rfl #[.slice A0_4 l0_4.length c0_4] (by rfl) rfl rfl jhl ?_
 with_reducible refine(slices_Clone_byte_byte.calls _ _ l0_4 t295 _ ?side1 ?side2 A2.out).mono ?_
 (case side1=>exact jcs HR0_4.out)
 (case side2=>exact HC0_4.out)
 rintro e w6 ⟨v296,rfl,ho0,hb⟩
 refine⟨_,rfl,?_⟩
 have n_:=jA4 (zax ho0 (zal (bs2 G0.out H0.out))) (jbb C0.out hb) (jbb D0.out hb) (zac (bs2 G0.out H0.out) hb)
 clear C0 D0 HB
 obtain⟨I0,C0,D0,HB⟩:=n_
 (try clear hb)
 (try clear hb2)
 (try clear hk)
 (try clear hi)
 (try clear ho0)
 obtain⟨L0,M0,N0⟩:=zbd I0.out
 (first | subst N0 | (injection N0 with f1_ f2_ f3_;have f4_:=f1_.symm;have f5_:=f3_.symm;clear f1_ f2_ f3_;subst f4_;subst f5_))
 refine hK.out _ _ ⟨(zbi C0.out 0).trans rfl,(zbi C0.out 1).trans rfl,(zbi C0.out 2).trans rfl,(zbi C0.out 3).trans rfl,(zbi C0.out 4).trans rfl⟩ (fun hHeld=>?_)
 clear hK K
 refine norm_ (a':=?_) ?_ ?_
 rotate_left
 ·show Act.put _ (some 11) _=_
  simp only[Act.put,zaq,zbj,zbk,i64_w,i32_w]
  rfl
 refine pu 9 12 HT_.out ?_
 refine one_ (i:=10) (N:=none) #[true,true,true,true,true,true,true,true,true,true,true] rfl rfl (one_of HT_.out (by kernel_rfl)) (by decide) (fun K hK=>?_)
 have hs8:w6.cell? ⟨B0,0,none⟩=some (.string (⟨#[]⟩:ByteArray)):=(zbi D0.out 0).trans rfl
 have hfs8:=zgi D0.out 0
 have hns8_0:=o0.out
 have hms8_0:=E0.out
 have hs9:w6.cell? ⟨B0,1,none⟩=some (.int .i64 0):=(zbi D0.out 1).trans rfl
 have hfs9:=zgi D0.out 1
 have hns9_0:=o0.out
 have hms9_0:=E0.out
 have hs10:w6.cell? ⟨B0,2,none⟩=some (.int .i64 0):=(zbi D0.out 2).trans rfl
 have hfs10:=zgi D0.out 2
 have hns10_0:=o0.out
 have hms10_0:=E0.out
 have hs11:w6.cell? ⟨B0,3,none⟩=some (.slice none 0 0):=(zbi D0.out 3).trans rfl
 have hfs11:=zgi D0.out 3
 have hns11_0:=o0.out
 have hms11_0:=E0.out
 refine skip_ (w1:=?_) (by rfl) rfl ?_ ?_
 rotate_left
 ·go_simp
  rfl
 refine hK.out _ _ ⟨((zde (p:=⟨B0,_,none⟩) o0.out _).trans (((zde (p:=⟨B0,_,none⟩) o0.out _).trans (((zde (p:=⟨B0,_,none⟩) o0.out _).trans (((zde (p:=⟨B0,_,none⟩) o0.out _).trans (hHeld.1)))))))),((zde (p:=⟨B0,_,none⟩) o0.out _).trans (((zde (p:=⟨B0,_,none⟩) o0.out _).trans (((zde (p:=⟨B0,_,none⟩) o0.out _).trans (((zde (p:=⟨B0,_,none⟩) o0.out _).trans (hHeld.2.1)))))))),((zde (p:=⟨B0,_,none⟩) o0.out _).trans (((zde (p:=⟨B0,_,none⟩) o0.out _).trans (((zde (p:=⟨B0,_,none⟩) o0.out _).trans (((zde (p:=⟨B0,_,none⟩) o0.out _).trans (hHeld.2.2.1)))))))),((zde (p:=⟨B0,_,none⟩) o0.out _).trans (((zde (p:=⟨B0,_,none⟩) o0.out _).trans (((zde (p:=⟨B0,_,none⟩) o0.out _).trans (((zde (p:=⟨B0,_,none⟩) o0.out _).trans (hHeld.2.2.2.1)))))))),((zde (p:=⟨B0,_,none⟩) o0.out _).trans (((zde (p:=⟨B0,_,none⟩) o0.out _).trans (((zde (p:=⟨B0,_,none⟩) o0.out _).trans (((zde (p:=⟨B0,_,none⟩) o0.out _).trans (hHeld.2.2.2.2))))))))⟩ (fun hHeld=>?_)
 clear hK K
 refine done_ (done_of HT_.out (by kernel_rfl)) ?_
 try go_wp2
 refine zdp (zes rfl _ _ B0 34 #[.string a0_1, .int .i64 a0_2, .int .i64 a0_3, .slice L0 t295.length M0] (0,0) _ rfl (by(with_reducible repeat(first | refine zaj ?_ _ | refine zan ?_ | refine zak ?_ _));refine zbw (cs:= #[.string a0_1, .int .i64 a0_2, .int .i64 a0_3, .slice none 0 0]) ?_ 3 _ rfl;(with_reducible repeat(first | refine zaj ?_ _ | refine zan ?_ | refine zak ?_ _));refine zbw (cs:= #[.string a0_1, .int .i64 a0_2, .int .i64 0, .slice none 0 0]) ?_ 2 _ rfl;(with_reducible repeat(first | refine zaj ?_ _ | refine zan ?_ | refine zak ?_ _));refine zbw (cs:= #[.string a0_1, .int .i64 0, .int .i64 0, .slice none 0 0]) ?_ 1 _ rfl;(with_reducible repeat(first | refine zaj ?_ _ | refine zan ?_ | refine zak ?_ _));refine zbw (cs:= #[.string (⟨#[]⟩:ByteArray), .int .i64 0, .int .i64 0, .slice none 0 0]) ?_ 0 _ rfl;(with_reducible repeat(first | refine zaj ?_ _ | refine zan ?_ | refine zak ?_ _));exact D0.out) Try.underlying34 rfl (by kernel_rfl)) rfl ?_
 exact⟨_,jex,by(with_reducible repeat(first | apply zbl | apply zbm | apply zbs));exact zam (zcx (p:=⟨B0,3,none⟩) (rf3 I0.out D0.out) (fun _ hk=>hk.2) (.slice L0 t295.length M0)) (fun _ hk=>trivial),(bs2 G0.out H0.out)⟩
end Go.Proofs.Ytlalkldjpniakaa.P
