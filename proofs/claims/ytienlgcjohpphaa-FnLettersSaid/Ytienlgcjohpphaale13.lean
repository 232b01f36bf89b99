import Derived.Test.Ytienlgcjohpphaale4
namespace Go.Proofs.Ytienlgcjohpphaa.P
open Go.RowKit Go.Proofs.YtienlgcjohpphaaW.PrintWords Go.Proofs.YtienlgcjohpphaaW.PrintLast Go.Proofs.YtienlgcjohpphaaW.PrintMore
attribute [local go_sem] zcn zco zdk zdl zce zcf zcp zcq -- for this text's walks alone
set_option linter.unusedVariables false
set_option linter.unusedSimpArgs false
set_option maxHeartbeats 8000000
set_option maxRecDepth 100000

def spec_l1In.f (a0:Int) (a1:Int) (a2:Int):Option (Bool):=if a0≥a1 then(some (decide (a0≤a2))) else(some false)
theorem spec_l1In.wk {P:Prop} (h:P:=by
 go_enter Try.func89,Try.ntmps89
 go_wp2
 go_ret
 exact⟨by first | rfl | (simp;done) | (simp [*];done),by repeat(first | exact Drawn0.refl _ | apply Drawn0.step)⟩):P:=h
theorem spec_l1In.calls (a0:Int) (a1:Int) (a2:Int) (r:Bool) (w:World) (h:spec_l1In.f a0 a1 a2=some r):
  Calls Try.prog 89 #[.int .i64 a0, .int .i64 a1, .int .i64 a2] w fun e w'=>e= .returned (.bool r)∧Drawn0 w w':=by
 have H:(if a0≥a1 then(some (decide (a0≤a2))) else(some false))=some r:=h
 clear h
 by_cases c4:a0≥a1
 ·rw[if_pos c4] at H
  have c4b0:=zab c4
  clear c4
  obtain rfl:=Option.some.inj H
  exact spec_l1In.wk
 rw[if_neg c4] at H
 have c4b0:=zbj c4
 clear c4
 obtain rfl:=Option.some.inj H
 exact spec_l1In.wk
mutual
def spec_Little.j0:Nat→Int→Int→List Int→Bool→Option (List Int)
 | 0,_,_,_,_=>none
 | k+1,x0,x1,x5,x14=>if x14=true then(some x5) else(spec_Little.l0 k x0 x1 x5 0)
def spec_Little.l0:Nat→Int→Int→List Int→Int→Option (List Int)
 | 0,_,_,_,_=>none
 | k+1,x0,x1,x5,x6=>if x6<x1 then(if x5.length<140737488355328 then(spec_Little.l0 k (x0 / 256) x1 (x5++[(Go.bits .and .i64 x0 255) % 256]) (wrap64 (x6+1))) else(none)) else(some x5)
end
def spec_Little.f (k:Nat) (a0:Int) (a1:Int):Option (List Int):=(some (([]:List Int):List Int)).bind fun y337=>(if a0<0 then(spec_Little.j0 k a0 a1 y337 true) else((spec_l1In.f a1 1 8).bind fun t340=>(spec_Little.j0 k a0 a1 y337 (!t340))))
theorem spec_Little.mono_l:∀ k,(∀ y0 y1 y2 y3,LeO (spec_Little.j0 k y0 y1 y2 y3) (spec_Little.j0 (k+1) y0 y1 y2 y3))∧(∀ y0 y1 y2 y3,LeO (spec_Little.l0 k y0 y1 y2 y3) (spec_Little.l0 (k+1) y0 y1 y2 y3))
 | 0=>⟨fun _ _ _ _ r h=>by simp [spec_Little.j0] at h,fun _ _ _ _ r h=>by simp [spec_Little.l0] at h⟩
 | k+1=>by
  obtain⟨ih0,ih1⟩:=spec_Little.mono_l k
  refine⟨?_,?_⟩
  ·intro y0 y1 y2 y3
   unfold spec_Little.j0
   exact mt
  intro y0 y1 y2 y3
  unfold spec_Little.l0
  exact mt
theorem spec_Little.mono:∀ a0 a1 k,LeO (spec_Little.f k a0 a1) (spec_Little.f (k+1) a0 a1):=by
 intro a0 a1 k
 obtain⟨ih0,ih1⟩:=spec_Little.mono_l k
 unfold spec_Little.f
 exact mt
theorem spec_Little.calls (k:Nat) (a0:Int) (a1:Int) (r:List Int) (w:World) (h:spec_Little.f k a0 a1=some r):
  Calls Try.prog 104 #[.int .i64 a0, .int .i64 a1] w fun e w'=>∃ v0_:Value,e= .returned (v0_)∧Kd.R (Kd.int .u8) 5 w' w.heap.size (fun _=>True) v0_ r∧Below w.heap.size w w':=by
 have HB:=Aside0.mk (zbk w.heap.size w)
 have H:((some (([]:List Int):List Int)).bind fun y337=>(if a0<0 then(spec_Little.j0 k a0 a1 y337 true) else((spec_l1In.f a1 1 8).bind fun t340=>(spec_Little.j0 k a0 a1 y337 (!t340)))))=some r:=h
 clear h
 obtain⟨y337,hy337⟩:∃ y_:List Int,y_=(([]:List Int)):=⟨_,rfl⟩
 replace H:=bto hy337 H
 have Ny337:=Aside0.mk hy337
 clear hy337
 have HC3:=Aside0.mk H
 clear H
 go_enter Try.func104,Try.ntmps104
 go_upto_region 2 with (first | (refine jgd 7 ?_;refine jlt 7 (Kd.int .u8) 5 ?_;intro v338 w4 ho5 hb;have xb_:=below_ofs bq hb;(first | rw[← Ny337.out] at ho5 | (simp only[Int.reduceToNat] at ho5;rw[← Ny337.out] at ho5));have n_:=jA2 (zaq ho5 (zah xb_)) (zal xb_ hb);clear HB;obtain⟨HO339,HB⟩:=n_;clear xb_ hb ho5))
 (try simp only[Act.put,zaa,zae,zaf])
 go_cut [14] (fun v14 wc=>∃ (kq:Nat) (x14_2:Bool),v14= .bool x14_2∧Aside0 (spec_Little.j0 kq a0 a1 y337 x14_2=some r)∧Aside0 (kq≤k)∧Aside0 (Kd.R (Kd.int .u8) 5 wc w.heap.size (fun _=>True) v338 y337)∧Aside0 (Below w.heap.size w wc))
 case first=>
  have H:=HC3.out
  clear HC3
  by_cases c6:a0<0
  ·rw[if_pos c6] at H
   have c6b0:=zab c6
   clear c6
   (first | rw[c6b0] | (simp only[i64_w,i32_w];rw[c6b0]) | skip)
   have H':=Aside0.mk H
   clear H
   go_wp2
   go_meet
   case rel=>exact⟨_,(true),jer,H',⟨by first | omega | exact zav _⟩,⟨pR HO339.out⟩,⟨bq⟩⟩
  rw[if_neg c6] at H
  have c6b0:=zbj c6
  clear c6
  (first | rw[c6b0] | (simp only[i64_w,i32_w];rw[c6b0]) | skip)
  obtain⟨t340,A7,H⟩:=bnd H
  have H':=Aside0.mk H
  clear H
  go_wp2_with (first | (go_at_call 89;(with_reducible refine(spec_l1In.calls a1 1 8 t340 _ A7.out).mono ?_);rintro e w' ⟨rfl,⟨nd,rfl⟩⟩))
  go_meet
  case rel=>exact⟨_,(!t340),jer,H',⟨by first | omega | exact zav _⟩,⟨pR HO339.out⟩,⟨bq⟩⟩
 case rest=>
  clear HC3
  try clear c1
  try clear p2
  try clear c6
  try clear c6b0
  obtain⟨kq,x14_2,rfl,HA,HJ2,HO_5,HB⟩:=hcut
  cases kq with
  | zero=>exact absurd HA.out (by simp [spec_Little.j0])
  | succ kj2=>
   have H:=HA.out
   clear HA
   simp only[spec_Little.j0] at H
   by_cases c8:x14_2=true
   ·subst c8
    rw[if_pos rfl] at H
    obtain rfl:=Option.some.inj H
    go_wp2
    go_ret
    exact⟨_,jex,by(with_reducible repeat(first | apply zat | apply zau | apply zar));exact HO_5.out,bq⟩
   replace c8:=zds.mpr c8
   subst c8
   rw[if_neg (show ¬(false=true) by decide)] at H
   have H':=Aside0.mk H
   clear H
   go_wp2
   go_loopg [0,5,6] kj2 (fun kq v0 v5 v6 w'=>∃ (x0_2:Int) (x5_2:List Int) (x6_2:Int),v0= .int .i64 x0_2∧v6= .int .i64 x6_2∧Aside0 (spec_Little.l0 kq x0_2 a1 x5_2 x6_2=some r)∧Aside0 (kq≤kj2)∧Aside0 (Kd.R (Kd.int .u8) 5 w' w.heap.size (fun _=>True) v5 x5_2)∧Aside0 (Below w.heap.size w w'))
   case atStart=>exact⟨(a0),(y337),(0),jer,jer,H',⟨zav _⟩,⟨pR HO_5.out⟩,⟨bq⟩⟩
   case round=>
    clear H'
    try clear c1
    try clear p2
    try clear c6
    try clear c6b0
    try clear c8
    try clear p2
    obtain⟨x0_2,x5_2,x6_2,rfl,rfl,HA,HK2,HO_5,HB⟩:=hrel
    cases gk with
    | zero=>exact absurd HA.out (by simp [spec_Little.l0])
    | succ k2=>
     have H:=HA.out
     clear HA
     simp only[spec_Little.l0] at H
     by_cases c9:x6_2<a1
     ·rw[if_pos c9] at H
      have c9b0:=zab c9
      clear c9
      by_cases c10:x5_2.length<140737488355328
      ·rw[if_pos c10] at H
       have LMc10:=Aside0.mk c10
       clear c10
       obtain⟨y341,hy341⟩:∃ y_:List Int,y_=(x5_2++[(Go.bits .and .i64 x0_2 255) % 256]):=⟨_,rfl⟩
       replace H:(spec_Little.l0 k2 (x0_2 / 256) a1 y341 (wrap64 (x6_2+1)))=some r:=jrw hy341 H
       have Ny341:=Aside0.mk hy341
       clear hy341
       have H':=Aside0.mk H
       clear H
       go_wp2_with (first | ((with_reducible refine zde (b:= .append) (xs:= #[.tmp 21, .tmp 25]) rfl ?_);at_builtin;refine zfr (Kd.int .u8) (w0:=w) w.heap.size rfl (.tmp 21) (.tmp 25) 23 5 (.int .u8 0) 1 rfl Try.underlying23 info5 rfl (by decide) (by omega) u5 x5_2 ((Go.bits .and .i64 x0_2 255) % 256) [.int .u8 ((Go.bits .and .i64 x0_2 255) % 256)] (fun _=>True) (fun _=>False) rfl rfl ?aP (fun _ hk=>hk.elim) ?aF ?aO ?aB ?aS ?aL ?_;(case aP=>exact rfl);(case aB=>exact bq);(case aF=>exact(fun _ _=>trivial));(case aO=>exact(pR HO_5.out));(case aS=>exact(zah bq));(case aL=>have:=LMc10.out;omega);intro v342 w11 ho hb hg hat;rw[← Ny341.out] at ho;have n_:=jA2 (hb) (ho);clear HB HO_5;obtain⟨HB,HO343⟩:=n_;clear ho hb hg hat))
       go_roundg k2
       case measure=>have:=HJ2.out;have:=HK2.out;omega
       case rel=>exact⟨(x0_2 / 256),(y341),(wrap64 (x6_2+1)),jer,jer,H',⟨by have:=HJ2.out;have:=HK2.out;omega⟩,⟨pR HO343.out⟩,⟨bq⟩⟩
      rw[if_neg c10] at H
      exact absurd H (by simp)
     rw[if_neg c9] at H
     have c9b0:=zbj c9
     clear c9
     obtain rfl:=Option.some.inj H
     go_wp2
     go_ret
     exact⟨_,jex,by(with_reducible repeat(first | apply zat | apply zau | apply zar));exact HO_5.out,bq⟩
def spec_Great.l0:Nat→List Int→List Int→Int→Option (List Int)
 | 0,_,_,_=>none
 | k+1,x5,x6,x7=>if x7≥0 then(if 0≤x7 then(if x7<(x5.length:Int) then(if x6.length<140737488355328 then(spec_Great.l0 k x5 (x6++[rd x5 x7]) (wrap64 (x7 - 1))) else(none)) else(none)) else(none)) else(some x6)
def spec_Great.f (k:Nat) (a0:Int) (a1:Int):Option (List Int):=(spec_Little.f k a0 a1).bind fun t344=>(spec_Great.l0 k t344 (([]:List Int)) (wrap64 ((t344.length:Int) - 1)))
theorem spec_Great.mono_l:∀ k,(∀ y0 y1 y2,LeO (spec_Great.l0 k y0 y1 y2) (spec_Great.l0 (k+1) y0 y1 y2))
 | 0=>fun _ _ _ r h=>by simp [spec_Great.l0] at h
 | k+1=>by
  have ih0:=spec_Great.mono_l k
  intro y0 y1 y2
  unfold spec_Great.l0
  have m0:=@spec_Little.mono
  exact mt
theorem spec_Great.mono:∀ a0 a1 k,LeO (spec_Great.f k a0 a1) (spec_Great.f (k+1) a0 a1):=by
 intro a0 a1 k
 have ih0:=spec_Great.mono_l k
 unfold spec_Great.f
 have m0:=@spec_Little.mono
 exact mt
theorem spec_Great.calls (k:Nat) (a0:Int) (a1:Int) (r:List Int) (w:World) (h:spec_Great.f k a0 a1=some r):
  Calls Try.prog 86 #[.int .i64 a0, .int .i64 a1] w fun e w'=>∃ v0_:Value,e= .returned (v0_)∧Kd.R (Kd.int .u8) 5 w' w.heap.size (fun _=>True) v0_ r∧Below w.heap.size w w':=by
 have HB:=Aside0.mk (zbk w.heap.size w)
 have H:((spec_Little.f k a0 a1).bind fun t344=>(spec_Great.l0 k t344 (([]:List Int)) (wrap64 ((t344.length:Int) - 1))))=some r:=h
 clear h
 obtain⟨t344,A3,H⟩:=bnd H
 obtain⟨y347,hy347⟩:∃ y_:List Int,y_=(([]:List Int)):=⟨_,rfl⟩
 replace H:(spec_Great.l0 k t344 y347 (wrap64 ((t344.length:Int) - 1)))=some r:=jrw hy347 H
 have Ny347:=Aside0.mk hy347
 clear hy347
 have H':=Aside0.mk H
 clear H
 go_enter Try.func86,Try.ntmps86
 go_wp2_with (first | (refine jgc 104 ?_;refine jgs 10 Try.func104 #[.int .i64 a0, .int .i64 a1] ?_;(with_reducible refine(spec_Little.calls k a0 a1 t344 _ A3.out).mono ?_);rintro e w4 ⟨v345,rfl,ho0,hb⟩;refine⟨_,rfl,?_⟩;have xb_:=below_ofs bq hb;have n_:=jA2 (zaq ho0 (zah xb_)) (zal xb_ hb);clear HB;obtain⟨HO346,HB⟩:=n_;clear xb_ hb ho0) | (refine jgd 11 ?_;refine jlt 11 (Kd.int .u8) 5 ?_;intro v348 w5 ho6 hb;have xb_:=below_ofs bq hb;(first | rw[← Ny347.out] at ho6 | (simp only[Int.reduceToNat] at ho6;rw[← Ny347.out] at ho6));have qHO346:=Kd.R_ofs (pR HO346.out) hb;have n_:=jA3 (zbp qHO346 (zba ho6) hb) (zaq (zby ho6 (zca qHO346)) (zah xb_)) (zal xb_ hb);clear qHO346 HO346 HB;obtain⟨HO346,HO349,HB⟩:=n_;clear xb_ hb ho6;obtain⟨Ao7,co7,eo7⟩:=zbb HO346.out;subst eo7))
 go_loopg [6,7] k (fun kq v6 v7 w'=>∃ (x6_1:List Int) (x7_1:Int),v7= .int .i64 x7_1∧Aside0 (spec_Great.l0 kq t344 x6_1 x7_1=some r)∧Aside0 (kq≤k)∧Aside0 (Kd.R (Kd.int .u8) 5 w' w.heap.size (fun k_=>some k_≠(v6:Value).ownBlock) (.slice Ao7 t344.length co7) t344)∧Aside0 (Kd.R (Kd.int .u8) 5 w' w.heap.size (fun k_=>some k_≠((.slice Ao7 t344.length co7):Value).ownBlock) v6 x6_1)∧Aside0 (Below w.heap.size w w'))
 case atStart=>exact⟨(y347),(wrap64 ((t344.length:Int) - 1)),jer,H',⟨zav _⟩,⟨by(with_reducible repeat(first | apply zat | apply zau | apply zar));exact zao HO346.out (fun _ hk=>hk.2)⟩,⟨by(with_reducible repeat(first | apply zat | apply zau | apply zar));exact zao HO349.out (fun _ hk=>hk.2)⟩,⟨bq⟩⟩
 case round=>
  clear H'
  try clear c1
  try clear p2
  try clear p6
  obtain⟨x6_1,x7_1,rfl,HA,HK1,HO_5,HO_6,HB⟩:=hrel
  cases gk with
  | zero=>exact absurd HA.out (by simp [spec_Great.l0])
  | succ k1=>
   have H:=HA.out
   clear HA
   simp only[spec_Great.l0] at H
   by_cases c8:x7_1≥0
   ·rw[if_pos c8] at H
    have c8b0:=zab c8
    clear c8
    by_cases c9:0≤x7_1
    ·rw[if_pos c9] at H
     have c9b0:=zab c9
     clear c9
     by_cases c10:x7_1<(t344.length:Int)
     ·rw[if_pos c10] at H
      have c10b0:=zab c10
      clear c10
      by_cases c11:x6_1.length<140737488355328
      ·rw[if_pos c11] at H
       have LMc11:=Aside0.mk c11
       clear c11
       obtain⟨y351,hy351⟩:∃ y_:List Int,y_=(x6_1++[rd t344 x7_1]):=⟨_,rfl⟩
       replace H:(spec_Great.l0 k1 t344 y351 (wrap64 (x7_1 - 1)))=some r:=jrw hy351 H
       have Ny351:=Aside0.mk hy351
       clear hy351
       have H':=Aside0.mk H
       clear H
       have p350:0≤(x7_1:Int):=zad jab
       have q350:x7_1<(t344.length:Int):=zad jab
       obtain⟨ad350,e350,hx350_0⟩:=zcd (zam HO_5.out).2.2 x7_1 p350 q350
       cases e350
       replace p350:=zas p350
       replace q350:=zas q350
       go_wp2_with (first | ((with_reducible refine zde (b:= .append) (xs:= #[.tmp 19, .tmp 24]) rfl ?_);at_builtin;refine zfr (Kd.int .u8) (w0:=w) w.heap.size rfl (.tmp 19) (.tmp 24) 23 5 (.int .u8 0) 1 rfl Try.underlying23 info5 rfl (by decide) (by omega) u6 x6_1 (rd t344 x7_1) [.int .u8 (rd t344 x7_1)] (fun k_=>some k_≠(.slice (some ad350) t344.length co7:Value).ownBlock) (fun _=>False) rfl rfl ?aP (fun _ hk=>hk.elim) ?aF ?aO ?aB ?aS ?aL ?_;(case aP=>exact rfl);(case aB=>exact bq);(case aF=>exact(fun k_ hk=>zdv (zca (pR HO_5.out)) k_ hk));(case aO=>exact(pR HO_6.out));(case aS=>exact(zah bq));(case aL=>have:=LMc11.out;omega);intro v352 w12 ho hb hg hat;rw[← Ny351.out] at ho;have n_:=jA3 (zdu (ok:=(fun _=>True)) (by(with_reducible repeat(first | apply zat | apply zau | apply zar));exact zao HO_5.out (fun _ hk=>⟨trivial,hk⟩)) hg hat) (hb) (ho);clear HO_5 HB HO_6;obtain⟨HO_5,HB,HO353⟩:=n_;clear ho hb hg hat))
       go_roundg k1
       case measure=>have:=HK1.out;omega
       case rel=>exact⟨(y351),(wrap64 (x7_1 - 1)),jer,H',⟨by have:=HK1.out;omega⟩,⟨by(with_reducible repeat(first | apply zat | apply zau | apply zar));exact zao HO_5.out (fun _ hk=>hk.2)⟩,⟨pR HO353.out⟩,⟨bq⟩⟩
      rw[if_neg c11] at H
      exact absurd H (by simp)
     rw[if_neg c10] at H
     exact absurd H (by simp)
    rw[if_neg c9] at H
    exact absurd H (by simp)
   rw[if_neg c8] at H
   have c8b0:=zbj c8
   clear c8
   obtain rfl:=Option.some.inj H
   go_wp2
   go_ret
   exact⟨_,jex,tqR HO_6.out,bq⟩
def spec_HashPad.l0:Nat→List Int→List Int→Option (List Int)
 | 0,_,_=>none
 | k+1,x0,x3=>if((x3.length:Int) % 64)=56 then((spec_Great.f k (wrap64 (8*(x0.length:Int))) 8).bind fun t366=>(if x3.length+t366.length<140737488355328 then(some (x3++t366)) else(none))) else(if x3.length<140737488355328 then(spec_HashPad.l0 k x0 (x3++[0])) else(none))
def spec_HashPad.f (k:Nat) (l0:List Int):Option (List Int):=if(l0.length:Int)>4000 then(some (([]:List Int))) else((some (([]:List Int):List Int)).bind fun y357=>(if y357.length+l0.length<140737488355328 then((some (y357++l0:List Int)).bind fun y360=>(if y360.length<140737488355328 then(spec_HashPad.l0 k l0 (y360++[128])) else(none))) else(none)))
theorem spec_HashPad.mono_l:∀ k,(∀ y0 y1,LeO (spec_HashPad.l0 k y0 y1) (spec_HashPad.l0 (k+1) y0 y1))
 | 0=>fun _ _ r h=>by simp [spec_HashPad.l0] at h
 | k+1=>by
  have ih0:=spec_HashPad.mono_l k
  intro y0 y1
  unfold spec_HashPad.l0
  have m0:=@spec_Great.mono
  exact mt
theorem spec_HashPad.mono:∀ a0 k,LeO (spec_HashPad.f k a0) (spec_HashPad.f (k+1) a0):=by
 intro a0 k
 have ih0:=spec_HashPad.mono_l k
 unfold spec_HashPad.f
 have m0:=@spec_Great.mono
 exact mt
theorem spec_HashPad.calls (k:Nat) (A0:Option Addr) (c0:Nat) (l0:List Int) (r:List Int) (w:World) (hr0:Kd.C (Kd.int .u8) w A0 l0.length l0) (hc0:l0.length≤c0) (h:spec_HashPad.f k l0=some r):
  Calls Try.prog 33 #[.slice A0 l0.length c0] w fun e w'=>∃ v0_:Value,e= .returned (v0_)∧Kd.R (Kd.int .u8) 5 w' w.heap.size (fun _=>True) v0_ r∧Below w.heap.size w w':=by
 have HR0:=Aside0.mk hr0
 have HC0:=Aside0.mk hc0
 clear hr0 hc0
 have HB:=Aside0.mk (zbk w.heap.size w)
 have H:(if(l0.length:Int)>4000 then(some (([]:List Int))) else((some (([]:List Int):List Int)).bind fun y357=>(if y357.length+l0.length<140737488355328 then((some (y357++l0:List Int)).bind fun y360=>(if y360.length<140737488355328 then(spec_HashPad.l0 k l0 (y360++[128])) else(none))) else(none))))=some r:=h
 clear h
 by_cases c2:(l0.length:Int)>4000
 ·rw[if_pos c2] at H
  have c2b0:=zab c2
  have c2b1:decide (4000<l0.length)=true:=zab (by omega)
  clear c2
  obtain⟨y354,hy354⟩:∃ y_:List Int,y_=(([]:List Int)):=⟨_,rfl⟩
  replace H:(some y354)=some r:=jrw hy354 H
  have Ny354:=Aside0.mk hy354
  clear hy354
  obtain rfl:=Option.some.inj H
  go_enter Try.func33,Try.ntmps33
  go_wp2_with (first | (refine jgd 7 ?_;refine jlt 7 (Kd.int .u8) 5 ?_;intro v355 w3 ho4 hb;have xb_:=below_ofs bq hb;(first | rw[← Ny354.out] at ho4 | (simp only[Int.reduceToNat] at ho4;rw[← Ny354.out] at ho4));have n_:=jA2 (zaq ho4 (zah xb_)) (zal xb_ hb);clear HB;obtain⟨HO356,HB⟩:=n_;clear xb_ hb ho4))
  go_ret
  exact⟨_,jex,by(with_reducible repeat(first | apply zat | apply zau | apply zar));exact HO356.out,bq⟩
 rw[if_neg c2] at H
 have c2b0:=zbj c2
 have c2b1:decide (4000<l0.length)=false:=zbj (by omega)
 clear c2
 obtain⟨y357,hy357⟩:∃ y_:List Int,y_=(([]:List Int)):=⟨_,rfl⟩
 replace H:=bto hy357 H
 have Ny357:=Aside0.mk hy357
 clear hy357
 by_cases c5:y357.length+l0.length<140737488355328
 ·rw[if_pos c5] at H
  have LMc5:=Aside0.mk c5
  clear c5
  obtain⟨y360,hy360⟩:∃ y_:List Int,y_=(y357++l0):=⟨_,rfl⟩
  replace H:=bto hy360 H
  have Ny360:=Aside0.mk hy360
  clear hy360
  by_cases c6:y360.length<140737488355328
  ·rw[if_pos c6] at H
   have LMc6:=Aside0.mk c6
   clear c6
   obtain⟨y363,hy363⟩:∃ y_:List Int,y_=(y360++[128]):=⟨_,rfl⟩
   replace H:(spec_HashPad.l0 k l0 y363)=some r:=jrw hy363 H
   have Ny363:=Aside0.mk hy363
   clear hy363
   have H':=Aside0.mk H
   clear H
   go_enter Try.func33,Try.ntmps33
   go_wp2_with (first | (refine jgd 8 ?_;refine jlt 8 (Kd.int .u8) 5 ?_;intro v358 w7 ho8 hb;have xb_:=below_ofs bq hb;(first | rw[← Ny357.out] at ho8 | (simp only[Int.reduceToNat] at ho8;rw[← Ny357.out] at ho8));have n_:=jA2 (zaq ho8 (zah xb_)) (zal xb_ hb);clear HB;obtain⟨HO359,HB⟩:=n_;clear xb_ hb ho8) | ((with_reducible refine zde (b:= .append) (xs:= #[.tmp 8, .tmp 9]) rfl ?_);at_builtin;refine zdw (Kd.int .u8) (w0:=w) w.heap.size rfl (.tmp 8) (.tmp 9) 23 5 (.int .u8 0) 1 rfl Try.underlying23 info5 rfl (by decide) (by omega) v358 y357 l0 _ _ _ (fun _=>True) (fun _=>False) rfl rfl ?aO ?aR (fun _ _ h=>h) (fun _ h=>h.elim) ?aF ?aB ?aS ?aL ?_;(case aR=>exact jcs HR0.out);(case aB=>exact bq);(case aF=>exact(fun _ _=>trivial));(case aO=>exact(pR HO359.out));(case aS=>exact(zah bq));(case aL=>have:=LMc5.out;omega);intro v361 w9 ho hb hg hat;rw[← Ny360.out] at ho;have n_:=jA2 (hb) (ho);clear HB HO359;obtain⟨HB,HO362⟩:=n_;clear ho hb hg hat) | ((with_reducible refine zde (b:= .append) (xs:= #[.tmp 10, .tmp 11]) rfl ?_);at_builtin;refine zfr (Kd.int .u8) (w0:=w) w.heap.size rfl (.tmp 10) (.tmp 11) 23 5 (.int .u8 0) 1 rfl Try.underlying23 info5 rfl (by decide) (by omega) v361 y360 128 [.int .u8 128] (fun _=>True) (fun _=>False) rfl rfl ?aP (fun _ hk=>hk.elim) ?aF ?aO ?aB ?aS ?aL ?_;(case aP=>exact rfl);(case aB=>exact bq);(case aF=>exact(fun _ _=>trivial));(case aO=>exact(pR HO362.out));(case aS=>exact(zah bq));(case aL=>have:=LMc6.out;omega);intro v364 w10 ho hb hg hat;rw[← Ny363.out] at ho;have n_:=jA2 (hb) (ho);clear HB HO362;obtain⟨HB,HO365⟩:=n_;clear ho hb hg hat))
   go_loopg [3] k (fun kq v3 w'=>∃ (x3_1:List Int),Aside0 (spec_HashPad.l0 kq l0 x3_1=some r)∧Aside0 (kq≤k)∧Aside0 (Kd.R (Kd.int .u8) 5 w' w.heap.size (fun _=>True) v3 x3_1)∧Aside0 (Below w.heap.size w w'))
   case atStart=>exact⟨(y363),H',⟨zav _⟩,⟨pR HO365.out⟩,⟨bq⟩⟩
   case round=>
    clear H'
    try clear c2
    try clear c2b0
    try clear c2b1
    try clear p2
    try clear c3
    try clear c5
    try clear c6
    obtain⟨x3_1,HA,HK1,HO_3,HB⟩:=hrel
    cases gk with
    | zero=>exact absurd HA.out (by simp [spec_HashPad.l0])
    | succ k1=>
     have H:=HA.out
     clear HA
     simp only[spec_HashPad.l0] at H
     by_cases c11:((x3_1.length:Int) % 64)=56
     ·rw[if_pos c11] at H
      have c11b0:=beqT c11
      have c11b1:=zdm.mpr c11
      clear c11
      obtain⟨t366,A12,H⟩:=bnd H
      by_cases c13:x3_1.length+t366.length<140737488355328
      ·rw[if_pos c13] at H
       have LMc13:=Aside0.mk c13
       clear c13
       obtain⟨y369,hy369⟩:∃ y_:List Int,y_=(x3_1++t366):=⟨_,rfl⟩
       replace H:(some y369)=some r:=jrw hy369 H
       have Ny369:=Aside0.mk hy369
       clear hy369
       obtain rfl:=Option.some.inj H
       obtain⟨Ao14,co14,eo14⟩:=zbb HO_3.out
       subst eo14
       go_wp2_with (first | (refine jgc 86 ?_;refine jgs 24 Try.func86 #[.int .i64 (wrap64 (8*(l0.length:Int))), .int .i64 8] ?_;(with_reducible refine(spec_Great.calls k1 (wrap64 (8*(l0.length:Int))) 8 t366 _ A12.out).mono ?_);rintro e w15 ⟨v367,rfl,ho0,hb⟩;refine⟨_,rfl,?_⟩;have xb_:=below_ofs bq hb;have qHO_3:=Kd.R_ofs (pR HO_3.out) hb;have n_:=jA3 (zbp qHO_3 (zba ho0) hb) (zaq (zby ho0 (zca qHO_3)) (zah xb_)) (zal xb_ hb);clear qHO_3 HO_3 HB;obtain⟨HO_3,HO368,HB⟩:=n_;clear xb_ hb ho0;obtain⟨Ao17,co17,eo17⟩:=zbb HO368.out;subst eo17) | ((with_reducible refine zde (b:= .append) (xs:= #[.tmp 20, .tmp 24]) rfl ?_);at_builtin;refine zdw (Kd.int .u8) (w0:=w) w.heap.size rfl (.tmp 20) (.tmp 24) 23 5 (.int .u8 0) 1 rfl Try.underlying23 info5 rfl (by decide) (by omega) (.slice Ao14 x3_1.length co14) x3_1 t366 _ _ _ (fun k_=>some k_≠(.slice Ao17 t366.length co17:Value).ownBlock) (fun _=>False) rfl rfl ?aO ?aR (fun _ _ h=>h) (fun _ h=>h.elim) ?aF ?aB ?aS ?aL ?_;(case aR=>repeat(first | exact(zam HO368.out).2.2 | (with_reducible first | apply zbs | apply zbt | apply zcg)));(case aB=>exact bq);(case aF=>exact(fun k_ hk=>zdv (zca (pR HO368.out)) k_ hk));(case aO=>exact(by(with_reducible repeat(first | apply zat | apply zau | apply zar));exact zao HO_3.out (fun _ hk=>hk.2)));(case aS=>exact(zah bq));(case aL=>have:=LMc13.out;omega);intro v370 w16 ho hb hg hat;rw[← Ny369.out] at ho;have n_:=jA3 (zdu (ok:=(fun _=>True)) (pR HO368.out) hg hat) (hb) (ho);clear HO368 HB HO_3;obtain⟨HO368,HB,HO371⟩:=n_;clear ho hb hg hat))
       go_ret
       exact⟨_,jex,tqR HO371.out,bq⟩
      rw[if_neg c13] at H
      exact absurd H (by simp)
     rw[if_neg c11] at H
     have c11b0:=zcl.mpr c11
     have c11b1:=zez.mpr c11
     by_cases c18:x3_1.length<140737488355328
     ·rw[if_pos c18] at H
      have LMc18:=Aside0.mk c18
      clear c18
      obtain⟨y372,hy372⟩:∃ y_:List Int,y_=(x3_1++[0]):=⟨_,rfl⟩
      replace H:(spec_HashPad.l0 k1 l0 y372)=some r:=jrw hy372 H
      have Ny372:=Aside0.mk hy372
      clear hy372
      have H':=Aside0.mk H
      clear H
      obtain⟨Ao19,co19,eo19⟩:=zbb HO_3.out
      subst eo19
      go_wp2_with (first | ((with_reducible refine zde (b:= .append) (xs:= #[.tmp 17, .tmp 18]) rfl ?_);at_builtin;refine zfr (Kd.int .u8) (w0:=w) w.heap.size rfl (.tmp 17) (.tmp 18) 23 5 (.int .u8 0) 1 rfl Try.underlying23 info5 rfl (by decide) (by omega) (.slice Ao19 x3_1.length co19) x3_1 0 [.int .u8 0] (fun _=>True) (fun _=>False) rfl rfl ?aP (fun _ hk=>hk.elim) ?aF ?aO ?aB ?aS ?aL ?_;(case aP=>exact rfl);(case aB=>exact bq);(case aF=>exact(fun _ _=>trivial));(case aO=>exact(pR HO_3.out));(case aS=>exact(zah bq));(case aL=>have:=LMc18.out;omega);intro v373 w20 ho hb hg hat;rw[← Ny372.out] at ho;have n_:=jA2 (hb) (ho);clear HB HO_3;obtain⟨HB,HO374⟩:=n_;clear ho hb hg hat))
      go_roundg k1
      case measure=>have:=HK1.out;omega
      case rel=>exact⟨(y372),H',⟨by have:=HK1.out;omega⟩,⟨pR HO374.out⟩,⟨bq⟩⟩
     rw[if_neg c18] at H
     exact absurd H (by simp)
  rw[if_neg c6] at H
  exact absurd H (by simp)
 rw[if_neg c5] at H
 exact absurd H (by simp)
def spec_HashStart.f:Option (List Int):=some (([1779033703,3144134277,1013904242,2773480762,1359893119,2600822924,528734635,1541459225]:List Int))
theorem spec_HashStart.calls (r:List Int) (w:World) (h:spec_HashStart.f=some r):
  Calls Try.prog 75 #[] w fun e w'=>∃ v0_:Value,e= .returned (v0_)∧Kd.R (Kd.int .i64) 3 w' w.heap.size (fun _=>True) v0_ r∧Below w.heap.size w w':=by
 have HB:=Aside0.mk (zbk w.heap.size w)
 have H:(some (([1779033703,3144134277,1013904242,2773480762,1359893119,2600822924,528734635,1541459225]:List Int)))=some r:=h
 clear h
 obtain⟨y375,hy375⟩:∃ y_:List Int,y_=(([1779033703,3144134277,1013904242,2773480762,1359893119,2600822924,528734635,1541459225]:List Int)):=⟨_,rfl⟩
 replace H:(some y375)=some r:=jrw hy375 H
 have Ny375:=Aside0.mk hy375
 clear hy375
 obtain rfl:=Option.some.inj H
 go_enter Try.func75,Try.ntmps75
 go_wp2_with (first | (refine jgd 1 ?_;refine Kd.R_lit (Kd.int .i64) _ 3 ?hg (N:=1) ?hd (xs:=([1779033703,3144134277,1013904242,2773480762,1359893119,2600822924,528734635,1541459225]:List Int)) (inner:=[.int .i64 1779033703, .int .i64 3144134277, .int .i64 1013904242, .int .i64 2773480762, .int .i64 1359893119, .int .i64 2600822924, .int .i64 528734635, .int .i64 1541459225]) (ok:=fun _=>True) (okp:=fun _=>True) ?hr ?hp (fun _ hk=>hk) trivial (zbk _ _) (zav _) (by simp) ?_;(case hd=>rfl);(case hg=>rfl);(case hr=>first | (go_simp;done) | (go_simp;rfl));(case hp=>exact(zan (show Kd.M (Kd.int .i64) _ _ _ 1779033703 [.int .i64 1779033703] from rfl) (zan (show Kd.M (Kd.int .i64) _ _ _ 3144134277 [.int .i64 3144134277] from rfl) (zan (show Kd.M (Kd.int .i64) _ _ _ 1013904242 [.int .i64 1013904242] from rfl) (zan (show Kd.M (Kd.int .i64) _ _ _ 2773480762 [.int .i64 2773480762] from rfl) (zan (show Kd.M (Kd.int .i64) _ _ _ 1359893119 [.int .i64 1359893119] from rfl) (zan (show Kd.M (Kd.int .i64) _ _ _ 2600822924 [.int .i64 2600822924] from rfl) (zan (show Kd.M (Kd.int .i64) _ _ _ 528734635 [.int .i64 528734635] from rfl) (zan (show Kd.M (Kd.int .i64) _ _ _ 1541459225 [.int .i64 1541459225] from rfl) (zeb _ _))))))))));intro v376 w1 ho2 hb hg_ hnew_;have xb_:=below_ofs bq hb;clear hg_ hnew_;(first | rw[← Ny375.out] at ho2 | (simp only[Int.reduceToNat] at ho2;rw[← Ny375.out] at ho2));have n_:=jA2 (zaq ho2 (zah xb_)) (zal xb_ hb);clear HB;obtain⟨HO377,HB⟩:=n_;clear xb_ hb ho2))
 go_ret
 exact⟨_,jex,by(with_reducible repeat(first | apply zat | apply zau | apply zar));exact HO377.out,bq⟩
end Go.Proofs.Ytienlgcjohpphaa.P
