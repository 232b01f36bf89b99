import Derived.Test.Ytlalkldjpniakaabk9
namespace Go.Proofs.Ytlalkldjpniakaa.P
open Go.RowKit Go.Proofs.YtlalkldjpniakaaW.PrintWords Go.Proofs.YtlalkldjpniakaaW.PrintLast Go.Proofs.YtlalkldjpniakaaW.PrintMore
attribute [local go_sem] zck zcl zdl zdm zbz zca zcm zcn -- for this text's walks alone
set_option linter.unusedVariables false
set_option linter.unusedSimpArgs false
set_option maxHeartbeats 8000000
set_option maxRecDepth 100000

mutual
def spec_Little.j0:Nat→Int→Int→List Int→Bool→Option (List Int)
 | 0,_,_,_,_=>none
 | k+1,x0,x1,x5,x14=>if x14=true then(some x5) else(spec_Little.l0 k x0 x1 x5 0)
def spec_Little.l0:Nat→Int→Int→List Int→Int→Option (List Int)
 | 0,_,_,_,_=>none
 | k+1,x0,x1,x5,x6=>if x6<x1 then(if x5.length<140737488355328 then(spec_Little.l0 k (x0 / 256) x1 (x5++[(Go.bits .and .i64 x0 255) % 256]) (wrap64 (x6+1))) else(none)) else(some x5)
end
def spec_Little.f (k:Nat) (a0:Int) (a1:Int):Option (List Int):=(some (([]:List Int):List Int)).bind fun y445=>(if a0<0 then(spec_Little.j0 k a0 a1 y445 true) else((spec_l1In.f a1 1 8).bind fun t448=>(spec_Little.j0 k a0 a1 y445 (!t448))))
theorem spec_Little.mono_l:∀ k,(∀ y0 y1 y2 y3,LeO (spec_Little.j0 k y0 y1 y2 y3) (spec_Little.j0 (k+1) y0 y1 y2 y3))∧(∀ y0 y1 y2 y3,LeO (spec_Little.l0 k y0 y1 y2 y3) (spec_Little.l0 (k+1) y0 y1 y2 y3))
 | 0=>⟨fun _ _ _ _ r h=>by simp [spec_Little.j0] at h,fun _ _ _ _ r h=>by simp [spec_Little.l0] at h⟩
 | k+1=>by
  obtain⟨ih0,ih1⟩:=spec_Little.mono_l k
  refine⟨?_,?_⟩
  ·intro y0 y1 y2 y3
   unfold spec_Little.j0
   exact mt
  intro y0 y1 y2 y3
  unfold spec_Little.l0
  exact mt
theorem spec_Little.mono:∀ a0 a1 k,LeO (spec_Little.f k a0 a1) (spec_Little.f (k+1) a0 a1):=by
 intro a0 a1 k
 obtain⟨ih0,ih1⟩:=spec_Little.mono_l k
 unfold spec_Little.f
 exact mt
theorem spec_Little.calls (k:Nat) (a0:Int) (a1:Int) (r:List Int) (w:World) (h:spec_Little.f k a0 a1=some r):
  Calls Try.prog 136 #[.int .i64 a0, .int .i64 a1] w fun e w'=>∃ v0_:Value,e= .returned (v0_)∧Kd.R (Kd.int .u8) 5 w' w.heap.size (fun _=>True) v0_ r∧Below w.heap.size w w':=by
 have HB:=Aside0.mk (zbo w.heap.size w)
 have H:((some (([]:List Int):List Int)).bind fun y445=>(if a0<0 then(spec_Little.j0 k a0 a1 y445 true) else((spec_l1In.f a1 1 8).bind fun t448=>(spec_Little.j0 k a0 a1 y445 (!t448)))))=some r:=h
 clear h
 obtain⟨y445,G0⟩:∃ y_:List Int,y_=(([]:List Int)):=⟨_,rfl⟩
 replace H:=bto G0 H
 have I0:=Aside0.mk G0
 clear G0
 have O0:=Aside0.mk H
 clear H
 go_enter Try.func136,Try.ntmps136
 go_upto_region 2 with (first | (refine jgd 7 ?_;refine jlt 7 (Kd.int .u8) 5 ?_;intro v446 w4 K0 hb;have xb_:=below_ofs bq hb;(first | rw[← I0.out] at K0 | (simp only[Int.reduceToNat] at K0;rw[← I0.out] at K0));have n_:=jA2 (zax K0 (zal xb_)) (zac xb_ hb);clear HB;obtain⟨J0,HB⟩:=n_;clear xb_ hb K0))
 (try simp only[Act.put,zaq,zbj,zbk])
 go_cut [14] (fun v14 wc=>∃ (kq:Nat) (C0:Bool),v14= .bool C0∧Aside0 (spec_Little.j0 kq a0 a1 y445 C0=some r)∧Aside0 (kq≤k)∧Aside0 (Kd.R (Kd.int .u8) 5 wc w.heap.size (fun _=>True) v446 y445)∧Aside0 (Below w.heap.size w wc))
 case first=>
  have H:=O0.out
  clear O0
  by_cases c6:a0<0
  ·rw[if_pos c6] at H
   have B0:=zae c6
   clear c6
   (first | rw[B0] | (simp only[i64_w,i32_w];rw[B0]) | skip)
   have H':=Aside0.mk H
   clear H
   go_wp2
   go_meet
   case rel=>exact⟨_,(true),jer,H',⟨by first | omega | exact zaf _⟩,⟨pR J0.out⟩,⟨bq⟩⟩
  rw[if_neg c6] at H
  have B0:=zbf c6
  clear c6
  (first | rw[B0] | (simp only[i64_w,i32_w];rw[B0]) | skip)
  obtain⟨t448,A7,H⟩:=bnd H
  have H':=Aside0.mk H
  clear H
  go_wp2_with (first | (go_at_call 89;(with_reducible refine(spec_l1In.calls a1 1 8 t448 _ A7.out).mono ?_);rintro e w' ⟨rfl,⟨nd,rfl⟩⟩))
  go_meet
  case rel=>exact⟨_,(!t448),jer,H',⟨by first | omega | exact zaf _⟩,⟨pR J0.out⟩,⟨bq⟩⟩
 case rest=>
  clear O0
  try clear c1
  try clear p2
  try clear c6
  try clear B0
  obtain⟨kq,C0,rfl,HA,Q0,D0,HB⟩:=hcut
  cases kq with
  | zero=>exact absurd HA.out (by simp [spec_Little.j0])
  | succ kj2=>
   have H:=HA.out
   clear HA
   simp only[spec_Little.j0] at H
   by_cases c8:C0=true
   ·subst c8
    rw[if_pos rfl] at H
    obtain rfl:=Option.some.inj H
    go_wp2
    go_ret
    exact⟨_,jex,by(with_reducible repeat(first | apply zbl | apply zbm | apply zbs));exact D0.out,bq⟩
   replace c8:=zcp.mpr c8
   subst c8
   rw[if_neg (show ¬(false=true) by decide)] at H
   have H':=Aside0.mk H
   clear H
   go_wp2
   go_loopg [0,5,6] kj2 (fun kq v0 v5 v6 w'=>∃ (o0:Int) (E0:List Int) (F0:Int),v0= .int .i64 o0∧v6= .int .i64 F0∧Aside0 (spec_Little.l0 kq o0 a1 E0 F0=some r)∧Aside0 (kq≤kj2)∧Aside0 (Kd.R (Kd.int .u8) 5 w' w.heap.size (fun _=>True) v5 E0)∧Aside0 (Below w.heap.size w w'))
   case atStart=>exact⟨(a0),(y445),(0),jer,jer,H',⟨zaf _⟩,⟨pR D0.out⟩,⟨bq⟩⟩
   case round=>
    clear H'
    try clear c1
    try clear p2
    try clear c6
    try clear B0
    try clear c8
    try clear p2
    obtain⟨o0,E0,F0,rfl,rfl,HA,R0,D0,HB⟩:=hrel
    cases gk with
    | zero=>exact absurd HA.out (by simp [spec_Little.l0])
    | succ k2=>
     have H:=HA.out
     clear HA
     simp only[spec_Little.l0] at H
     by_cases c9:F0<a1
     ·rw[if_pos c9] at H
      have P0:=zae c9
      clear c9
      by_cases c10:E0.length<140737488355328
      ·rw[if_pos c10] at H
       have LMc10:=Aside0.mk c10
       clear c10
       obtain⟨L0,H0⟩:∃ y_:List Int,y_=(E0++[(Go.bits .and .i64 o0 255) % 256]):=⟨_,rfl⟩
       replace H:(spec_Little.l0 k2 (o0 / 256) a1 L0 (wrap64 (F0+1)))=some r:=jrw H0 H
       have M0:=Aside0.mk H0
       clear H0
       have H':=Aside0.mk H
       clear H
       go_wp2_with (first | ((with_reducible refine zcd (b:= .append) (xs:= #[.tmp 21, .tmp 25]) rfl ?_);at_builtin;refine zhd (Kd.int .u8) (w0:=w) w.heap.size rfl (.tmp 21) (.tmp 25) 29 5 (.int .u8 0) 1 rfl Try.underlying29 info5 rfl (by decide) (by omega) u5 E0 ((Go.bits .and .i64 o0 255) % 256) [.int .u8 ((Go.bits .and .i64 o0 255) % 256)] (fun _=>True) (fun _=>False) rfl rfl ?aP (fun _ hk=>hk.elim) ?aF ?aO ?aB ?aS ?aL ?_;(case aP=>exact rfl);(case aB=>exact bq);(case aF=>exact(fun _ _=>trivial));(case aO=>exact(pR D0.out));(case aS=>exact(zal bq));(case aL=>have:=LMc10.out;omega);intro v450 w11 ho hb hg hat;rw[← M0.out] at ho;have n_:=jA2 (hb) (ho);clear HB D0;obtain⟨HB,N0⟩:=n_;clear ho hb hg hat))
       go_roundg k2
       case measure=>have:=Q0.out;have:=R0.out;omega
       case rel=>exact⟨(o0 / 256),(L0),(wrap64 (F0+1)),jer,jer,H',⟨by have:=Q0.out;have:=R0.out;omega⟩,⟨pR N0.out⟩,⟨bq⟩⟩
      rw[if_neg c10] at H
      exact absurd H (by simp)
     rw[if_neg c9] at H
     have P0:=zbf c9
     clear c9
     obtain rfl:=Option.some.inj H
     go_wp2
     go_ret
     exact⟨_,jex,by(with_reducible repeat(first | apply zbl | apply zbm | apply zbs));exact D0.out,bq⟩
def spec_Great.l0:Nat→List Int→List Int→Int→Option (List Int)
 | 0,_,_,_=>none
 | k+1,x5,x6,x7=>if x7≥0 then(if 0≤x7 then(if x7<(x5.length:Int) then(if x6.length<140737488355328 then(spec_Great.l0 k x5 (x6++[rd x5 x7]) (wrap64 (x7 - 1))) else(none)) else(none)) else(none)) else(some x6)
def spec_Great.f (k:Nat) (a0:Int) (a1:Int):Option (List Int):=(spec_Little.f k a0 a1).bind fun t452=>(spec_Great.l0 k t452 (([]:List Int)) (wrap64 ((t452.length:Int) - 1)))
theorem spec_Great.mono_l:∀ k,(∀ y0 y1 y2,LeO (spec_Great.l0 k y0 y1 y2) (spec_Great.l0 (k+1) y0 y1 y2))
 | 0=>fun _ _ _ r h=>by simp [spec_Great.l0] at h
 | k+1=>by
  have ih0:=spec_Great.mono_l k
  intro y0 y1 y2
  unfold spec_Great.l0
  have m0:=@spec_Little.mono
  exact mt
theorem spec_Great.mono:∀ a0 a1 k,LeO (spec_Great.f k a0 a1) (spec_Great.f (k+1) a0 a1):=by
 intro a0 a1 k
 have ih0:=spec_Great.mono_l k
 unfold spec_Great.f
 have m0:=@spec_Little.mono
 exact mt
theorem spec_Great.calls (k:Nat) (a0:Int) (a1:Int) (r:List Int) (w:World) (h:spec_Great.f k a0 a1=some r):
  Calls Try.prog 107 #[.int .i64 a0, .int .i64 a1] w fun e w'=>∃ v0_:Value,e= .returned (v0_)∧Kd.R (Kd.int .u8) 5 w' w.heap.size (fun _=>True) v0_ r∧Below w.heap.size w w':=by
 have HB:=Aside0.mk (zbo w.heap.size w)
 have H:((spec_Little.f k a0 a1).bind fun t452=>(spec_Great.l0 k t452 (([]:List Int)) (wrap64 ((t452.length:Int) - 1))))=some r:=h
 clear h
 obtain⟨t452,A3,H⟩:=bnd H
 obtain⟨L0,E0⟩:∃ y_:List Int,y_=(([]:List Int)):=⟨_,rfl⟩
 replace H:(spec_Great.l0 k t452 L0 (wrap64 ((t452.length:Int) - 1)))=some r:=jrw E0 H
 have G0:=Aside0.mk E0
 clear E0
 have H':=Aside0.mk H
 clear H
 go_enter Try.func107,Try.ntmps107
 go_wp2_with (first | (refine jgc 136 ?_;refine jgs 10 Try.func136 #[.int .i64 a0, .int .i64 a1] ?_;(with_reducible refine(spec_Little.calls k a0 a1 t452 _ A3.out).mono ?_);rintro e w4 ⟨v453,rfl,ho0,hb⟩;refine⟨_,rfl,?_⟩;have xb_:=below_ofs bq hb;have n_:=jA2 (zax ho0 (zal xb_)) (zac xb_ hb);clear HB;obtain⟨B0,HB⟩:=n_;clear xb_ hb ho0) | (refine jgd 11 ?_;refine jlt 11 (Kd.int .u8) 5 ?_;intro v456 w5 K0 hb;have xb_:=below_ofs bq hb;(first | rw[← G0.out] at K0 | (simp only[Int.reduceToNat] at K0;rw[← G0.out] at K0));have qHO454:=Kd.R_ofs (pR B0.out) hb;have n_:=jA3 (zbx qHO454 (zbg K0) hb) (zax (zdg K0 (zce qHO454)) (zal xb_)) (zac xb_ hb);clear qHO454 B0 HB;obtain⟨B0,M0,HB⟩:=n_;clear xb_ hb K0;obtain⟨X0,U0,n1⟩:=zbd B0.out;subst n1))
 go_loopg [6,7] k (fun kq v6 v7 w'=>∃ (C0:List Int) (o0:Int),v7= .int .i64 o0∧Aside0 (spec_Great.l0 kq t452 C0 o0=some r)∧Aside0 (kq≤k)∧Aside0 (Kd.R (Kd.int .u8) 5 w' w.heap.size (fun k_=>some k_≠(v6:Value).ownBlock) (.slice X0 t452.length U0) t452)∧Aside0 (Kd.R (Kd.int .u8) 5 w' w.heap.size (fun k_=>some k_≠((.slice X0 t452.length U0):Value).ownBlock) v6 C0)∧Aside0 (Below w.heap.size w w'))
 case atStart=>exact⟨(L0),(wrap64 ((t452.length:Int) - 1)),jer,H',⟨zaf _⟩,⟨by(with_reducible repeat(first | apply zbl | apply zbm | apply zbs));exact zam B0.out (fun _ hk=>hk.2)⟩,⟨by(with_reducible repeat(first | apply zbl | apply zbm | apply zbs));exact zam M0.out (fun _ hk=>hk.2)⟩,⟨bq⟩⟩
 case round=>
  clear H'
  try clear c1
  try clear p2
  try clear p6
  obtain⟨C0,o0,rfl,HA,Y0,D0,H0,HB⟩:=hrel
  cases gk with
  | zero=>exact absurd HA.out (by simp [spec_Great.l0])
  | succ k1=>
   have H:=HA.out
   clear HA
   simp only[spec_Great.l0] at H
   by_cases c8:o0≥0
   ·rw[if_pos c8] at H
    have V0:=zae c8
    clear c8
    by_cases c9:0≤o0
    ·rw[if_pos c9] at H
     have C1:=zae c9
     clear c9
     by_cases c10:o0<(t452.length:Int)
     ·rw[if_pos c10] at H
      have Z0:=zae c10
      clear c10
      by_cases S0:C0.length<140737488355328
      ·rw[if_pos S0] at H
       have N0:=Aside0.mk S0
       clear S0
       obtain⟨O0,F0⟩:∃ y_:List Int,y_=(C0++[rd t452 o0]):=⟨_,rfl⟩
       replace H:(spec_Great.l0 k1 t452 O0 (wrap64 (o0 - 1)))=some r:=jrw F0 H
       have P0:=Aside0.mk F0
       clear F0
       have H':=Aside0.mk H
       clear H
       have I0:0≤(o0:Int):=zad jab
       have J0:o0<(t452.length:Int):=zad jab
       obtain⟨Q0,W0,T0⟩:=zfk (zbp D0.out).2.2 o0 I0 J0
       cases W0
       replace I0:=zbr I0
       replace J0:=zbr J0
       go_wp2_with (first | ((with_reducible refine zcd (b:= .append) (xs:= #[.tmp 19, .tmp 24]) rfl ?_);at_builtin;refine zhd (Kd.int .u8) (w0:=w) w.heap.size rfl (.tmp 19) (.tmp 24) 29 5 (.int .u8 0) 1 rfl Try.underlying29 info5 rfl (by decide) (by omega) u6 C0 (rd t452 o0) [.int .u8 (rd t452 o0)] (fun k_=>some k_≠(.slice (some Q0) t452.length U0:Value).ownBlock) (fun _=>False) rfl rfl ?aP (fun _ hk=>hk.elim) ?aF ?aO ?aB ?aS ?aL ?_;(case aP=>exact rfl);(case aB=>exact bq);(case aF=>exact(fun k_ hk=>zdu (zce (pR D0.out)) k_ hk));(case aO=>exact(pR H0.out));(case aS=>exact(zal bq));(case aL=>have:=N0.out;omega);intro v460 w12 ho hb hg hat;rw[← P0.out] at ho;have n_:=jA3 (zdo (ok:=(fun _=>True)) (by(with_reducible repeat(first | apply zbl | apply zbm | apply zbs));exact zam D0.out (fun _ hk=>⟨trivial,hk⟩)) hg hat) (hb) (ho);clear D0 HB H0;obtain⟨D0,HB,R0⟩:=n_;clear ho hb hg hat))
       go_roundg k1
       case measure=>have:=Y0.out;omega
       case rel=>exact⟨(O0),(wrap64 (o0 - 1)),jer,H',⟨by have:=Y0.out;omega⟩,⟨by(with_reducible repeat(first | apply zbl | apply zbm | apply zbs));exact zam D0.out (fun _ hk=>hk.2)⟩,⟨pR R0.out⟩,⟨bq⟩⟩
      rw[if_neg S0] at H
      exact absurd H (by simp)
     rw[if_neg c10] at H
     exact absurd H (by simp)
    rw[if_neg c9] at H
    exact absurd H (by simp)
   rw[if_neg c8] at H
   have V0:=zbf c8
   clear c8
   obtain rfl:=Option.some.inj H
   go_wp2
   go_ret
   exact⟨_,jex,tqR H0.out,bq⟩
end Go.Proofs.Ytlalkldjpniakaa.P
