import Derived.Test.Ytienlgcjohpphaale7
namespace Go.Proofs.Ytienlgcjohpphaa.P
open Go.RowKit Go.Proofs.YtienlgcjohpphaaW.PrintWords Go.Proofs.YtienlgcjohpphaaW.PrintLast Go.Proofs.YtienlgcjohpphaaW.PrintMore
attribute [local go_sem] zcn zco zdk zdl zce zcf zcp zcq -- for this text's walks alone
set_option linter.unusedVariables false
set_option linter.unusedSimpArgs false
set_option maxHeartbeats 8000000
set_option maxRecDepth 100000

def impl_in.f (a0:Int) (a1:Int) (a2:Int):Option (Bool):=if a0≥a1 then(some (decide (a0≤a2))) else(some false)
theorem impl_in.wk {P:Prop} (h:P:=by
 go_enter Try.func94,Try.ntmps94
 go_wp2
 go_ret
 exact⟨by first | rfl | (simp;done) | (simp [*];done),by repeat(first | exact Drawn0.refl _ | apply Drawn0.step)⟩):P:=h
theorem impl_in.calls (a0:Int) (a1:Int) (a2:Int) (r:Bool) (w:World) (h:impl_in.f a0 a1 a2=some r):
  Calls Try.prog 94 #[.int .i64 a0, .int .i64 a1, .int .i64 a2] w fun e w'=>e= .returned (.bool r)∧Drawn0 w w':=by
 have H:(if a0≥a1 then(some (decide (a0≤a2))) else(some false))=some r:=h
 clear h
 by_cases c4:a0≥a1
 ·rw[if_pos c4] at H
  have c4b0:=zab c4
  clear c4
  obtain rfl:=Option.some.inj H
  exact impl_in.wk
 rw[if_neg c4] at H
 have c4b0:=zbj c4
 clear c4
 obtain rfl:=Option.some.inj H
 exact impl_in.wk
mutual
def impl_Little.j0:Nat→Int→Int→Bool→Option (List Int)
 | 0,_,_,_=>none
 | k+1,x0,x1,x12=>if x12=true then(some ([]:List Int)) else(impl_Little.l0 k x0 (([]:List Int)) x1 0)
def impl_Little.l0:Nat→Int→List Int→Int→Int→Option (List Int)
 | 0,_,_,_,_=>none
 | k+1,x0,x5,x14,x15=>if x15<x14 then(if x5.length<140737488355328 then(impl_Little.l0 k (x0 / 256) (x5++[(x0) % 256]) x14 (wrap64 (x15+1))) else(none)) else(some x5)
end
def impl_Little.f (k:Nat) (a0:Int) (a1:Int):Option (List Int):=if a0<0 then(impl_Little.j0 k a0 a1 true) else((impl_in.f a1 1 8).bind fun t419=>(impl_Little.j0 k a0 a1 (!t419)))
theorem impl_Little.mono_l:∀ k,(∀ y0 y1 y2,LeO (impl_Little.j0 k y0 y1 y2) (impl_Little.j0 (k+1) y0 y1 y2))∧(∀ y0 y1 y2 y3,LeO (impl_Little.l0 k y0 y1 y2 y3) (impl_Little.l0 (k+1) y0 y1 y2 y3))
 | 0=>⟨fun _ _ _ r h=>by simp [impl_Little.j0] at h,fun _ _ _ _ r h=>by simp [impl_Little.l0] at h⟩
 | k+1=>by
  obtain⟨ih0,ih1⟩:=impl_Little.mono_l k
  refine⟨?_,?_⟩
  ·intro y0 y1 y2
   unfold impl_Little.j0
   exact mt
  intro y0 y1 y2 y3
  unfold impl_Little.l0
  exact mt
theorem impl_Little.mono:∀ a0 a1 k,LeO (impl_Little.f k a0 a1) (impl_Little.f (k+1) a0 a1):=by
 intro a0 a1 k
 obtain⟨ih0,ih1⟩:=impl_Little.mono_l k
 unfold impl_Little.f
 exact mt
theorem impl_Little.calls (k:Nat) (a0:Int) (a1:Int) (r:List Int) (w:World) (h:impl_Little.f k a0 a1=some r):
  Calls Try.prog 87 #[.int .i64 a0, .int .i64 a1] w fun e w'=>∃ v0_:Value,e= .returned (v0_)∧Kd.R (Kd.int .u8) 5 w' w.heap.size (fun _=>True) v0_ r∧Below w.heap.size w w':=by
 have HB:=Aside0.mk (zbk w.heap.size w)
 have H:(if a0<0 then(impl_Little.j0 k a0 a1 true) else((impl_in.f a1 1 8).bind fun t419=>(impl_Little.j0 k a0 a1 (!t419))))=some r:=h
 clear h
 have HC3:=Aside0.mk H
 clear H
 go_enter Try.func87,Try.ntmps87
 go_upto_region 1 with (fail)
 go_cut [12] (fun v12 wc=>∃ (kq:Nat) (x12_2:Bool),v12= .bool x12_2∧Aside0 (impl_Little.j0 kq a0 a1 x12_2=some r)∧Aside0 (kq≤k)∧Aside0 (Below w.heap.size w wc))
 case first=>
  have H:=HC3.out
  clear HC3
  by_cases c4:a0<0
  ·rw[if_pos c4] at H
   have c4b0:=zab c4
   clear c4
   (first | rw[c4b0] | (simp only[i64_w,i32_w];rw[c4b0]) | skip)
   have H':=Aside0.mk H
   clear H
   go_wp2
   go_meet
   case rel=>exact⟨_,(true),jer,H',⟨by first | omega | exact zav _⟩,⟨bq⟩⟩
  rw[if_neg c4] at H
  have c4b0:=zbj c4
  clear c4
  (first | rw[c4b0] | (simp only[i64_w,i32_w];rw[c4b0]) | skip)
  obtain⟨t419,A5,H⟩:=bnd H
  have H':=Aside0.mk H
  clear H
  go_wp2_with (first | (go_at_call 94;(with_reducible refine(impl_in.calls a1 1 8 t419 _ A5.out).mono ?_);rintro e w' ⟨rfl,⟨nd,rfl⟩⟩))
  go_meet
  case rel=>exact⟨_,(!t419),jer,H',⟨by first | omega | exact zav _⟩,⟨bq⟩⟩
 case rest=>
  clear HC3
  try clear p2
  try clear c4
  try clear c4b0
  obtain⟨kq,x12_2,rfl,HA,HJ2,HB⟩:=hcut
  cases kq with
  | zero=>exact absurd HA.out (by simp [impl_Little.j0])
  | succ kj2=>
   have H:=HA.out
   clear HA
   simp only[impl_Little.j0] at H
   by_cases c6:x12_2=true
   ·subst c6
    rw[if_pos rfl] at H
    obtain rfl:=Option.some.inj H
    go_wp2
    go_ret
    exact⟨_,jex,by first | exact Kd.R_nil _ _ _ _ _ | exact Kd.N_nil _ _ _ _ _ | exact Kd.V_nil _ _ _ _ _ | exact Kd.Q_nil _ _ _ _ _ | exact Kd.S_nil _ _ _ _ _,bq⟩
   replace c6:=zds.mpr c6
   subst c6
   rw[if_neg (show ¬(false=true) by decide)] at H
   obtain⟨y420,hy420⟩:∃ y_:List Int,y_=(([]:List Int)):=⟨_,rfl⟩
   replace H:(impl_Little.l0 kj2 a0 y420 a1 0)=some r:=jrw hy420 H
   have Ny420:=Aside0.mk hy420
   clear hy420
   have H':=Aside0.mk H
   clear H
   go_wp2_with (first | (refine jgd 13 ?_;refine jlt 13 (Kd.int .u8) 5 ?_;intro v421 w7 ho8 hb;have xb_:=below_ofs bq hb;(first | rw[← Ny420.out] at ho8 | (simp only[Int.reduceToNat] at ho8;rw[← Ny420.out] at ho8));have n_:=jA2 (zaq ho8 (zah xb_)) (zal xb_ hb);clear HB;obtain⟨HO422,HB⟩:=n_;clear xb_ hb ho8))
   go_loopg [0,5,15] kj2 (fun kq v0 v5 v15 w'=>∃ (x0_2:Int) (x5_2:List Int) (x15_2:Int),v0= .int .i64 x0_2∧v15= .int .i64 x15_2∧Aside0 (impl_Little.l0 kq x0_2 x5_2 a1 x15_2=some r)∧Aside0 (kq≤kj2)∧Aside0 (Kd.R (Kd.int .u8) 5 w' w.heap.size (fun _=>True) v5 x5_2)∧Aside0 (Below w.heap.size w w'))
   case atStart=>exact⟨(a0),(y420),(0),jer,jer,H',⟨zav _⟩,⟨pR HO422.out⟩,⟨bq⟩⟩
   case round=>
    clear H'
    try clear p2
    try clear c4
    try clear c4b0
    try clear c6
    try clear c8
    try clear p2
    obtain⟨x0_2,x5_2,x15_2,rfl,rfl,HA,HK2,HO_5,HB⟩:=hrel
    cases gk with
    | zero=>exact absurd HA.out (by simp [impl_Little.l0])
    | succ k2=>
     have H:=HA.out
     clear HA
     simp only[impl_Little.l0] at H
     by_cases c9:x15_2<a1
     ·rw[if_pos c9] at H
      have c9b0:=zab c9
      clear c9
      by_cases c10:x5_2.length<140737488355328
      ·rw[if_pos c10] at H
       have LMc10:=Aside0.mk c10
       clear c10
       obtain⟨y423,hy423⟩:∃ y_:List Int,y_=(x5_2++[(x0_2) % 256]):=⟨_,rfl⟩
       replace H:(impl_Little.l0 k2 (x0_2 / 256) y423 a1 (wrap64 (x15_2+1)))=some r:=jrw hy423 H
       have Ny423:=Aside0.mk hy423
       clear hy423
       have H':=Aside0.mk H
       clear H
       go_wp2_with (first | ((with_reducible refine zde (b:= .append) (xs:= #[.tmp 17, .tmp 20]) rfl ?_);at_builtin;refine zfr (Kd.int .u8) (w0:=w) w.heap.size rfl (.tmp 17) (.tmp 20) 23 5 (.int .u8 0) 1 rfl Try.underlying23 info5 rfl (by decide) (by omega) u5 x5_2 ((x0_2) % 256) [.int .u8 ((x0_2) % 256)] (fun _=>True) (fun _=>False) rfl rfl ?aP (fun _ hk=>hk.elim) ?aF ?aO ?aB ?aS ?aL ?_;(case aP=>exact rfl);(case aB=>exact bq);(case aF=>exact(fun _ _=>trivial));(case aO=>exact(pR HO_5.out));(case aS=>exact(zah bq));(case aL=>have:=LMc10.out;omega);intro v424 w11 ho hb hg hat;rw[← Ny423.out] at ho;have n_:=jA2 (hb) (ho);clear HB HO_5;obtain⟨HB,HO425⟩:=n_;clear ho hb hg hat))
       go_roundg k2
       case measure=>have:=HJ2.out;have:=HK2.out;omega
       case rel=>exact⟨(x0_2 / 256),(y423),(wrap64 (x15_2+1)),jer,jer,H',⟨by have:=HJ2.out;have:=HK2.out;omega⟩,⟨pR HO425.out⟩,⟨bq⟩⟩
      rw[if_neg c10] at H
      exact absurd H (by simp)
     rw[if_neg c9] at H
     have c9b0:=zbj c9
     clear c9
     obtain rfl:=Option.some.inj H
     go_wp2
     go_ret
     exact⟨_,jex,by(with_reducible repeat(first | apply zat | apply zau | apply zar));exact HO_5.out,bq⟩
def impl_turned.l0:Nat→List Int→List Int→List Int→Int→Int→Option (List Int)
 | 0,_,_,_,_,_=>none
 | k+1,x0,x3,x9,x10,x11=>if x11<x10 then(if 0≤x11 then(if x11<(x9.length:Int) then(if 0≤(wrap64 ((wrap64 ((x0.length:Int) - 1)) - x11)) then(if(wrap64 ((wrap64 ((x0.length:Int) - 1)) - x11))<(x3.length:Int) then(impl_turned.l0 k x0 (x3.set ((wrap64 ((wrap64 ((x0.length:Int) - 1)) - x11)):Int).toNat (rd x9 x11)) x9 x10 (wrap64 (x11+1))) else(none)) else(none)) else(none)) else(none)) else(some x3)
def impl_turned.f (k:Nat) (l0:List Int):Option (List Int):=if 0≤(l0.length:Int) then(if((l0.length:Int):Int).toNat≤281474976710656 then(impl_turned.l0 k l0 (List.replicate ((l0.length:Int):Int).toNat 0) l0 (l0.length:Int) 0) else(none)) else(none)
theorem impl_turned.mono_l:∀ k,(∀ y0 y1 y2 y3 y4,LeO (impl_turned.l0 k y0 y1 y2 y3 y4) (impl_turned.l0 (k+1) y0 y1 y2 y3 y4))
 | 0=>fun _ _ _ _ _ r h=>by simp [impl_turned.l0] at h
 | k+1=>by
  have ih0:=impl_turned.mono_l k
  intro y0 y1 y2 y3 y4
  unfold impl_turned.l0
  exact mt
theorem impl_turned.mono:∀ a0 k,LeO (impl_turned.f k a0) (impl_turned.f (k+1) a0):=by
 intro a0 k
 have ih0:=impl_turned.mono_l k
 unfold impl_turned.f
 exact mt
theorem impl_turned.calls (k:Nat) (A0:Option Addr) (c0:Nat) (l0:List Int) (r:List Int) (w:World) (hr0:Kd.C (Kd.int .u8) w A0 l0.length l0) (hc0:l0.length≤c0) (h:impl_turned.f k l0=some r):
  Calls Try.prog 106 #[.slice A0 l0.length c0] w fun e w'=>∃ v0_:Value,e= .returned (v0_)∧Kd.R (Kd.int .u8) 5 w' w.heap.size (fun _=>True) v0_ r∧Below w.heap.size w w':=by
 have HR0:=Aside0.mk hr0
 have HC0:=Aside0.mk hc0
 clear hr0 hc0
 have HB:=Aside0.mk (zbk w.heap.size w)
 have H:(if 0≤(l0.length:Int) then(if((l0.length:Int):Int).toNat≤281474976710656 then(impl_turned.l0 k l0 (List.replicate ((l0.length:Int):Int).toNat 0) l0 (l0.length:Int) 0) else(none)) else(none))=some r:=h
 clear h
 by_cases c2:0≤(l0.length:Int)
 ·rw[if_pos c2] at H
  have c2b0:=zas c2
  have c2b1:=zab c2
  clear c2
  by_cases c3:((l0.length:Int):Int).toNat≤281474976710656
  ·rw[if_pos c3] at H
   have c3b0:=zas c3
   have c3b1:=zab c3
   clear c3
   obtain⟨y426,hy426⟩:∃ y_:List Int,y_=(List.replicate ((l0.length:Int):Int).toNat 0):=⟨_,rfl⟩
   replace H:(impl_turned.l0 k l0 y426 l0 (l0.length:Int) 0)=some r:=jrw hy426 H
   have Ny426:=Aside0.mk hy426
   clear hy426
   have H':=Aside0.mk H
   clear H
   go_enter Try.func106,Try.ntmps106
   go_wp2_with (first | (refine jgd 8 ?_;refine Kd.R_make (Kd.int .u8) _ 5 rfl (N:=8) rfl 23 _ _ rfl (l0.length:Int) rfl rfl Try.underlying23 (.int .u8 0) 1 info5 rfl (by decide) (by omega) 0 (ok:=fun _=>True) (okp:=fun _=>True) rfl (fun _ hk=>hk) trivial (zad jab) (zdo (Nat.mul_le_mul_right _ (zad jab:(l0.length:Int).toNat≤281474976710656)) (by omega)) (zbk _ _) (zav _) ?_;intro v427 w4 ho5 hb hg_ hnew_;have xb_:=below_ofs bq hb;clear hg_ hnew_;(first | rw[← Ny426.out] at ho5 | (simp only[Int.reduceToNat] at ho5;rw[← Ny426.out] at ho5));have n_:=jA2 (zaq ho5 (zah xb_)) (zal xb_ hb);clear HB;obtain⟨HO428,HB⟩:=n_;clear xb_ hb ho5))
   go_loopg [11] k (fun kq v11 w'=>∃ (x3_1:List Int) (x11_1:Int),v11= .int .i64 x11_1∧Aside0 (impl_turned.l0 kq l0 x3_1 l0 (l0.length:Int) x11_1=some r)∧Aside0 (kq≤k)∧Aside0 (Kd.R (Kd.int .u8) 5 w' w.heap.size (fun _=>True) v427 x3_1)∧Aside0 (Below w.heap.size w w'))
   case atStart=>exact⟨(y426),(0),jer,H',⟨zav _⟩,⟨pR HO428.out⟩,⟨bq⟩⟩
   case round=>
    clear H'
    try clear c1
    try clear c2
    try clear c2b0
    try clear c2b1
    try clear p2
    try clear c3
    try clear c3b0
    try clear c3b1
    obtain⟨x3_1,x11_1,rfl,HA,HK1,HO_3,HB⟩:=hrel
    cases gk with
    | zero=>exact absurd HA.out (by simp [impl_turned.l0])
    | succ k1=>
     have H:=HA.out
     clear HA
     simp only[impl_turned.l0] at H
     by_cases c6:x11_1<(l0.length:Int)
     ·rw[if_pos c6] at H
      have c6b0:=zab c6
      clear c6
      by_cases c7:0≤x11_1
      ·rw[if_pos c7] at H
       have c7b0:=zab c7
       clear c7
       by_cases c8:x11_1<(l0.length:Int)
       ·rw[if_pos c8] at H
        have c8b0:=zab c8
        clear c8
        obtain⟨ji9,hji9⟩:∃ j_:Int,(wrap64 ((wrap64 ((l0.length:Int) - 1)) - x11_1))=j_:=⟨_,rfl⟩
        replace H:(if 0≤(ji9) then(if(ji9)<(x3_1.length:Int) then(impl_turned.l0 k1 l0 (x3_1.set ((ji9):Int).toNat (rd l0 x11_1)) l0 (l0.length:Int) (wrap64 (x11_1+1))) else(none)) else(none))=some r:=by first | (rw[hji9] at H;exact H) | (simp only[hji9] at H ⊢;exact H)
        have hji9w:(IntKind.i64.wrap ((wrap64 ((l0.length:Int) - 1)) - x11_1))=ji9:=(i64_w _).trans hji9
        by_cases c10:0≤(ji9)
        ·rw[if_pos c10] at H
         have c10b0:=zab c10
         clear c10
         by_cases c11:(ji9)<(x3_1.length:Int)
         ·rw[if_pos c11] at H
          have c11b0:=zab c11
          clear c11
          obtain⟨y430,hy430⟩:∃ y_:List Int,y_=(x3_1.set ((ji9):Int).toNat (rd l0 x11_1)):=⟨_,rfl⟩
          replace H:(impl_turned.l0 k1 l0 y430 l0 (l0.length:Int) (wrap64 (x11_1+1)))=some r:=jrw hy430 H
          have Ny430:=Aside0.mk hy430
          clear hy430
          have H':=Aside0.mk H
          clear H
          have p429:0≤(x11_1:Int):=zad jab
          have q429:x11_1<(l0.length:Int):=zad jab
          obtain⟨ad429,e429,hx429_0⟩:=zcd HR0.out x11_1 p429 q429
          cases e429
          replace hx429_0:=jcB HB.out hx429_0
          replace p429:=zas p429
          replace q429:=zas q429
          have p12:0≤((ji9):Int):=zad jab
          have q12:((ji9):Int)<((x3_1.length:Int):Int):=zad jab
          obtain⟨go12,co12,eo12,gb12,gl12,cl12,HG12⟩:=Kd.R_form HO_3.out (by omega)
          (first | cases eo12 | (injection eo12 with ea_ en_ ec_;(first | subst ea_ | (injection ea_ with ea_;subst ea_));subst ec_;clear en_))
          have GB12:=Aside0.mk gb12
          have GG12:=Aside0.mk HG12
          clear gb12 gl12 HG12
          obtain⟨hx12_0,hf12_0⟩:=Kd.R_celln 0 HO_3.out ((ji9):Int) p12 q12
          replace p12:=zas p12
          replace q12:=zas q12
          have HP13:=Kd.R_putg HO_3.out ((ji9):Int) (rd l0 x11_1)
          go_wp2_with (first | ((with_reducible refine gate_store (t:=5) (p:=23) rfl ?_);refine store_event (t:=5) (p:=23) (v:=?vo_w14) (w1:=(wr.setCell ⟨go12,((ji9):Int).toNat,none⟩ (.int .u8 (rd l0 x11_1)))) ?hg ?ho ?hn ?hr ?_;(case ho=>rfl);(case hg=>rfl);(case hn=>rfl);(case hr=>first | (go_simp;done) | (go_simp;rfl));intro w14 hw;have hg:wr.grownBy w14 (some go12):=(by rw[hw];exact HP13.2);have hp_:Kd.R (Kd.int .u8) 5 w14 w.heap.size (fun _=>True) (.slice (some ⟨go12,0,none⟩) x3_1.length co12) y430:=(by rw[hw,Ny430.out];exact HP13.1);clear HP13;have n_:=jA2 (hp_) (by rw[hw];exact zbf (HB.out) GB12.out:Below w.heap.size w w14);clear HO_3 HB;obtain⟨HO_3,HB⟩:=n_;clear hg hw hp_))
          go_roundg k1
          case measure=>have:=HK1.out;omega
          case rel=>exact⟨(y430),(wrap64 (x11_1+1)),jer,H',⟨by have:=HK1.out;omega⟩,⟨pR HO_3.out⟩,⟨bq⟩⟩
         rw[if_neg c11] at H
         exact absurd H (by simp)
        rw[if_neg c10] at H
        exact absurd H (by simp)
       rw[if_neg c8] at H
       exact absurd H (by simp)
      rw[if_neg c7] at H
      exact absurd H (by simp)
     rw[if_neg c6] at H
     have c6b0:=zbj c6
     clear c6
     obtain rfl:=Option.some.inj H
     go_wp2
     go_ret
     exact⟨_,jex,by(with_reducible repeat(first | apply zat | apply zau | apply zar));exact HO_3.out,bq⟩
  rw[if_neg c3] at H
  exact absurd H (by simp)
 rw[if_neg c2] at H
 exact absurd H (by simp)
def impl_Great.f (k:Nat) (a0:Int) (a1:Int):Option (List Int):=(impl_Little.f k a0 a1).bind fun t431=>((impl_turned.f k t431).bind fun t434=>(some t434))
theorem impl_Great.mono:∀ a0 a1 k,LeO (impl_Great.f k a0 a1) (impl_Great.f (k+1) a0 a1):=by
 intro a0 a1 k
 unfold impl_Great.f
 have m0:=@impl_Little.mono
 have m1:=@impl_turned.mono
 exact mt
theorem impl_Great.calls (k:Nat) (a0:Int) (a1:Int) (r:List Int) (w:World) (h:impl_Great.f k a0 a1=some r):
  Calls Try.prog 80 #[.int .i64 a0, .int .i64 a1] w fun e w'=>∃ v0_:Value,e= .returned (v0_)∧Kd.R (Kd.int .u8) 5 w' w.heap.size (fun _=>True) v0_ r∧Below w.heap.size w w':=by
 have HB:=Aside0.mk (zbk w.heap.size w)
 have H:((impl_Little.f k a0 a1).bind fun t431=>((impl_turned.f k t431).bind fun t434=>(some t434)))=some r:=h
 clear h
 obtain⟨t431,A3,H⟩:=bnd H
 obtain⟨t434,A4,H⟩:=bnd H
 obtain rfl:=Option.some.inj H
 go_enter Try.func80,Try.ntmps80
 go_wp2_with (first | (refine jgc 87 ?_;refine jgs 7 Try.func87 #[.int .i64 a0, .int .i64 a1] ?_;(with_reducible refine(impl_Little.calls k a0 a1 t431 _ A3.out).mono ?_);rintro e w5 ⟨v432,rfl,ho0,hb⟩;refine⟨_,rfl,?_⟩;have xb_:=below_ofs bq hb;have n_:=jA2 (zaq ho0 (zah xb_)) (zal xb_ hb);clear HB;obtain⟨HO433,HB⟩:=n_;clear xb_ hb ho0;obtain⟨Ao6,co6,eo6⟩:=zbb HO433.out;subst eo6) | (refine jgc 106 ?_;refine jgs 8 Try.func106 #[.slice Ao6 t431.length co6] ?_;(with_reducible refine(impl_turned.calls k _ _ t431 t434 _ ?side1 ?side2 A4.out).mono ?_);(case side1=>repeat(first | exact(zam HO433.out).2.2 | (with_reducible first | apply zbs | apply zbt | apply zcg)));(case side2=>exact(zam HO433.out).2.1);rintro e w7 ⟨v435,rfl,ho0,hb⟩;refine⟨_,rfl,?_⟩;have xb_:=below_ofs bq hb;have qHO433:=Kd.R_ofs (pR HO433.out) hb;have n_:=jA3 (zbp qHO433 (zba ho0) hb) (zaq (zby ho0 (zca qHO433)) (zah xb_)) (zal xb_ hb);clear qHO433 HO433 HB;obtain⟨HO433,HO436,HB⟩:=n_;clear xb_ hb ho0))
 go_ret
 exact⟨_,jex,tqR HO436.out,bq⟩
def impl_HashPad.l0:Nat→List Int→List Int→Option (List Int)
 | 0,_,_=>none
 | k+1,x0,x3=>if((x3.length:Int) % 64)=56 then((impl_Great.f k (wrap64 (8*(x0.length:Int))) 8).bind fun t446=>(if x3.length+t446.length<140737488355328 then(some (x3++t446)) else(none))) else(if x3.length<140737488355328 then(impl_HashPad.l0 k x0 (x3++[0])) else(none))
def impl_HashPad.f (k:Nat) (l0:List Int):Option (List Int):=if(l0.length:Int)>4000 then(some ([]:List Int)) else((impl_joined.f (([l0,(([128]:List Int))]:List (List Int)))).bind fun t443=>(impl_HashPad.l0 k l0 t443))
theorem impl_HashPad.mono_l:∀ k,(∀ y0 y1,LeO (impl_HashPad.l0 k y0 y1) (impl_HashPad.l0 (k+1) y0 y1))
 | 0=>fun _ _ r h=>by simp [impl_HashPad.l0] at h
 | k+1=>by
  have ih0:=impl_HashPad.mono_l k
  intro y0 y1
  unfold impl_HashPad.l0
  have m0:=@impl_Great.mono
  exact mt
theorem impl_HashPad.mono:∀ a0 k,LeO (impl_HashPad.f k a0) (impl_HashPad.f (k+1) a0):=by
 intro a0 k
 have ih0:=impl_HashPad.mono_l k
 unfold impl_HashPad.f
 have m0:=@impl_Great.mono
 exact mt
theorem impl_HashPad.calls (k:Nat) (P0_:Nat→Prop) (A0:Option Addr) (c0:Nat) (l0:List Int) (r:List Int) (w:World) (hs0:Kd.V (Kd.int .u8) 5 w w.heap.size (fun k_=>P0_ k_) (.slice A0 l0.length c0) l0) (h:impl_HashPad.f k l0=some r):
  Calls Try.prog 29 #[.slice A0 l0.length c0] w fun e w'=>∃ v0_:Value,e= .returned (v0_)∧Kd.R (Kd.int .u8) 5 w' w.heap.size (fun k_=>(w.heap.size≤k_)) v0_ r∧Below w.heap.size w w':=by
 have HO0:=Aside0.mk (show Kd.V (Kd.int .u8) 5 w w.heap.size (fun k_=>(P0_ k_∨w.heap.size≤k_)) (.slice A0 l0.length c0) l0 from zbh hs0 (fun k_ hk=> .inl hk))
 have HB:=Aside0.mk (zbk w.heap.size w)
 have H:(if(l0.length:Int)>4000 then(some ([]:List Int)) else((impl_joined.f (([l0,(([128]:List Int))]:List (List Int)))).bind fun t443=>(impl_HashPad.l0 k l0 t443)))=some r:=h
 clear h
 by_cases c2:(l0.length:Int)>4000
 ·rw[if_pos c2] at H
  have c2b0:=zab c2
  have c2b1:decide (4000<l0.length)=true:=zab (by omega)
  clear c2
  obtain rfl:=Option.some.inj H
  go_enter Try.func29,Try.ntmps29
  go_wp2
  go_ret
  exact⟨_,jex,by first | exact Kd.R_nil _ _ _ _ _ | exact Kd.N_nil _ _ _ _ _ | exact Kd.V_nil _ _ _ _ _ | exact Kd.Q_nil _ _ _ _ _ | exact Kd.S_nil _ _ _ _ _,bq⟩
 rw[if_neg c2] at H
 have c2b0:=zbj c2
 have c2b1:decide (4000<l0.length)=false:=zbj (by omega)
 clear c2
 obtain⟨y437,hy437⟩:∃ y_:List Int,y_=(([128]:List Int)):=⟨_,rfl⟩
 replace H:((impl_joined.f (([l0,y437]:List (List Int)))).bind fun t443=>(impl_HashPad.l0 k l0 t443))=some r:=jrw hy437 H
 have Ny437:=Aside0.mk hy437
 clear hy437
 obtain⟨y440,hy440⟩:∃ y_:List (List Int),y_=(([l0,y437]:List (List Int))):=⟨_,rfl⟩
 replace H:((impl_joined.f y440).bind fun t443=>(impl_HashPad.l0 k l0 t443))=some r:=jrw hy440 H
 have Ny440:=Aside0.mk hy440
 clear hy440
 obtain⟨t443,A3,H⟩:=bnd H
 have H':=Aside0.mk H
 clear H
 go_enter Try.func29,Try.ntmps29
 go_wp2_with (first | (refine jgd 8 ?_;refine Kd.R_lit (Kd.int .u8) _ 5 ?hg (N:=8) ?hd (xs:=([128]:List Int)) (inner:=[.int .u8 128]) (ok:=fun _=>True) (okp:=fun _=>True) ?hr ?hp (fun _ hk=>hk) trivial (zbk _ _) (zav _) (by simp) ?_;(case hd=>rfl);(case hg=>rfl);(case hr=>first | (go_simp;done) | (go_simp;rfl));(case hp=>exact(zan (show Kd.M (Kd.int .u8) _ _ _ 128 [.int .u8 128] from rfl) (zeb _ _)));intro v438 w4 ho5 hb hg_ hnew_;have xb_:=below_ofs bq hb;clear hg_ hnew_;(first | rw[← Ny437.out] at ho5 | (simp only[Int.reduceToNat] at ho5;rw[← Ny437.out] at ho5));have n_:=jA3 (zbw (pV HO0.out) (zba ho5) hb) (zaq (zfx (M:=fun k_=>(w.heap.size≤k_)) ho5 (zah xb_) (fun k_ h_=>h_)) (zah xb_)) (zal xb_ hb);clear HO0 HB;obtain⟨HO0,HO439,HB⟩:=n_;clear xb_ hb ho5;obtain⟨Ao6,co6,eo6⟩:=zbb HO439.out;subst eo6) | (refine jgd 9 ?_;refine Kd.N_lit (Kd.slice 5 (Kd.int .u8)) _ 23 ?hg (N':=9) ?hd (xs:=([l0,y437]:List (List Int))) (inner:=[.slice A0 l0.length c0, .slice Ao6 y437.length co6]) (ok:=(fun k_=>(P0_ k_∨w.heap.size≤k_))) (okp:=(fun k_=>(P0_ k_∨w.heap.size≤k_))) ?hr ?hp (fun _ hk=>hk) ((show ∀ k_,w4.heap.size≤k_→(fun k_=>(P0_ k_∨w.heap.size≤k_)) k_ from fun k_ hk=>(.inr (zdo (zah bq) hk))) _ (zav _)) (zbk _ _) (zav _) (by simp) ?_;(case hd=>rfl);(case hg=>rfl);(case hr=>first | (go_simp;done) | (go_simp;rfl));(case hp=>exact(zan (show Kd.FK (Kd.slice 5 (Kd.int .u8)) _ _ l0 [.slice A0 l0.length c0] from(zcy (zbx (zbh (ok':=(fun k_=>(P0_ k_∨w.heap.size≤k_))) (HO0.out) (fun k_ hk=>hk.1))).2.1 (Kd.V_F (zbh (ok':=(fun k_=>(P0_ k_∨w.heap.size≤k_))) (HO0.out) (fun k_ hk=>hk.1))))) (zan (show Kd.FK (Kd.slice 5 (Kd.int .u8)) _ _ y437 [.slice Ao6 y437.length co6] from(zcy (zam (zao (ok':=(fun k_=>(P0_ k_∨w.heap.size≤k_))) (HO439.out) (fun k_ hk=>(.inr (hk.1))))).2.1 (Kd.R_F (zao (ok':=(fun k_=>(P0_ k_∨w.heap.size≤k_))) (HO439.out) (fun k_ hk=>(.inr (hk.1))))))) (zeb _ _))));intro v441 w7 ho8 hb hg_ hnew_;have xb_:=below_ofs bq hb;clear hg_ hnew_;(first | rw[← Ny440.out] at ho8 | (simp only[Int.reduceToNat] at ho8;rw[← Ny440.out] at ho8));have n_:=jA3 (zbw (pV HO0.out) (zea ho8) hb) (zfe ho8 (zah xb_)) (zal xb_ hb);clear HO0 HB HO439;obtain⟨HO0,HO442,HB⟩:=n_;clear xb_ hb ho8;obtain⟨Ao9,co9,eo9⟩:=zge HO442.out;subst eo9) | (refine jgc 79 ?_;refine jgs 10 Try.func79 #[.slice Ao9 y440.length co9] ?_;(with_reducible refine(impl_joined.calls _ _ y440 t443 _ ?side1 ?side2 A3.out).mono ?_);(case side1=>repeat(first | exact(zee HO442.out).2.2 | (with_reducible first | apply zbs | apply zbt | apply zcg)));(case side2=>exact(zee HO442.out).2.1);rintro e w10 ⟨v444,rfl,ho0,hb⟩;refine⟨_,rfl,?_⟩;have xb_:=below_ofs bq hb;have n_:=jA4 (zbw (pV HO0.out) (zba ho0) hb) (zew (pN HO442.out) (zba ho0) hb) (zaq (zfx (M:=fun k_=>(w.heap.size≤k_)) ho0 (zah xb_) (fun k_ h_=>h_)) (zah xb_)) (zal xb_ hb);clear HO0 HO442 HB;obtain⟨HO0,HO442,HO445,HB⟩:=n_;clear xb_ hb ho0))
 go_loopg [3] k (fun kq v3 w'=>∃ (x3_1:List Int),Aside0 (impl_HashPad.l0 kq l0 x3_1=some r)∧Aside0 (kq≤k)∧Aside0 (Kd.V (Kd.int .u8) 5 w' w.heap.size (fun k_=>(P0_ k_∨w.heap.size≤k_)∧some k_≠(v3:Value).ownBlock) (.slice A0 l0.length c0) l0)∧Aside0 (Kd.R (Kd.int .u8) 5 w' w.heap.size (fun k_=>(w.heap.size≤k_)) v3 x3_1)∧Aside0 (Below w.heap.size w w'))
 case atStart=>exact⟨(t443),H',⟨zav _⟩,⟨by(with_reducible repeat(first | apply zbn | apply zbo | apply zbu));exact zbh HO0.out (fun _ hk=>⟨hk.1.1.1,hk.2⟩)⟩,⟨by(with_reducible repeat(first | apply zat | apply zau | apply zar));exact zao HO445.out (fun _ hk=>hk.1)⟩,⟨bq⟩⟩
 case round=>
  clear H'
  try clear c2
  try clear c2b0
  try clear c2b1
  try clear p2
  try clear c7
  obtain⟨x3_1,HA,HK1,HO_0,HO_3,HB⟩:=hrel
  cases gk with
  | zero=>exact absurd HA.out (by simp [impl_HashPad.l0])
  | succ k1=>
   have H:=HA.out
   clear HA
   simp only[impl_HashPad.l0] at H
   by_cases c11:((x3_1.length:Int) % 64)=56
   ·rw[if_pos c11] at H
    have c11b0:=beqT c11
    have c11b1:=zdm.mpr c11
    clear c11
    obtain⟨t446,A12,H⟩:=bnd H
    by_cases c13:x3_1.length+t446.length<140737488355328
    ·rw[if_pos c13] at H
     have LMc13:=Aside0.mk c13
     clear c13
     obtain⟨y449,hy449⟩:∃ y_:List Int,y_=(x3_1++t446):=⟨_,rfl⟩
     replace H:(some y449)=some r:=jrw hy449 H
     have Ny449:=Aside0.mk hy449
     clear hy449
     obtain rfl:=Option.some.inj H
     obtain⟨Ao14,co14,eo14⟩:=zbb HO_3.out
     subst eo14
     go_wp2_with (first | (refine jgc 80 ?_;refine jgs 22 Try.func80 #[.int .i64 (wrap64 (8*(l0.length:Int))), .int .i64 8] ?_;(with_reducible refine(impl_Great.calls k1 (wrap64 (8*(l0.length:Int))) 8 t446 _ A12.out).mono ?_);rintro e w15 ⟨v447,rfl,ho0,hb⟩;refine⟨_,rfl,?_⟩;have xb_:=below_ofs bq hb;have n0_:=Aside0.mk (zbw (pV HO_0.out) (zba ho0) hb);have qHO_3:=Kd.R_ofs (pR HO_3.out) hb;have n1_:=Aside0.mk (zbp qHO_3 (zba ho0) hb);have n2_:=Aside0.mk (zaq (zby (zfx (M:=fun k_=>(w.heap.size≤k_)) ho0 (zah xb_) (fun k_ h_=>h_)) (zca qHO_3)) (zah xb_));have n3_:=Aside0.mk (zal xb_ hb);clear qHO_3 HO_0;clear HO_3 HB;have HO_0:=n0_;have HO_3:=n1_;have HO448:=n2_;have HB:=n3_;clear n0_ n1_ n2_ n3_;clear xb_ hb ho0;obtain⟨Ao17,co17,eo17⟩:=zbb HO448.out;subst eo17) | ((with_reducible refine zde (b:= .append) (xs:= #[.tmp 18, .tmp 22]) rfl ?_);at_builtin;refine zdw (Kd.int .u8) (w0:=w) w.heap.size rfl (.tmp 18) (.tmp 22) 23 5 (.int .u8 0) 1 rfl Try.underlying23 info5 rfl (by decide) (by omega) (.slice Ao14 x3_1.length co14) x3_1 t446 _ _ _ (fun k_=>(w.heap.size≤k_)∧some k_≠(.slice Ao17 t446.length co17:Value).ownBlock) (fun _=>False) rfl rfl ?aO ?aR (fun _ _ h=>h) (fun _ h=>h.elim) ?aF ?aB ?aS ?aL ?_;(case aR=>repeat(first | exact(zam HO448.out).2.2 | (with_reducible first | apply zbs | apply zbt | apply zcg)));(case aB=>exact bq);(case aF=>exact(fun k_ hk=>⟨(zdo (zah bq) hk),zdv (zca (pR HO448.out)) k_ hk⟩));(case aO=>exact(pR HO_3.out));(case aS=>exact(zah bq));(case aL=>have:=LMc13.out;omega);intro v450 w16 ho hb hg hat;rw[← Ny449.out] at ho;have n_:=jA4 (Kd.V_afterv (ok:=(fun k_=>(P0_ k_∨w.heap.size≤k_)∧some k_≠(.slice Ao17 t446.length co17:Value).ownBlock)) (by(with_reducible repeat(first | apply zbn | apply zbo | apply zbu));exact zbh HO_0.out (fun _ hk=>⟨⟨hk.1.1,hk.2⟩,hk.1.2⟩)) hg hat) (zdu (ok:=(fun k_=>(w.heap.size≤k_))) (by(with_reducible repeat(first | apply zat | apply zau | apply zar));exact zao HO448.out (fun _ hk=>⟨hk.1.1,hk.2⟩)) hg hat) (hb) (ho);clear HO_0 HO448 HB HO_3;obtain⟨HO_0,HO448,HB,HO451⟩:=n_;clear ho hb hg hat))
     go_ret
     exact⟨_,jex,by(with_reducible repeat(first | apply zat | apply zau | apply zar));exact zao HO451.out (fun _ hk=>hk.1),bq⟩
    rw[if_neg c13] at H
    exact absurd H (by simp)
   rw[if_neg c11] at H
   have c11b0:=zcl.mpr c11
   have c11b1:=zez.mpr c11
   by_cases c18:x3_1.length<140737488355328
   ·rw[if_pos c18] at H
    have LMc18:=Aside0.mk c18
    clear c18
    obtain⟨y452,hy452⟩:∃ y_:List Int,y_=(x3_1++[0]):=⟨_,rfl⟩
    replace H:(impl_HashPad.l0 k1 l0 y452)=some r:=jrw hy452 H
    have Ny452:=Aside0.mk hy452
    clear hy452
    have H':=Aside0.mk H
    clear H
    obtain⟨Ao19,co19,eo19⟩:=zbb HO_3.out
    subst eo19
    go_wp2_with (first | ((with_reducible refine zde (b:= .append) (xs:= #[.tmp 15, .tmp 16]) rfl ?_);at_builtin;refine zfr (Kd.int .u8) (w0:=w) w.heap.size rfl (.tmp 15) (.tmp 16) 23 5 (.int .u8 0) 1 rfl Try.underlying23 info5 rfl (by decide) (by omega) (.slice Ao19 x3_1.length co19) x3_1 0 [.int .u8 0] (fun k_=>(w.heap.size≤k_)) (fun _=>False) rfl rfl ?aP (fun _ hk=>hk.elim) ?aF ?aO ?aB ?aS ?aL ?_;(case aP=>exact rfl);(case aB=>exact bq);(case aF=>exact(fun k_ hk=>(zdo (zah bq) hk)));(case aO=>exact(pR HO_3.out));(case aS=>exact(zah bq));(case aL=>have:=LMc18.out;omega);intro v453 w20 ho hb hg hat;rw[← Ny452.out] at ho;have n_:=jA3 (Kd.V_afterv (ok:=(fun k_=>(P0_ k_∨w.heap.size≤k_))) (pV HO_0.out) hg hat) (hb) (ho);clear HO_0 HB HO_3;obtain⟨HO_0,HB,HO454⟩:=n_;clear ho hb hg hat))
    go_roundg k1
    case measure=>have:=HK1.out;omega
    case rel=>exact⟨(y452),H',⟨by have:=HK1.out;omega⟩,⟨pV HO_0.out⟩,⟨pR HO454.out⟩,⟨bq⟩⟩
   rw[if_neg c18] at H
   exact absurd H (by simp)
end Go.Proofs.Ytienlgcjohpphaa.P
