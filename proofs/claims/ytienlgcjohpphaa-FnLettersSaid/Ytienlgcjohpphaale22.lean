import Derived.Test.Ytienlgcjohpphaale21
import Derived.Test.Ytienlgcjohpphaale20
namespace Go.Proofs.Ytienlgcjohpphaa.P
open Go.RowKit Go.Proofs.YtienlgcjohpphaaW.PrintWords Go.Proofs.YtienlgcjohpphaaW.PrintLast Go.Proofs.YtienlgcjohpphaaW.PrintMore
attribute [local go_sem] zcn zco zdk zdl zce zcf zcp zcq -- for this text's walks alone
set_option linter.unusedVariables false
set_option linter.unusedSimpArgs false
set_option maxHeartbeats 8000000
set_option maxRecDepth 100000

def impl_HashStart.f:Option (List Int):=some (([1779033703,3144134277,1013904242,2773480762,1359893119,2600822924,528734635,1541459225]:List Int))
theorem impl_HashStart.calls (r:List Int) (w:World) (h:impl_HashStart.f=some r):
  Calls Try.prog 35 #[] w fun e w'=>∃ v0_:Value,e= .returned (v0_)∧Kd.R (Kd.int .i64) 3 w' w.heap.size (fun _=>True) v0_ r∧Below w.heap.size w w':=by
 have HB:=Aside0.mk (zbk w.heap.size w)
 have H:(some (([1779033703,3144134277,1013904242,2773480762,1359893119,2600822924,528734635,1541459225]:List Int)))=some r:=h
 clear h
 obtain⟨y455,hy455⟩:∃ y_:List Int,y_=(([1779033703,3144134277,1013904242,2773480762,1359893119,2600822924,528734635,1541459225]:List Int)):=⟨_,rfl⟩
 replace H:(some y455)=some r:=jrw hy455 H
 have Ny455:=Aside0.mk hy455
 clear hy455
 obtain rfl:=Option.some.inj H
 go_enter Try.func35,Try.ntmps35
 go_wp2_with (first | (refine jgd 1 ?_;refine Kd.R_lit (Kd.int .i64) _ 3 ?hg (N:=1) ?hd (xs:=([1779033703,3144134277,1013904242,2773480762,1359893119,2600822924,528734635,1541459225]:List Int)) (inner:=[.int .i64 1779033703, .int .i64 3144134277, .int .i64 1013904242, .int .i64 2773480762, .int .i64 1359893119, .int .i64 2600822924, .int .i64 528734635, .int .i64 1541459225]) (ok:=fun _=>True) (okp:=fun _=>True) ?hr ?hp (fun _ hk=>hk) trivial (zbk _ _) (zav _) (by simp) ?_;(case hd=>rfl);(case hg=>rfl);(case hr=>first | (go_simp;done) | (go_simp;rfl));(case hp=>exact(zan (show Kd.M (Kd.int .i64) _ _ _ 1779033703 [.int .i64 1779033703] from rfl) (zan (show Kd.M (Kd.int .i64) _ _ _ 3144134277 [.int .i64 3144134277] from rfl) (zan (show Kd.M (Kd.int .i64) _ _ _ 1013904242 [.int .i64 1013904242] from rfl) (zan (show Kd.M (Kd.int .i64) _ _ _ 2773480762 [.int .i64 2773480762] from rfl) (zan (show Kd.M (Kd.int .i64) _ _ _ 1359893119 [.int .i64 1359893119] from rfl) (zan (show Kd.M (Kd.int .i64) _ _ _ 2600822924 [.int .i64 2600822924] from rfl) (zan (show Kd.M (Kd.int .i64) _ _ _ 528734635 [.int .i64 528734635] from rfl) (zan (show Kd.M (Kd.int .i64) _ _ _ 1541459225 [.int .i64 1541459225] from rfl) (zeb _ _))))))))));intro v456 w1 ho2 hb hg_ hnew_;have xb_:=below_ofs bq hb;clear hg_ hnew_;(first | rw[← Ny455.out] at ho2 | (simp only[Int.reduceToNat] at ho2;rw[← Ny455.out] at ho2));have n_:=jA2 (zaq ho2 (zah xb_)) (zal xb_ hb);clear HB;obtain⟨HO457,HB⟩:=n_;clear xb_ hb ho2))
 go_ret
 exact⟨_,jex,by(with_reducible repeat(first | apply zat | apply zau | apply zar));exact HO457.out,bq⟩
def impl_WordBytes.l0:Nat→Bool→List Int→List Int→Int→Int→Option (List Int)
 | 0,_,_,_,_,_=>none
 | k+1,x1,x5,x9,x10,x11=>if x11<x10 then(if 0≤x11 then(if x11<(x9.length:Int) then(if x1=true then((impl_Word.f (rd x9 x11)).bind fun t462=>((impl_Great.f k t462 4).bind fun t463=>(if x5.length+t463.length<140737488355328 then(impl_WordBytes.l0 k x1 (x5++t463) x9 x10 (wrap64 (x11+1))) else(none)))) else((impl_Word.f (rd x9 x11)).bind fun t469=>((impl_Little.f k t469 4).bind fun t470=>(if x5.length+t470.length<140737488355328 then(impl_WordBytes.l0 k x1 (x5++t470) x9 x10 (wrap64 (x11+1))) else(none))))) else(none)) else(none)) else(some x5)
def impl_WordBytes.f (k:Nat) (l0:List Int) (a1:Bool):Option (List Int):=impl_WordBytes.l0 k a1 (([]:List Int)) l0 (l0.length:Int) 0
theorem impl_WordBytes.mono_l:∀ k,(∀ y0 y1 y2 y3 y4,LeO (impl_WordBytes.l0 k y0 y1 y2 y3 y4) (impl_WordBytes.l0 (k+1) y0 y1 y2 y3 y4))
 | 0=>fun _ _ _ _ _ r h=>by simp [impl_WordBytes.l0] at h
 | k+1=>by
  have ih0:=impl_WordBytes.mono_l k
  intro y0 y1 y2 y3 y4
  unfold impl_WordBytes.l0
  have m0:=@impl_Great.mono
  have m1:=@impl_Little.mono
  exact mt
theorem impl_WordBytes.mono:∀ a0 a1 k,LeO (impl_WordBytes.f k a0 a1) (impl_WordBytes.f (k+1) a0 a1):=by
 intro a0 a1 k
 have ih0:=impl_WordBytes.mono_l k
 unfold impl_WordBytes.f
 have m0:=@impl_Great.mono
 have m1:=@impl_Little.mono
 exact mt
theorem impl_WordBytes.calls (k:Nat) (A0:Option Addr) (c0:Nat) (l0:List Int) (a1:Bool) (r:List Int) (w:World) (hr0:Kd.C (Kd.int .i64) w A0 l0.length l0) (hc0:l0.length≤c0) (h:impl_WordBytes.f k l0 a1=some r):
  Calls Try.prog 36 #[.slice A0 l0.length c0, .bool a1] w fun e w'=>∃ v0_:Value,e= .returned (v0_)∧Kd.R (Kd.int .u8) 5 w' w.heap.size (fun _=>True) v0_ r∧Below w.heap.size w w':=by
 have HR0:=Aside0.mk hr0
 have HC0:=Aside0.mk hc0
 clear hr0 hc0
 have HB:=Aside0.mk (zbk w.heap.size w)
 have H:(impl_WordBytes.l0 k a1 (([]:List Int)) l0 (l0.length:Int) 0)=some r:=h
 clear h
 obtain⟨y458,hy458⟩:∃ y_:List Int,y_=(([]:List Int)):=⟨_,rfl⟩
 replace H:(impl_WordBytes.l0 k a1 y458 l0 (l0.length:Int) 0)=some r:=jrw hy458 H
 have Ny458:=Aside0.mk hy458
 clear hy458
 have H':=Aside0.mk H
 clear H
 go_enter Try.func36,Try.ntmps36
 go_wp2_with (first | (refine jgd 8 ?_;refine jlt 8 (Kd.int .u8) 5 ?_;intro v459 w3 ho4 hb;have xb_:=below_ofs bq hb;(first | rw[← Ny458.out] at ho4 | (simp only[Int.reduceToNat] at ho4;rw[← Ny458.out] at ho4));have n_:=jA2 (zaq ho4 (zah xb_)) (zal xb_ hb);clear HB;obtain⟨HO460,HB⟩:=n_;clear xb_ hb ho4))
 go_loopg [5,11] k (fun kq v5 v11 w'=>∃ (x5_1:List Int) (x11_1:Int),v11= .int .i64 x11_1∧Aside0 (impl_WordBytes.l0 kq a1 x5_1 l0 (l0.length:Int) x11_1=some r)∧Aside0 (kq≤k)∧Aside0 (Kd.R (Kd.int .u8) 5 w' w.heap.size (fun _=>True) v5 x5_1)∧Aside0 (Below w.heap.size w w'))
 case atStart=>exact⟨(y458),(0),jer,H',⟨zav _⟩,⟨pR HO460.out⟩,⟨bq⟩⟩
 case round=>
  clear H'
  try clear p2
  try clear c3
  obtain⟨x5_1,x11_1,rfl,HA,HK1,HO_5,HB⟩:=hrel
  cases gk with
  | zero=>exact absurd HA.out (by simp [impl_WordBytes.l0])
  | succ k1=>
   have H:=HA.out
   clear HA
   simp only[impl_WordBytes.l0] at H
   by_cases c5:x11_1<(l0.length:Int)
   ·rw[if_pos c5] at H
    have c5b0:=zab c5
    clear c5
    by_cases c6:0≤x11_1
    ·rw[if_pos c6] at H
     have c6b0:=zab c6
     clear c6
     by_cases c7:x11_1<(l0.length:Int)
     ·rw[if_pos c7] at H
      have c7b0:=zab c7
      clear c7
      by_cases c8:a1=true
      ·subst c8
       rw[if_pos rfl] at H
       obtain⟨t462,A9,H⟩:=bnd H
       obtain⟨t463,A10,H⟩:=bnd H
       by_cases c11:x5_1.length+t463.length<140737488355328
       ·rw[if_pos c11] at H
        have LMc11:=Aside0.mk c11
        clear c11
        obtain⟨y466,hy466⟩:∃ y_:List Int,y_=(x5_1++t463):=⟨_,rfl⟩
        replace H:(impl_WordBytes.l0 k1 true y466 l0 (l0.length:Int) (wrap64 (x11_1+1)))=some r:=jrw hy466 H
        have Ny466:=Aside0.mk hy466
        clear hy466
        have H':=Aside0.mk H
        clear H
        have p461:0≤(x11_1:Int):=zad jab
        have q461:x11_1<(l0.length:Int):=zad jab
        obtain⟨ad461,e461,hx461_0⟩:=zcd HR0.out x11_1 p461 q461
        cases e461
        replace hx461_0:=jcB HB.out hx461_0
        replace p461:=zas p461
        replace q461:=zas q461
        go_wp2_with (first | (refine jgc 71 ?_;refine jgs 18 Try.func71 #[.int .i64 (rd l0 x11_1)] ?_;(with_reducible refine(impl_Word.calls (rd l0 x11_1) t462 _ A9.out).mono ?_);rintro e w' ⟨rfl,⟨nd,rfl⟩⟩;refine⟨_,rfl,?_⟩) | (refine jgc 80 ?_;refine jgs 19 Try.func80 #[.int .i64 t462, .int .i64 4] ?_;(with_reducible refine(impl_Great.calls k1 t462 4 t463 _ A10.out).mono ?_);rintro e w12 ⟨v464,rfl,ho0,hb⟩;refine⟨_,rfl,?_⟩;have xb_:=below_ofs bq hb;have qHO_5:=Kd.R_ofs (pR HO_5.out) hb;have n_:=jA3 (zbp qHO_5 (zba ho0) hb) (zaq (zby ho0 (zca qHO_5)) (zah xb_)) (zal xb_ hb);clear qHO_5 HO_5 HB;obtain⟨HO_5,HO465,HB⟩:=n_;clear xb_ hb ho0;obtain⟨Ao14,co14,eo14⟩:=zbb HO465.out;subst eo14) | ((with_reducible refine zde (b:= .append) (xs:= #[.tmp 16, .tmp 19]) rfl ?_);at_builtin;refine zdw (Kd.int .u8) (w0:=w) w.heap.size rfl (.tmp 16) (.tmp 19) 23 5 (.int .u8 0) 1 rfl Try.underlying23 info5 rfl (by decide) (by omega) u5 x5_1 t463 _ _ _ (fun k_=>some k_≠(.slice Ao14 t463.length co14:Value).ownBlock) (fun _=>False) rfl rfl ?aO ?aR (fun _ _ h=>h) (fun _ h=>h.elim) ?aF ?aB ?aS ?aL ?_;(case aR=>repeat(first | exact(zam HO465.out).2.2 | (with_reducible first | apply zbs | apply zbt | apply zcg)));(case aB=>exact bq);(case aF=>exact(fun k_ hk=>zdv (zca (pR HO465.out)) k_ hk));(case aO=>exact(by(with_reducible repeat(first | apply zat | apply zau | apply zar));exact zao HO_5.out (fun _ hk=>hk.2)));(case aS=>exact(zah bq));(case aL=>have:=LMc11.out;omega);intro v467 w13 ho hb hg hat;rw[← Ny466.out] at ho;have n_:=jA3 (zdu (ok:=(fun _=>True)) (pR HO465.out) hg hat) (hb) (ho);clear HO465 HB HO_5;obtain⟨HO465,HB,HO468⟩:=n_;clear ho hb hg hat))
        go_roundg k1
        case measure=>have:=HK1.out;omega
        case rel=>exact⟨(y466),(wrap64 (x11_1+1)),jer,H',⟨by have:=HK1.out;omega⟩,⟨tqR HO468.out⟩,⟨bq⟩⟩
       rw[if_neg c11] at H
       exact absurd H (by simp)
      replace c8:=zds.mpr c8
      subst c8
      rw[if_neg (show ¬(false=true) by decide)] at H
      obtain⟨t469,A15,H⟩:=bnd H
      obtain⟨t470,A16,H⟩:=bnd H
      by_cases c17:x5_1.length+t470.length<140737488355328
      ·rw[if_pos c17] at H
       have LMc17:=Aside0.mk c17
       clear c17
       obtain⟨y473,hy473⟩:∃ y_:List Int,y_=(x5_1++t470):=⟨_,rfl⟩
       replace H:(impl_WordBytes.l0 k1 false y473 l0 (l0.length:Int) (wrap64 (x11_1+1)))=some r:=jrw hy473 H
       have Ny473:=Aside0.mk hy473
       clear hy473
       have H':=Aside0.mk H
       clear H
       have p461:0≤(x11_1:Int):=zad jab
       have q461:x11_1<(l0.length:Int):=zad jab
       obtain⟨ad461,e461,hx461_0⟩:=zcd HR0.out x11_1 p461 q461
       cases e461
       replace hx461_0:=jcB HB.out hx461_0
       replace p461:=zas p461
       replace q461:=zas q461
       go_wp2_with (first | (refine jgc 71 ?_;refine jgs 23 Try.func71 #[.int .i64 (rd l0 x11_1)] ?_;(with_reducible refine(impl_Word.calls (rd l0 x11_1) t469 _ A15.out).mono ?_);rintro e w' ⟨rfl,⟨nd,rfl⟩⟩;refine⟨_,rfl,?_⟩) | (refine jgc 87 ?_;refine jgs 24 Try.func87 #[.int .i64 t469, .int .i64 4] ?_;(with_reducible refine(impl_Little.calls k1 t469 4 t470 _ A16.out).mono ?_);rintro e w18 ⟨v471,rfl,ho0,hb⟩;refine⟨_,rfl,?_⟩;have xb_:=below_ofs bq hb;have qHO_5:=Kd.R_ofs (pR HO_5.out) hb;have n_:=jA3 (zbp qHO_5 (zba ho0) hb) (zaq (zby ho0 (zca qHO_5)) (zah xb_)) (zal xb_ hb);clear qHO_5 HO_5 HB;obtain⟨HO_5,HO472,HB⟩:=n_;clear xb_ hb ho0;obtain⟨Ao20,co20,eo20⟩:=zbb HO472.out;subst eo20) | ((with_reducible refine zde (b:= .append) (xs:= #[.tmp 21, .tmp 24]) rfl ?_);at_builtin;refine zdw (Kd.int .u8) (w0:=w) w.heap.size rfl (.tmp 21) (.tmp 24) 23 5 (.int .u8 0) 1 rfl Try.underlying23 info5 rfl (by decide) (by omega) u5 x5_1 t470 _ _ _ (fun k_=>some k_≠(.slice Ao20 t470.length co20:Value).ownBlock) (fun _=>False) rfl rfl ?aO ?aR (fun _ _ h=>h) (fun _ h=>h.elim) ?aF ?aB ?aS ?aL ?_;(case aR=>repeat(first | exact(zam HO472.out).2.2 | (with_reducible first | apply zbs | apply zbt | apply zcg)));(case aB=>exact bq);(case aF=>exact(fun k_ hk=>zdv (zca (pR HO472.out)) k_ hk));(case aO=>exact(by(with_reducible repeat(first | apply zat | apply zau | apply zar));exact zao HO_5.out (fun _ hk=>hk.2)));(case aS=>exact(zah bq));(case aL=>have:=LMc17.out;omega);intro v474 w19 ho hb hg hat;rw[← Ny473.out] at ho;have n_:=jA3 (zdu (ok:=(fun _=>True)) (pR HO472.out) hg hat) (hb) (ho);clear HO472 HB HO_5;obtain⟨HO472,HB,HO475⟩:=n_;clear ho hb hg hat))
       go_roundg k1
       case measure=>have:=HK1.out;omega
       case rel=>exact⟨(y473),(wrap64 (x11_1+1)),jer,H',⟨by have:=HK1.out;omega⟩,⟨tqR HO475.out⟩,⟨bq⟩⟩
      rw[if_neg c17] at H
      exact absurd H (by simp)
     rw[if_neg c7] at H
     exact absurd H (by simp)
    rw[if_neg c6] at H
    exact absurd H (by simp)
   rw[if_neg c5] at H
   have c5b0:=zbj c5
   clear c5
   obtain rfl:=Option.some.inj H
   go_wp2
   go_ret
   exact⟨_,jex,by(with_reducible repeat(first | apply zat | apply zau | apply zar));exact HO_5.out,bq⟩
def impl_Hash.l0:Nat→List Int→List Int→Int→Option (List Int)
 | 0,_,_,_=>none
 | k+1,x3,x4,x5=>if x5<(x4.length:Int) then(if 0≤x5 then(if x5≤(wrap64 (x5+64)) then(if(wrap64 (x5+64))≤(x4.length:Int) then((impl_HashBlock.f k x3 ((x4.take ((wrap64 (x5+64)):Int).toNat).drop (x5:Int).toNat)).bind fun t486=>(impl_Hash.l0 k t486 x4 (wrap64 (x5+64)))) else(none)) else(none)) else(none)) else((impl_WordBytes.f k x3 true).bind fun t489=>(some t489))
def impl_Hash.f (k:Nat) (l0:List Int):Option (List Int):=if(l0.length:Int)>4000 then(some ([]:List Int)) else((impl_HashStart.f).bind fun t476=>((impl_HashPad.f k l0).bind fun t479=>(impl_Hash.l0 k t476 t479 0)))
theorem impl_Hash.mono_l:∀ k,(∀ y0 y1 y2,LeO (impl_Hash.l0 k y0 y1 y2) (impl_Hash.l0 (k+1) y0 y1 y2))
 | 0=>fun _ _ _ r h=>by simp [impl_Hash.l0] at h
 | k+1=>by
  have ih0:=impl_Hash.mono_l k
  intro y0 y1 y2
  unfold impl_Hash.l0
  have m0:=@impl_HashBlock.mono
  have m1:=@impl_HashPad.mono
  have m2:=@impl_WordBytes.mono
  exact mt
theorem impl_Hash.mono:∀ a0 k,LeO (impl_Hash.f k a0) (impl_Hash.f (k+1) a0):=by
 intro a0 k
 have ih0:=impl_Hash.mono_l k
 unfold impl_Hash.f
 have m0:=@impl_HashBlock.mono
 have m1:=@impl_HashPad.mono
 have m2:=@impl_WordBytes.mono
 exact mt
theorem impl_Hash.calls (k:Nat) (A0:Option Addr) (c0:Nat) (l0:List Int) (r:List Int) (w:World) (hr0:Kd.C (Kd.int .u8) w A0 l0.length l0) (hc0:l0.length≤c0) (h:impl_Hash.f k l0=some r):
  Calls Try.prog 25 #[.slice A0 l0.length c0] w fun e w'=>∃ v0_:Value,e= .returned (v0_)∧Kd.R (Kd.int .u8) 5 w' w.heap.size (fun _=>True) v0_ r∧Below w.heap.size w w':=by
 have HR0:=Aside0.mk hr0
 have HC0:=Aside0.mk hc0
 clear hr0 hc0
 have HB:=Aside0.mk (zbk w.heap.size w)
 have H:(if(l0.length:Int)>4000 then(some ([]:List Int)) else((impl_HashStart.f).bind fun t476=>((impl_HashPad.f k l0).bind fun t479=>(impl_Hash.l0 k t476 t479 0))))=some r:=h
 clear h
 by_cases c2:(l0.length:Int)>4000
 ·rw[if_pos c2] at H
  have c2b0:=zab c2
  have c2b1:decide (4000<l0.length)=true:=zab (by omega)
  clear c2
  obtain rfl:=Option.some.inj H
  go_enter Try.func25,Try.ntmps25
  go_wp2
  go_ret
  exact⟨_,jex,by first | exact Kd.R_nil _ _ _ _ _ | exact Kd.N_nil _ _ _ _ _ | exact Kd.V_nil _ _ _ _ _ | exact Kd.Q_nil _ _ _ _ _ | exact Kd.S_nil _ _ _ _ _,bq⟩
 rw[if_neg c2] at H
 have c2b0:=zbj c2
 have c2b1:decide (4000<l0.length)=false:=zbj (by omega)
 clear c2
 obtain⟨t476,A3,H⟩:=bnd H
 obtain⟨t479,A4,H⟩:=bnd H
 have H':=Aside0.mk H
 clear H
 go_enter Try.func25,Try.ntmps25
 go_wp2_with (first | (refine jgc 35 ?_;refine jgs 9 Try.func35 #[] ?_;(with_reducible refine(impl_HashStart.calls t476 _ A3.out).mono ?_);rintro e w5 ⟨v477,rfl,ho0,hb⟩;refine⟨_,rfl,?_⟩;have xb_:=below_ofs bq hb;have n_:=jA2 (zaq ho0 (zah xb_)) (zal xb_ hb);clear HB;obtain⟨HO478,HB⟩:=n_;clear xb_ hb ho0) | (refine jgc 29 ?_;refine jgs 11 Try.func29 #[.slice A0 l0.length c0] ?_;(with_reducible refine(impl_HashPad.calls k (fun k_=>k_<w.heap.size) _ _ l0 t479 _ ?side1 A4.out).mono ?_);(case side1=>exact zga HC0.out (Kd.F_below (Kd.C_F (zgg .u8) HR0.out) bq));rintro e w6 ⟨v480,rfl,ho0,hb⟩;refine⟨_,rfl,?_⟩;have xb_:=below_ofs bq hb;have n_:=jA3 (zen (pR HO478.out) hb) (zaq (zao (ok':=fun k_=>True) ho0 (fun _ hk_=>trivial)) (zah xb_)) (zal xb_ hb);clear HO478 HB;obtain⟨HO478,HO481,HB⟩:=n_;clear xb_ hb ho0))
 go_loopg [3,5] k (fun kq v3 v5 w'=>∃ (x3_1:List Int) (x5_1:Int),v5= .int .i64 x5_1∧Aside0 (impl_Hash.l0 kq x3_1 t479 x5_1=some r)∧Aside0 (kq≤k)∧Aside0 (Kd.R (Kd.int .i64) 3 w' w.heap.size (fun _=>True) v3 x3_1)∧Aside0 (Kd.R (Kd.int .u8) 5 w' w.heap.size (fun _=>True) v480 t479)∧Aside0 (Below w.heap.size w w'))
 case atStart=>exact⟨(t476),(0),jer,H',⟨zav _⟩,⟨pR HO478.out⟩,⟨pR HO481.out⟩,⟨bq⟩⟩
 case round=>
  clear H'
  try clear c2
  try clear c2b0
  try clear c2b1
  try clear p2
  try clear c3
  obtain⟨x3_1,x5_1,rfl,HA,HK1,HO_3,HO_4,HB⟩:=hrel
  cases gk with
  | zero=>exact absurd HA.out (by simp [impl_Hash.l0])
  | succ k1=>
   have H:=HA.out
   clear HA
   simp only[impl_Hash.l0] at H
   by_cases c7:x5_1<(t479.length:Int)
   ·rw[if_pos c7] at H
    have c7b0:=zab c7
    clear c7
    by_cases c8:0≤x5_1
    ·rw[if_pos c8] at H
     have c8b0:=zas c8
     have c8b1:=zab c8
     clear c8
     by_cases c9:x5_1≤(wrap64 (x5_1+64))
     ·rw[if_pos c9] at H
      have c9b0:=zas c9
      have c9b1:=zab c9
      by_cases c10:(wrap64 (x5_1+64))≤(t479.length:Int)
      ·rw[if_pos c10] at H
       have c10b0:=zas c10
       have c10b1:=zab c10
       obtain⟨y482,hy482⟩:∃ y_:List Int,y_=((t479.take ((wrap64 (x5_1+64)):Int).toNat).drop (x5_1:Int).toNat):=⟨_,rfl⟩
       replace H:((impl_HashBlock.f k1 x3_1 y482).bind fun t486=>(impl_Hash.l0 k1 t486 t479 (wrap64 (x5_1+64))))=some r:=jrw hy482 H
       have Ny482:=Aside0.mk hy482
       clear hy482
       obtain⟨t486,A11,H⟩:=bnd H
       have H':=Aside0.mk H
       clear H
       obtain⟨Ao12,co12,eo12⟩:=zbb HO_4.out
       subst eo12
       have q13:((wrap64 (x5_1+64)):Int)≤((t479.length:Int):Int):=zad jab
       obtain⟨i013,hi013,_,hsz13,_⟩:=info_parts info5
       have hroom13:t479.length≤co12:=(zam HO_4.out).2.1
       have hC13:Kd.C (Kd.int .u8) _ Ao12 t479.length t479:=(zam HO_4.out).2.2
       have ql13:(x5_1:Int)≤((wrap64 (x5_1+64)):Int):=zad jab
       have q013:(0:Int)≤(x5_1:Int):=zad jab
       have hcut13:=cut_mid (P:=Try.prog) 23 5 .i64 .i64 Try.underlying23 hi013 1 hsz13 Ao12 t479.length co12 x5_1 (wrap64 (x5_1+64)) q013 ql13 q13 hroom13
       have hr13:=Kd.C_mid (lo:=(x5_1:Int).toNat) (hi:=((wrap64 (x5_1+64)):Int).toNat) (c:=co12) hC13 (by omega) (by omega) hroom13
       obtain⟨A13,hA13⟩:∃ A1,A1=(if co12=(x5_1:Int).toNat then Ao12 else(Ao12:Option Addr).map (·.add ((x5_1:Int).toNat*1))):=⟨_,rfl⟩
       obtain⟨c13,hc13⟩:∃ c1,c1=co12 - (x5_1:Int).toNat:=⟨_,rfl⟩
       have hy13:y482.length=((wrap64 (x5_1+64)):Int).toNat - (x5_1:Int).toNat:=(by rw[Ny482.out,zdb,zdc] <;> omega)
       rw[show((t479).take ((wrap64 (x5_1+64)):Int).toNat).drop (x5_1:Int).toNat=y482 from Ny482.out.symm] at hr13
       replace hr13:Kd.C (Kd.int .u8) _ A13 y482.length y482:=(by rw[hA13];exact hr13)
       rw[← hy13, ← hA13, ← hc13] at hcut13
       have HR485:=Aside0.mk hr13
       have HC485:=Aside0.mk (show y482.length≤c13 from by rw[hy13,hc13];exact zgi (zdo (by omega) hroom13) _)
       clear hr13 hC13 hroom13 hi013 hsz13 hc13
       have KY13:=Aside0.mk hy13
       have KA13:=Aside0.mk hA13
       clear hy13 hA13
       have KL13:=Aside0.mk (show((wrap64 (x5_1+64)):Int).toNat≤t479.length from by omega)
       have KM13:=Aside0.mk (show(x5_1:Int).toNat≤((wrap64 (x5_1+64)):Int).toNat from by omega)
       replace q13:=zas q13
       obtain⟨Ao14,co14,eo14⟩:=zbb HO_3.out
       subst eo14
       go_wp2_with (first | (refine jgc 18 ?_;refine jgs 24 Try.func18 #[.slice Ao14 x3_1.length co14, .slice A13 y482.length c13] ?_;(with_reducible refine(impl_HashBlock.calls k1 _ _ x3_1 _ _ y482 t486 _ ?side1 ?side2 ?side3 ?side4 A11.out).mono ?_);(case side1=>repeat(first | exact(zam HO_3.out).2.2 | (with_reducible first | apply zbs | apply zbt | apply zcg)));(case side2=>exact(zam HO_3.out).2.1);(case side3=>repeat(first | exact(by repeat(first | (with_reducible exact HR485.out) | (with_reducible first | apply zbs | apply zbt | apply zcg) | exact HR485.out)) | (with_reducible first | apply zbs | apply zbt | apply zcg)));(case side4=>exact HC485.out);rintro e w15 ⟨v487,rfl,ho0,hb⟩;refine⟨_,rfl,?_⟩;have xb_:=below_ofs bq hb;have qHO_3:=Kd.R_ofs (pR HO_3.out) hb;have n_:=jA5 (zbp qHO_3 (zba ho0) hb) (zen (pR HO_4.out) hb) (zaq (zby ho0 (zca qHO_3)) (zah xb_)) (Kd.C_below (by repeat(first | (with_reducible exact HR485.out) | (with_reducible first | apply zbs | apply zbt | apply zcg) | exact HR485.out)) hb) (zal xb_ hb);clear qHO_3 HO_3 HO_4 HR485 HB;obtain⟨HO_3,HO_4,HO488,HR485,HB⟩:=n_;clear xb_ hb ho0))
       go_roundg k1
       case measure=>have:=HK1.out;omega
       case rel=>exact⟨(t486),(wrap64 (x5_1+64)),jer,H',⟨by have:=HK1.out;omega⟩,⟨tqR HO488.out⟩,⟨pR HO_4.out⟩,⟨bq⟩⟩
      rw[if_neg c10] at H
      exact absurd H (by simp)
     rw[if_neg c9] at H
     exact absurd H (by simp)
    rw[if_neg c8] at H
    exact absurd H (by simp)
   rw[if_neg c7] at H
   have c7b0:=zbj c7
   clear c7
   obtain⟨t489,A16,H⟩:=bnd H
   obtain rfl:=Option.some.inj H
   obtain⟨Ao17,co17,eo17⟩:=zbb HO_4.out
   subst eo17
   obtain⟨Ao18,co18,eo18⟩:=zbb HO_3.out
   subst eo18
   go_wp2_with (first | (refine jgc 36 ?_;refine jgs 26 Try.func36 #[.slice Ao18 x3_1.length co18, .bool true] ?_;(with_reducible refine(impl_WordBytes.calls k1 _ _ x3_1 true t489 _ ?side1 ?side2 A16.out).mono ?_);(case side1=>repeat(first | exact(zam HO_3.out).2.2 | (with_reducible first | apply zbs | apply zbt | apply zcg)));(case side2=>exact(zam HO_3.out).2.1);rintro e w19 ⟨v490,rfl,ho0,hb⟩;refine⟨_,rfl,?_⟩;have xb_:=below_ofs bq hb;have n0_:=Aside0.mk (zen (pR HO_3.out) hb);have qHO_4:=Kd.R_ofs (pR HO_4.out) hb;have n1_:=Aside0.mk (zbp qHO_4 (zba ho0) hb);have n2_:=Aside0.mk (zaq (zby ho0 (zca qHO_4)) (zah xb_));have n3_:=Aside0.mk (zal xb_ hb);clear qHO_4 HO_3;clear HO_4 HB;have HO_3:=n0_;have HO_4:=n1_;have HO491:=n2_;have HB:=n3_;clear n0_ n1_ n2_ n3_;clear xb_ hb ho0))
   go_ret
   exact⟨_,jex,tqR HO491.out,bq⟩
def impl_Xor.l0:Nat→List Int→List Int→List Int→Int→Int→Option (List Int)
 | 0,_,_,_,_,_=>none
 | k+1,x0,x1,x5,x12,x13=>if x13<x12 then(if 0≤x13 then(if x13<(x0.length:Int) then(if x13<(x1.length:Int) then(if x5.length<140737488355328 then(impl_Xor.l0 k x0 x1 (x5++[Go.bits .xor .u8 (rd x0 x13) (rd x1 x13)]) x12 (wrap64 (x13+1))) else(none)) else(none)) else(none)) else(none)) else(some x5)
def impl_Xor.f (k:Nat) (l0:List Int) (l1:List Int):Option (List Int):=impl_Xor.l0 k l0 l1 (([]:List Int)) (mn (l0.length:Int) (l1.length:Int)) 0
theorem impl_Xor.mono_l:∀ k,(∀ y0 y1 y2 y3 y4,LeO (impl_Xor.l0 k y0 y1 y2 y3 y4) (impl_Xor.l0 (k+1) y0 y1 y2 y3 y4))
 | 0=>fun _ _ _ _ _ r h=>by simp [impl_Xor.l0] at h
 | k+1=>by
  have ih0:=impl_Xor.mono_l k
  intro y0 y1 y2 y3 y4
  unfold impl_Xor.l0
  exact mt
theorem impl_Xor.mono:∀ a0 a1 k,LeO (impl_Xor.f k a0 a1) (impl_Xor.f (k+1) a0 a1):=by
 intro a0 a1 k
 have ih0:=impl_Xor.mono_l k
 unfold impl_Xor.f
 exact mt
def impl_Xor.T5:Bool×List (List Nat×List Nat):=(true,[([],[]),([],[]),([],[]),([1,2],[1,2]),([3],[3]),([],[]),([],[]),([5,6],[5,6]),([7],[7]),([4,8],[4,8]),([9],[9]),([0,10],[0,10]),([11,11,0,1,2,3,4,5,6,7,8,9,10,11],[0,11])])
def impl_Xor.B5:List Nat:=[0,0,0,6,14,0,0,96,224,510,1022,2047,4095]
theorem impl_Xor.tab5:rtab .any (opsOf Try.f111 5)=impl_Xor.T5:=by kernel_rfl
theorem impl_Xor.bits5:waitsOk impl_Xor.T5.2 impl_Xor.B5=true:=by kernel_rfl
theorem impl_Xor.calls (k:Nat) (A0:Option Addr) (c0:Nat) (l0:List Int) (A1:Option Addr) (c1:Nat) (l1:List Int) (r:List Int) (w:World) (hr0:Kd.C (Kd.int .u8) w A0 l0.length l0) (hc0:l0.length≤c0) (hr1:Kd.C (Kd.int .u8) w A1 l1.length l1) (hc1:l1.length≤c1) (h:impl_Xor.f k l0 l1=some r):
  Calls Try.prog 111 #[.slice A0 l0.length c0, .slice A1 l1.length c1] w fun e w'=>∃ v0_:Value,e= .returned (v0_)∧Kd.R (Kd.int .u8) 5 w' w.heap.size (fun _=>True) v0_ r∧Below w.heap.size w w':=by
 have HR0:=Aside0.mk hr0
 have HC0:=Aside0.mk hc0
 clear hr0 hc0
 have HR1:=Aside0.mk hr1
 have HC1:=Aside0.mk hc1
 clear hr1 hc1
 have HB:=Aside0.mk (zbk w.heap.size w)
 have H:(impl_Xor.l0 k l0 l1 (([]:List Int)) (mn (l0.length:Int) (l1.length:Int)) 0)=some r:=h
 clear h
 obtain⟨y774,hy774⟩:∃ y_:List Int,y_=(([]:List Int)):=⟨_,rfl⟩
 replace H:(impl_Xor.l0 k l0 l1 y774 (mn (l0.length:Int) (l1.length:Int)) 0)=some r:=jrw hy774 H
 have Ny774:=Aside0.mk hy774
 clear hy774
 obtain⟨ji3,hji3⟩:∃ j_:Int,(mn (l0.length:Int) (l1.length:Int))=j_:=⟨_,rfl⟩
 replace H:(impl_Xor.l0 k l0 l1 y774 ji3 0)=some r:=by first | (rw[hji3] at H;exact H) | (simp only[hji3] at H ⊢;exact H)
 (try(have hji3l:0≤ji3:=by(rw[← hji3];unfold mn;(repeat' split) <;> omega)))
 (try(have hji3m:0≤ji3:=by omega))
 have hji3_:(if(l1.length:Int)<(l0.length:Int) then(l1.length:Int) else(l0.length:Int))=ji3:=hji3
 (try(have hji3n_:=hji3_;simp only[Int.ofNat_lt] at hji3n_))
 have H':=Aside0.mk H
 clear H
 go_enter Try.func111,Try.ntmps111
 go_wp2_with (first | (refine jgd 7 ?_;refine jlt 7 (Kd.int .u8) 5 ?_;intro v775 w4 ho5 hb;have xb_:=below_ofs bq hb;(first | rw[← Ny774.out] at ho5 | (simp only[Int.reduceToNat] at ho5;rw[← Ny774.out] at ho5));have n_:=jA2 (zaq ho5 (zah xb_)) (zal xb_ hb);clear HB;obtain⟨HO776,HB⟩:=n_;clear xb_ hb ho5))
 go_loopg [5,13] k (fun kq v5 v13 w'=>∃ (x5_1:List Int) (x13_1:Int),v13= .int .i64 x13_1∧Aside0 (impl_Xor.l0 kq l0 l1 x5_1 ji3 x13_1=some r)∧Aside0 (kq≤k)∧Aside0 (Kd.R (Kd.int .u8) 5 w' w.heap.size (fun _=>True) v5 x5_1)∧Aside0 (Below w.heap.size w w'))
 case atStart=>exact⟨(y774),(0),jer,H',⟨zav _⟩,⟨pR HO776.out⟩,⟨bq⟩⟩
 case round=>
  clear H'
  try clear c1
  try clear p2
  obtain⟨x5_1,x13_1,rfl,HA,HK1,HO_5,HB⟩:=hrel
  cases gk with
  | zero=>exact absurd HA.out (by simp [impl_Xor.l0])
  | succ k1=>
   have H:=HA.out
   clear HA
   simp only[impl_Xor.l0] at H
   by_cases c6:x13_1<ji3
   ·rw[if_pos c6] at H
    have c6b0:=zab c6
    clear c6
    by_cases c7:0≤x13_1
    ·rw[if_pos c7] at H
     have c7b0:=zab c7
     clear c7
     by_cases c8:x13_1<(l0.length:Int)
     ·rw[if_pos c8] at H
      have c8b0:=zab c8
      clear c8
      by_cases c9:x13_1<(l1.length:Int)
      ·rw[if_pos c9] at H
       have c9b0:=zab c9
       clear c9
       by_cases c10:x5_1.length<140737488355328
       ·rw[if_pos c10] at H
        have LMc10:=Aside0.mk c10
        clear c10
        obtain⟨y779,hy779⟩:∃ y_:List Int,y_=(x5_1++[Go.bits .xor .u8 (rd l0 x13_1) (rd l1 x13_1)]):=⟨_,rfl⟩
        replace H:(impl_Xor.l0 k1 l0 l1 y779 ji3 (wrap64 (x13_1+1)))=some r:=jrw hy779 H
        have Ny779:=Aside0.mk hy779
        clear hy779
        have H':=Aside0.mk H
        clear H
        try go_wp2
        have n_:=jA2 (zar HO_5.out) (zay HB.out)
        clear HO_5 HB
        obtain⟨HO_5,HB⟩:=n_
        have p777:0≤(x13_1:Int):=zad jab
        have q777:x13_1<(l0.length:Int):=zad jab
        obtain⟨ad777,e777,hx777_0⟩:=zcd HR0.out x13_1 p777 q777
        have hw777_0:=hx777_0
        cases e777
        replace hx777_0:=jcB HB.out hx777_0
        replace p777:=zas p777
        replace q777:=zas q777
        have p778:0≤(x13_1:Int):=zad jab
        have q778:x13_1<(l1.length:Int):=zad jab
        obtain⟨ad778,e778,hx778_0⟩:=zcd HR1.out x13_1 p778 q778
        have hw778_0:=hx778_0
        cases e778
        replace hx778_0:=jcB HB.out hx778_0
        replace p778:=zas p778
        replace q778:=zas q778
        refine start_ (n:=13) (S:=fun w'=>w'.cell? (ad777.add (x13_1).toNat)=some (.int .u8 (rd l0 x13_1))∧w'.cell? (ad778.add (x13_1).toNat)=some (.int .u8 (rd l1 x13_1))) (ds:=[]) #[false,false,false,false,false,false,false,false,false,false,false,false,false] (by kernel_rfl) rfl rfl ⟨(jcB HB.out hw777_0:),(jcB HB.out hw778_0:)⟩ (fun hHeld=>?_);refine zgh impl_Xor.tab5 impl_Xor.bits5 (fun HT_ HW_=>?_)
        generalize wr.drew=w11 at HO_5 HB hx777_0 hx778_0 hHeld ⊢
        refine pu 0 16 HT_.out ?_
        refine pu 1 17 HT_.out ?_
        refine pu 2 18 HT_.out ?_
        refine pu 3 19 HT_.out ?_
        refine pu 5 21 HT_.out ?_
        refine pu 6 22 HT_.out ?_
        refine pu 7 23 HT_.out ?_
        refine tk 4 20 HT_.out HW_.out hHeld ?_
        refine tk 8 24 HT_.out HW_.out hHeld ?_
        refine pu 9 25 HT_.out ?_
        refine one_ (i:=10) (N:=some 26) #[true,true,true,true,true,true,true,true,true,true,true,false,false] rfl rfl (one_of HT_.out (by kernel_rfl)) (by decide) (fun K hK=>?_)
        refine value_ (w1:=?_) (v:=?_) (by rfl) rfl ?_ ?_
        rotate_left 2
        ·go_simp
         constructor
         ·rfl
         rfl
        refine hK.out _ _ ⟨(World.cell?_alloc_lt _ _ _ (World.block_lt_of_cell? _ _ ((jcB HB.out hw777_0:)))).trans ((jcB HB.out hw777_0:)),(World.cell?_alloc_lt _ _ _ (World.block_lt_of_cell? _ _ ((jcB HB.out hw778_0:)))).trans ((jcB HB.out hw778_0:))⟩ (fun hHeld=>?_)
        clear hK K
        refine norm_ (a':=?_) ?_ ?_
        rotate_left
        ·show Act.put _ (some 26) _=_
         simp only[Act.put,zaa,zae,zaf,i64_w,i32_w]
         rfl
        refine one_ (i:=11) (N:=some 27) #[true,true,true,true,true,true,true,true,true,true,true,true,false] rfl rfl (one_of HT_.out (by kernel_rfl)) (by decide) (fun K hK=>?_)
        refine Kd.R_append_step (Kd.int .u8) (w0:=w) w.heap.size (by rfl) (.tmp 16) (.tmp 26) 23 5 (.int .u8 0) 1 rfl Try.underlying23 info5 rfl (by decide) (by omega) u5 x5_1 (Go.bits .xor .u8 (rd l0 x13_1) (rd l1 x13_1)) [.int .u8 (Go.bits .xor .u8 (rd l0 x13_1) (rd l1 x13_1))] (fun _=>True) (fun _=>False) rfl rfl ?aP (fun _ hk=>hk.elim) ?aF ?aO ?aB ?aS ?aL ?_
        (case aP=>exact rfl)
        (case aB=>exact bq)
        (case aF=>exact(fun _ _=>trivial))
        (case aO=>exact(pR HO_5.out))
        (case aS=>exact(zah bq))
        (case aL=>have:=LMc10.out;omega)
        intro v780 w12 ho hb hg hat
        rw[← Ny779.out] at ho
        have n_:=jA2 (hb) (ho)
        clear HB HO_5
        obtain⟨HB,HO781⟩:=n_
        clear ho hb hg hat
        refine hK.out _ _ ⟨(jcB HB.out hw777_0:),(jcB HB.out hw778_0:)⟩ (fun hHeld=>?_)
        clear hK K
        refine norm_ (a':=?_) ?_ ?_
        rotate_left
        ·show Act.put _ (some 27) _=_
         simp only[Act.put,zaa,zae,zaf,i64_w,i32_w]
         rfl
        refine pu 12 5 HT_.out ?_
        refine done_ (done_of HT_.out (by kernel_rfl)) ?_
        try go_wp2
        go_roundg k1
        case measure=>have:=HK1.out;omega
        case rel=>exact⟨(y779),(wrap64 (x13_1+1)),jer,H',⟨by have:=HK1.out;omega⟩,⟨pR HO781.out⟩,⟨bq⟩⟩
       rw[if_neg c10] at H
       exact absurd H (by simp)
      rw[if_neg c9] at H
      exact absurd H (by simp)
     rw[if_neg c8] at H
     exact absurd H (by simp)
    rw[if_neg c7] at H
    exact absurd H (by simp)
   rw[if_neg c6] at H
   have c6b0:=zbj c6
   clear c6
   obtain rfl:=Option.some.inj H
   go_wp2
   go_ret
   exact⟨_,by first | rfl | (simp [errW_none,errW_some] <;> rfl) | (simp only[← hji3];first | rfl | (simp [errW_none,errW_some] <;> rfl)) | (simp [*,errW_none,errW_some] <;> rfl),by(with_reducible repeat(first | apply zat | apply zau | apply zar));exact HO_5.out,bq⟩
end Go.Proofs.Ytienlgcjohpphaa.P
