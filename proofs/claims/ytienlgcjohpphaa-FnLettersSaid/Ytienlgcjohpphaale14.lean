import Derived.Test.Ytienlgcjohpphaale13
import Derived.Test.Ytienlgcjohpphaale12
namespace Go.Proofs.Ytienlgcjohpphaa.P
open Go.RowKit Go.Proofs.YtienlgcjohpphaaW.PrintWords Go.Proofs.YtienlgcjohpphaaW.PrintLast Go.Proofs.YtienlgcjohpphaaW.PrintMore
attribute [local go_sem] zcn zco zdk zdl zce zcf zcp zcq -- for this text's walks alone
set_option linter.unusedVariables false
set_option linter.unusedSimpArgs false
set_option maxHeartbeats 8000000
set_option maxRecDepth 100000

def spec_WordBytes.l0:Nat→List Int→Bool→List Int→Int→Option (List Int)
 | 0,_,_,_,_=>none
 | k+1,x0,x1,x5,x6=>if x6<(x0.length:Int) then(if x1=true then(if 0≤x6 then((spec_Word.f (rd x0 x6)).bind fun t382=>((spec_Great.f k t382 4).bind fun t383=>(if x5.length+t383.length<140737488355328 then(spec_WordBytes.l0 k x0 x1 (x5++t383) (wrap64 (x6+1))) else(none)))) else(none)) else(if 0≤x6 then((spec_Word.f (rd x0 x6)).bind fun t390=>((spec_Little.f k t390 4).bind fun t391=>(if x5.length+t391.length<140737488355328 then(spec_WordBytes.l0 k x0 x1 (x5++t391) (wrap64 (x6+1))) else(none)))) else(none))) else(some x5)
def spec_WordBytes.f (k:Nat) (l0:List Int) (a1:Bool):Option (List Int):=spec_WordBytes.l0 k l0 a1 (([]:List Int)) 0
theorem spec_WordBytes.mono_l:∀ k,(∀ y0 y1 y2 y3,LeO (spec_WordBytes.l0 k y0 y1 y2 y3) (spec_WordBytes.l0 (k+1) y0 y1 y2 y3))
 | 0=>fun _ _ _ _ r h=>by simp [spec_WordBytes.l0] at h
 | k+1=>by
  have ih0:=spec_WordBytes.mono_l k
  intro y0 y1 y2 y3
  unfold spec_WordBytes.l0
  have m0:=@spec_Great.mono
  have m1:=@spec_Little.mono
  exact mt
theorem spec_WordBytes.mono:∀ a0 a1 k,LeO (spec_WordBytes.f k a0 a1) (spec_WordBytes.f (k+1) a0 a1):=by
 intro a0 a1 k
 have ih0:=spec_WordBytes.mono_l k
 unfold spec_WordBytes.f
 have m0:=@spec_Great.mono
 have m1:=@spec_Little.mono
 exact mt
theorem spec_WordBytes.calls (k:Nat) (A0:Option Addr) (c0:Nat) (l0:List Int) (a1:Bool) (r:List Int) (w:World) (hr0:Kd.C (Kd.int .i64) w A0 l0.length l0) (hc0:l0.length≤c0) (h:spec_WordBytes.f k l0 a1=some r):
  Calls Try.prog 76 #[.slice A0 l0.length c0, .bool a1] w fun e w'=>∃ v0_:Value,e= .returned (v0_)∧Kd.R (Kd.int .u8) 5 w' w.heap.size (fun _=>True) v0_ r∧Below w.heap.size w w':=by
 have HR0:=Aside0.mk hr0
 have HC0:=Aside0.mk hc0
 clear hr0 hc0
 have HB:=Aside0.mk (zbk w.heap.size w)
 have H:(spec_WordBytes.l0 k l0 a1 (([]:List Int)) 0)=some r:=h
 clear h
 obtain⟨y378,hy378⟩:∃ y_:List Int,y_=(([]:List Int)):=⟨_,rfl⟩
 replace H:(spec_WordBytes.l0 k l0 a1 y378 0)=some r:=jrw hy378 H
 have Ny378:=Aside0.mk hy378
 clear hy378
 have H':=Aside0.mk H
 clear H
 go_enter Try.func76,Try.ntmps76
 go_wp2_with (first | (refine jgd 7 ?_;refine jlt 7 (Kd.int .u8) 5 ?_;intro v379 w3 ho4 hb;have xb_:=below_ofs bq hb;(first | rw[← Ny378.out] at ho4 | (simp only[Int.reduceToNat] at ho4;rw[← Ny378.out] at ho4));have n_:=jA2 (zaq ho4 (zah xb_)) (zal xb_ hb);clear HB;obtain⟨HO380,HB⟩:=n_;clear xb_ hb ho4))
 go_loopg [5,6] k (fun kq v5 v6 w'=>∃ (x5_1:List Int) (x6_1:Int),v6= .int .i64 x6_1∧Aside0 (spec_WordBytes.l0 kq l0 a1 x5_1 x6_1=some r)∧Aside0 (kq≤k)∧Aside0 (Kd.R (Kd.int .u8) 5 w' w.heap.size (fun _=>True) v5 x5_1)∧Aside0 (Below w.heap.size w w'))
 case atStart=>exact⟨(y378),(0),jer,H',⟨zav _⟩,⟨pR HO380.out⟩,⟨bq⟩⟩
 case round=>
  clear H'
  try clear p2
  obtain⟨x5_1,x6_1,rfl,HA,HK1,HO_5,HB⟩:=hrel
  cases gk with
  | zero=>exact absurd HA.out (by simp [spec_WordBytes.l0])
  | succ k1=>
   have H:=HA.out
   clear HA
   simp only[spec_WordBytes.l0] at H
   by_cases c5:x6_1<(l0.length:Int)
   ·rw[if_pos c5] at H
    have c5b0:=zab c5
    clear c5
    by_cases c6:a1=true
    ·subst c6
     rw[if_pos rfl] at H
     by_cases c7:0≤x6_1
     ·rw[if_pos c7] at H
      have c7b0:=zab c7
      clear c7
      obtain⟨t382,A8,H⟩:=bnd H
      obtain⟨t383,A9,H⟩:=bnd H
      by_cases c10:x5_1.length+t383.length<140737488355328
      ·rw[if_pos c10] at H
       have LMc10:=Aside0.mk c10
       clear c10
       obtain⟨y386,hy386⟩:∃ y_:List Int,y_=(x5_1++t383):=⟨_,rfl⟩
       replace H:(spec_WordBytes.l0 k1 l0 true y386 (wrap64 (x6_1+1)))=some r:=jrw hy386 H
       have Ny386:=Aside0.mk hy386
       clear hy386
       have H':=Aside0.mk H
       clear H
       have p381:0≤(x6_1:Int):=zad jab
       have q381:x6_1<(l0.length:Int):=zad jab
       obtain⟨ad381,e381,hx381_0⟩:=zcd HR0.out x6_1 p381 q381
       cases e381
       replace hx381_0:=jcB HB.out hx381_0
       replace p381:=zas p381
       replace q381:=zas q381
       go_wp2_with (first | (refine jgc 69 ?_;refine jgs 20 Try.func69 #[.int .i64 (rd l0 x6_1)] ?_;(with_reducible refine(spec_Word.calls (rd l0 x6_1) t382 _ A8.out).mono ?_);rintro e w' ⟨rfl,⟨nd,rfl⟩⟩;refine⟨_,rfl,?_⟩) | (refine jgc 86 ?_;refine jgs 21 Try.func86 #[.int .i64 t382, .int .i64 4] ?_;(with_reducible refine(spec_Great.calls k1 t382 4 t383 _ A9.out).mono ?_);rintro e w11 ⟨v384,rfl,ho0,hb⟩;refine⟨_,rfl,?_⟩;have xb_:=below_ofs bq hb;have qHO_5:=Kd.R_ofs (pR HO_5.out) hb;have n_:=jA3 (zbp qHO_5 (zba ho0) hb) (zaq (zby ho0 (zca qHO_5)) (zah xb_)) (zal xb_ hb);clear qHO_5 HO_5 HB;obtain⟨HO_5,HO385,HB⟩:=n_;clear xb_ hb ho0;obtain⟨Ao13,co13,eo13⟩:=zbb HO385.out;subst eo13) | ((with_reducible refine zde (b:= .append) (xs:= #[.tmp 15, .tmp 21]) rfl ?_);at_builtin;refine zdw (Kd.int .u8) (w0:=w) w.heap.size rfl (.tmp 15) (.tmp 21) 23 5 (.int .u8 0) 1 rfl Try.underlying23 info5 rfl (by decide) (by omega) u5 x5_1 t383 _ _ _ (fun k_=>some k_≠(.slice Ao13 t383.length co13:Value).ownBlock) (fun _=>False) rfl rfl ?aO ?aR (fun _ _ h=>h) (fun _ h=>h.elim) ?aF ?aB ?aS ?aL ?_;(case aR=>repeat(first | exact(zam HO385.out).2.2 | (with_reducible first | apply zbs | apply zbt | apply zcg)));(case aB=>exact bq);(case aF=>exact(fun k_ hk=>zdv (zca (pR HO385.out)) k_ hk));(case aO=>exact(by(with_reducible repeat(first | apply zat | apply zau | apply zar));exact zao HO_5.out (fun _ hk=>hk.2)));(case aS=>exact(zah bq));(case aL=>have:=LMc10.out;omega);intro v387 w12 ho hb hg hat;rw[← Ny386.out] at ho;have n_:=jA3 (zdu (ok:=(fun _=>True)) (pR HO385.out) hg hat) (hb) (ho);clear HO385 HB HO_5;obtain⟨HO385,HB,HO388⟩:=n_;clear ho hb hg hat))
       go_roundg k1
       case measure=>have:=HK1.out;omega
       case rel=>exact⟨(y386),(wrap64 (x6_1+1)),jer,H',⟨by have:=HK1.out;omega⟩,⟨tqR HO388.out⟩,⟨bq⟩⟩
      rw[if_neg c10] at H
      exact absurd H (by simp)
     rw[if_neg c7] at H
     exact absurd H (by simp)
    replace c6:=zds.mpr c6
    subst c6
    rw[if_neg (show ¬(false=true) by decide)] at H
    by_cases c14:0≤x6_1
    ·rw[if_pos c14] at H
     have c14b0:=zab c14
     clear c14
     obtain⟨t390,A15,H⟩:=bnd H
     obtain⟨t391,A16,H⟩:=bnd H
     by_cases c17:x5_1.length+t391.length<140737488355328
     ·rw[if_pos c17] at H
      have LMc17:=Aside0.mk c17
      clear c17
      obtain⟨y394,hy394⟩:∃ y_:List Int,y_=(x5_1++t391):=⟨_,rfl⟩
      replace H:(spec_WordBytes.l0 k1 l0 false y394 (wrap64 (x6_1+1)))=some r:=jrw hy394 H
      have Ny394:=Aside0.mk hy394
      clear hy394
      have H':=Aside0.mk H
      clear H
      have p389:0≤(x6_1:Int):=zad jab
      have q389:x6_1<(l0.length:Int):=zad jab
      obtain⟨ad389,e389,hx389_0⟩:=zcd HR0.out x6_1 p389 q389
      cases e389
      replace hx389_0:=jcB HB.out hx389_0
      replace p389:=zas p389
      replace q389:=zas q389
      go_wp2_with (first | (refine jgc 69 ?_;refine jgs 28 Try.func69 #[.int .i64 (rd l0 x6_1)] ?_;(with_reducible refine(spec_Word.calls (rd l0 x6_1) t390 _ A15.out).mono ?_);rintro e w' ⟨rfl,⟨nd,rfl⟩⟩;refine⟨_,rfl,?_⟩) | (refine jgc 104 ?_;refine jgs 29 Try.func104 #[.int .i64 t390, .int .i64 4] ?_;(with_reducible refine(spec_Little.calls k1 t390 4 t391 _ A16.out).mono ?_);rintro e w18 ⟨v392,rfl,ho0,hb⟩;refine⟨_,rfl,?_⟩;have xb_:=below_ofs bq hb;have qHO_5:=Kd.R_ofs (pR HO_5.out) hb;have n_:=jA3 (zbp qHO_5 (zba ho0) hb) (zaq (zby ho0 (zca qHO_5)) (zah xb_)) (zal xb_ hb);clear qHO_5 HO_5 HB;obtain⟨HO_5,HO393,HB⟩:=n_;clear xb_ hb ho0;obtain⟨Ao20,co20,eo20⟩:=zbb HO393.out;subst eo20) | ((with_reducible refine zde (b:= .append) (xs:= #[.tmp 23, .tmp 29]) rfl ?_);at_builtin;refine zdw (Kd.int .u8) (w0:=w) w.heap.size rfl (.tmp 23) (.tmp 29) 23 5 (.int .u8 0) 1 rfl Try.underlying23 info5 rfl (by decide) (by omega) u5 x5_1 t391 _ _ _ (fun k_=>some k_≠(.slice Ao20 t391.length co20:Value).ownBlock) (fun _=>False) rfl rfl ?aO ?aR (fun _ _ h=>h) (fun _ h=>h.elim) ?aF ?aB ?aS ?aL ?_;(case aR=>repeat(first | exact(zam HO393.out).2.2 | (with_reducible first | apply zbs | apply zbt | apply zcg)));(case aB=>exact bq);(case aF=>exact(fun k_ hk=>zdv (zca (pR HO393.out)) k_ hk));(case aO=>exact(by(with_reducible repeat(first | apply zat | apply zau | apply zar));exact zao HO_5.out (fun _ hk=>hk.2)));(case aS=>exact(zah bq));(case aL=>have:=LMc17.out;omega);intro v395 w19 ho hb hg hat;rw[← Ny394.out] at ho;have n_:=jA3 (zdu (ok:=(fun _=>True)) (pR HO393.out) hg hat) (hb) (ho);clear HO393 HB HO_5;obtain⟨HO393,HB,HO396⟩:=n_;clear ho hb hg hat))
      go_roundg k1
      case measure=>have:=HK1.out;omega
      case rel=>exact⟨(y394),(wrap64 (x6_1+1)),jer,H',⟨by have:=HK1.out;omega⟩,⟨tqR HO396.out⟩,⟨bq⟩⟩
     rw[if_neg c17] at H
     exact absurd H (by simp)
    rw[if_neg c14] at H
    exact absurd H (by simp)
   rw[if_neg c5] at H
   have c5b0:=zbj c5
   clear c5
   obtain rfl:=Option.some.inj H
   go_wp2
   go_ret
   exact⟨_,jex,by(with_reducible repeat(first | apply zat | apply zau | apply zar));exact HO_5.out,bq⟩
def spec_Hash.l0:Nat→List Int→List Int→Int→Option (List Int)
 | 0,_,_,_=>none
 | k+1,x3,x4,x5=>if(wrap64 (x5+63))<(x3.length:Int) then(if 0≤x5 then(if x5≤(wrap64 (x5+64)) then(if(wrap64 (x5+64))≤(x3.length:Int) then((spec_HashBlock.f k x4 ((x3.take ((wrap64 (x5+64)):Int).toNat).drop (x5:Int).toNat)).bind fun t410=>(spec_Hash.l0 k x3 t410 (wrap64 (x5+64)))) else(none)) else(none)) else(none)) else((spec_WordBytes.f k x4 true).bind fun t413=>(some t413))
def spec_Hash.f (k:Nat) (l0:List Int):Option (List Int):=if(l0.length:Int)>4000 then(some (([]:List Int))) else((spec_HashPad.f k l0).bind fun t400=>((spec_HashStart.f).bind fun t403=>(spec_Hash.l0 k t400 t403 0)))
theorem spec_Hash.mono_l:∀ k,(∀ y0 y1 y2,LeO (spec_Hash.l0 k y0 y1 y2) (spec_Hash.l0 (k+1) y0 y1 y2))
 | 0=>fun _ _ _ r h=>by simp [spec_Hash.l0] at h
 | k+1=>by
  have ih0:=spec_Hash.mono_l k
  intro y0 y1 y2
  unfold spec_Hash.l0
  have m0:=@spec_HashBlock.mono
  have m1:=@spec_HashPad.mono
  have m2:=@spec_WordBytes.mono
  exact mt
theorem spec_Hash.mono:∀ a0 k,LeO (spec_Hash.f k a0) (spec_Hash.f (k+1) a0):=by
 intro a0 k
 have ih0:=spec_Hash.mono_l k
 unfold spec_Hash.f
 have m0:=@spec_HashBlock.mono
 have m1:=@spec_HashPad.mono
 have m2:=@spec_WordBytes.mono
 exact mt
theorem spec_Hash.calls (k:Nat) (A0:Option Addr) (c0:Nat) (l0:List Int) (r:List Int) (w:World) (hr0:Kd.C (Kd.int .u8) w A0 l0.length l0) (hc0:l0.length≤c0) (h:spec_Hash.f k l0=some r):
  Calls Try.prog 24 #[.slice A0 l0.length c0] w fun e w'=>∃ v0_:Value,e= .returned (v0_)∧Kd.R (Kd.int .u8) 5 w' w.heap.size (fun _=>True) v0_ r∧Below w.heap.size w w':=by
 have HR0:=Aside0.mk hr0
 have HC0:=Aside0.mk hc0
 clear hr0 hc0
 have HB:=Aside0.mk (zbk w.heap.size w)
 have H:(if(l0.length:Int)>4000 then(some (([]:List Int))) else((spec_HashPad.f k l0).bind fun t400=>((spec_HashStart.f).bind fun t403=>(spec_Hash.l0 k t400 t403 0))))=some r:=h
 clear h
 by_cases c2:(l0.length:Int)>4000
 ·rw[if_pos c2] at H
  have c2b0:=zab c2
  have c2b1:decide (4000<l0.length)=true:=zab (by omega)
  clear c2
  obtain⟨y397,hy397⟩:∃ y_:List Int,y_=(([]:List Int)):=⟨_,rfl⟩
  replace H:(some y397)=some r:=jrw hy397 H
  have Ny397:=Aside0.mk hy397
  clear hy397
  obtain rfl:=Option.some.inj H
  go_enter Try.func24,Try.ntmps24
  go_wp2_with (first | (refine jgd 9 ?_;refine jlt 9 (Kd.int .u8) 5 ?_;intro v398 w3 ho4 hb;have xb_:=below_ofs bq hb;(first | rw[← Ny397.out] at ho4 | (simp only[Int.reduceToNat] at ho4;rw[← Ny397.out] at ho4));have n_:=jA2 (zaq ho4 (zah xb_)) (zal xb_ hb);clear HB;obtain⟨HO399,HB⟩:=n_;clear xb_ hb ho4))
  go_ret
  exact⟨_,jex,by(with_reducible repeat(first | apply zat | apply zau | apply zar));exact HO399.out,bq⟩
 rw[if_neg c2] at H
 have c2b0:=zbj c2
 have c2b1:decide (4000<l0.length)=false:=zbj (by omega)
 clear c2
 obtain⟨t400,A5,H⟩:=bnd H
 obtain⟨t403,A6,H⟩:=bnd H
 have H':=Aside0.mk H
 clear H
 go_enter Try.func24,Try.ntmps24
 go_wp2_with (first | (refine jgc 33 ?_;refine jgs 11 Try.func33 #[.slice A0 l0.length c0] ?_;(with_reducible refine(spec_HashPad.calls k _ _ l0 t400 _ ?side1 ?side2 A5.out).mono ?_);(case side1=>repeat(first | exact HR0.out | (with_reducible first | apply zbs | apply zbt | apply zcg)));(case side2=>exact HC0.out);rintro e w7 ⟨v401,rfl,ho0,hb⟩;refine⟨_,rfl,?_⟩;have xb_:=below_ofs bq hb;have n_:=jA2 (zaq ho0 (zah xb_)) (zal xb_ hb);clear HB;obtain⟨HO402,HB⟩:=n_;clear xb_ hb ho0) | (refine jgc 75 ?_;refine jgs 12 Try.func75 #[] ?_;(with_reducible refine(spec_HashStart.calls t403 _ A6.out).mono ?_);rintro e w8 ⟨v404,rfl,ho0,hb⟩;refine⟨_,rfl,?_⟩;have xb_:=below_ofs bq hb;have n_:=jA3 (zen (pR HO402.out) hb) (zaq ho0 (zah xb_)) (zal xb_ hb);clear HO402 HB;obtain⟨HO402,HO405,HB⟩:=n_;clear xb_ hb ho0))
 go_loopg [4,5] k (fun kq v4 v5 w'=>∃ (x4_1:List Int) (x5_1:Int),v5= .int .i64 x5_1∧Aside0 (spec_Hash.l0 kq t400 x4_1 x5_1=some r)∧Aside0 (kq≤k)∧Aside0 (Kd.R (Kd.int .u8) 5 w' w.heap.size (fun _=>True) v401 t400)∧Aside0 (Kd.R (Kd.int .i64) 3 w' w.heap.size (fun _=>True) v4 x4_1)∧Aside0 (Below w.heap.size w w'))
 case atStart=>exact⟨(t403),(0),jer,H',⟨zav _⟩,⟨pR HO402.out⟩,⟨pR HO405.out⟩,⟨bq⟩⟩
 case round=>
  clear H'
  try clear c2
  try clear c2b0
  try clear c2b1
  try clear p2
  try clear c3
  try clear c7
  obtain⟨x4_1,x5_1,rfl,HA,HK1,HO_3,HO_4,HB⟩:=hrel
  cases gk with
  | zero=>exact absurd HA.out (by simp [spec_Hash.l0])
  | succ k1=>
   have H:=HA.out
   clear HA
   simp only[spec_Hash.l0] at H
   by_cases c9:(wrap64 (x5_1+63))<(t400.length:Int)
   ·rw[if_pos c9] at H
    have c9b0:=zab c9
    clear c9
    by_cases c10:0≤x5_1
    ·rw[if_pos c10] at H
     have c10b0:=zas c10
     have c10b1:=zab c10
     clear c10
     by_cases c11:x5_1≤(wrap64 (x5_1+64))
     ·rw[if_pos c11] at H
      have c11b0:=zas c11
      have c11b1:=zab c11
      by_cases c12:(wrap64 (x5_1+64))≤(t400.length:Int)
      ·rw[if_pos c12] at H
       have c12b0:=zas c12
       have c12b1:=zab c12
       obtain⟨y406,hy406⟩:∃ y_:List Int,y_=((t400.take ((wrap64 (x5_1+64)):Int).toNat).drop (x5_1:Int).toNat):=⟨_,rfl⟩
       replace H:((spec_HashBlock.f k1 x4_1 y406).bind fun t410=>(spec_Hash.l0 k1 t400 t410 (wrap64 (x5_1+64))))=some r:=jrw hy406 H
       have Ny406:=Aside0.mk hy406
       clear hy406
       obtain⟨t410,A13,H⟩:=bnd H
       have H':=Aside0.mk H
       clear H
       obtain⟨Ao14,co14,eo14⟩:=zbb HO_3.out
       subst eo14
       have q15:((wrap64 (x5_1+64)):Int)≤((t400.length:Int):Int):=zad jab
       obtain⟨i015,hi015,_,hsz15,_⟩:=info_parts info5
       have hroom15:t400.length≤co14:=(zam HO_3.out).2.1
       have hC15:Kd.C (Kd.int .u8) _ Ao14 t400.length t400:=(zam HO_3.out).2.2
       have ql15:(x5_1:Int)≤((wrap64 (x5_1+64)):Int):=zad jab
       have q015:(0:Int)≤(x5_1:Int):=zad jab
       have hcut15:=cut_mid (P:=Try.prog) 23 5 .i64 .i64 Try.underlying23 hi015 1 hsz15 Ao14 t400.length co14 x5_1 (wrap64 (x5_1+64)) q015 ql15 q15 hroom15
       have hr15:=Kd.C_mid (lo:=(x5_1:Int).toNat) (hi:=((wrap64 (x5_1+64)):Int).toNat) (c:=co14) hC15 (by omega) (by omega) hroom15
       obtain⟨A15,hA15⟩:∃ A1,A1=(if co14=(x5_1:Int).toNat then Ao14 else(Ao14:Option Addr).map (·.add ((x5_1:Int).toNat*1))):=⟨_,rfl⟩
       obtain⟨c15,hc15⟩:∃ c1,c1=co14 - (x5_1:Int).toNat:=⟨_,rfl⟩
       have hy15:y406.length=((wrap64 (x5_1+64)):Int).toNat - (x5_1:Int).toNat:=(by rw[Ny406.out,zdb,zdc] <;> omega)
       rw[show((t400).take ((wrap64 (x5_1+64)):Int).toNat).drop (x5_1:Int).toNat=y406 from Ny406.out.symm] at hr15
       replace hr15:Kd.C (Kd.int .u8) _ A15 y406.length y406:=(by rw[hA15];exact hr15)
       rw[← hy15, ← hA15, ← hc15] at hcut15
       have HR409:=Aside0.mk hr15
       have HC409:=Aside0.mk (show y406.length≤c15 from by rw[hy15,hc15];exact zgi (zdo (by omega) hroom15) _)
       clear hr15 hC15 hroom15 hi015 hsz15 hc15
       have KY15:=Aside0.mk hy15
       have KA15:=Aside0.mk hA15
       clear hy15 hA15
       have KL15:=Aside0.mk (show((wrap64 (x5_1+64)):Int).toNat≤t400.length from by omega)
       have KM15:=Aside0.mk (show(x5_1:Int).toNat≤((wrap64 (x5_1+64)):Int).toNat from by omega)
       replace q15:=zas q15
       obtain⟨Ao16,co16,eo16⟩:=zbb HO_4.out
       subst eo16
       go_wp2_with (first | (refine jgc 15 ?_;refine jgs 26 Try.func15 #[.slice Ao16 x4_1.length co16, .slice A15 y406.length c15] ?_;(with_reducible refine(spec_HashBlock.calls k1 _ _ x4_1 _ _ y406 t410 _ ?side1 ?side2 ?side3 ?side4 A13.out).mono ?_);(case side1=>repeat(first | exact(zam HO_4.out).2.2 | (with_reducible first | apply zbs | apply zbt | apply zcg)));(case side2=>exact(zam HO_4.out).2.1);(case side3=>repeat(first | exact(by repeat(first | (with_reducible exact HR409.out) | (with_reducible first | apply zbs | apply zbt | apply zcg) | exact HR409.out)) | (with_reducible first | apply zbs | apply zbt | apply zcg)));(case side4=>exact HC409.out);rintro e w17 ⟨v411,rfl,ho0,hb⟩;refine⟨_,rfl,?_⟩;have xb_:=below_ofs bq hb;have n0_:=Aside0.mk (zen (pR HO_3.out) hb);have qHO_4:=Kd.R_ofs (pR HO_4.out) hb;have n1_:=Aside0.mk (zbp qHO_4 (zba ho0) hb);have n2_:=Aside0.mk (zaq (zby ho0 (zca qHO_4)) (zah xb_));have n3_:=Aside0.mk (Kd.C_below (by repeat(first | (with_reducible exact HR409.out) | (with_reducible first | apply zbs | apply zbt | apply zcg) | exact HR409.out)) hb);have n4_:=Aside0.mk (zal xb_ hb);clear qHO_4 HO_3;clear HO_4 HR409 HB;have HO_3:=n0_;have HO_4:=n1_;have HO412:=n2_;have HR409:=n3_;have HB:=n4_;clear n0_ n1_ n2_ n3_ n4_;clear xb_ hb ho0))
       go_roundg k1
       case measure=>have:=HK1.out;omega
       case rel=>exact⟨(t410),(wrap64 (x5_1+64)),jer,H',⟨by have:=HK1.out;omega⟩,⟨pR HO_3.out⟩,⟨tqR HO412.out⟩,⟨bq⟩⟩
      rw[if_neg c12] at H
      exact absurd H (by simp)
     rw[if_neg c11] at H
     exact absurd H (by simp)
    rw[if_neg c10] at H
    exact absurd H (by simp)
   rw[if_neg c9] at H
   have c9b0:=zbj c9
   clear c9
   obtain⟨t413,A18,H⟩:=bnd H
   obtain rfl:=Option.some.inj H
   obtain⟨Ao19,co19,eo19⟩:=zbb HO_3.out
   subst eo19
   obtain⟨Ao20,co20,eo20⟩:=zbb HO_4.out
   subst eo20
   go_wp2_with (first | (refine jgc 76 ?_;refine jgs 28 Try.func76 #[.slice Ao20 x4_1.length co20, .bool true] ?_;(with_reducible refine(spec_WordBytes.calls k1 _ _ x4_1 true t413 _ ?side1 ?side2 A18.out).mono ?_);(case side1=>repeat(first | exact(zam HO_4.out).2.2 | (with_reducible first | apply zbs | apply zbt | apply zcg)));(case side2=>exact(zam HO_4.out).2.1);rintro e w21 ⟨v414,rfl,ho0,hb⟩;refine⟨_,rfl,?_⟩;have xb_:=below_ofs bq hb;have qHO_3:=Kd.R_ofs (pR HO_3.out) hb;have n_:=jA4 (zbp qHO_3 (zba ho0) hb) (zen (pR HO_4.out) hb) (zaq (zby ho0 (zca qHO_3)) (zah xb_)) (zal xb_ hb);clear qHO_3 HO_3 HO_4 HB;obtain⟨HO_3,HO_4,HO415,HB⟩:=n_;clear xb_ hb ho0))
   go_ret
   exact⟨_,jex,tqR HO415.out,bq⟩
end Go.Proofs.Ytienlgcjohpphaa.P
