import Derived.Test.Ytienlgcjohpphaale26
namespace Go.Proofs.Ytienlgcjohpphaa.P
open Go.RowKit Go.Proofs.YtienlgcjohpphaaW.PrintWords Go.Proofs.YtienlgcjohpphaaW.PrintLast Go.Proofs.YtienlgcjohpphaaW.PrintMore
attribute [local go_sem] zcn zco zdk zdl zce zcf zcp zcq -- for this text's walks alone
set_option linter.unusedVariables false
set_option linter.unusedSimpArgs false
set_option maxHeartbeats 8000000
set_option maxRecDepth 100000

def spec_l1Below.f (s0_0:List Int) (s0_1:Int) (s0_2:Int) (a1:Int):Option (Int×Int×Int):=if a1≤0 then(some (0,s0_1,s0_2)) else(if a1≤256 then((spec_l1Byte.f s0_0 s0_1 s0_2).bind fun bt525=>(if a1=0 then(none) else(some (Int.tmod bt525.1 a1,bt525.2.1,bt525.2.2)))) else((spec_l1Byte.f s0_0 s0_1 s0_2).bind fun bt528=>((spec_l1Byte.f s0_0 bt528.2.1 bt528.2.2).bind fun bt531=>((spec_l1Byte.f s0_0 bt531.2.1 bt531.2.2).bind fun bt534=>((spec_l1Byte.f s0_0 bt534.2.1 bt534.2.2).bind fun bt537=>(if a1=0 then(none) else(some (Int.tmod (wrap64 ((wrap64 ((wrap64 ((wrap64 (bt528.1*16777216))+(wrap64 (bt531.1*65536))))+(wrap64 (bt534.1*256))))+bt537.1)) a1,bt537.2.1,bt537.2.2))))))))
theorem spec_l1Below.wk {P:Prop} (h:P:=by
 go_enter Try.func83,Try.ntmps83
 go_wp2_with (first | (refine jgc 108 ?_;refine jgs 18 Try.func108 #[.pointer (some ⟨g,0,none⟩)] ?_;(with_reducible refine(spec_l1Byte.calls g s0_0 s0_1 s0_2 t528 t529 t530 w0 _ ?side1 ?side2 A8.out).mono ?_);(case side1=>repeat(first | (with_reducible first | exact HI0.out | apply IsS85.alloc | apply IsS85.drewN | apply IsS85.drew | apply IsS85.set_1 | apply IsS85.set_2) | exact HI0.out));(case side2=>repeat(first | (with_reducible first | exact HB.out | apply zbe | apply zap | apply zay | refine zbf ?_ (IsS85.ge HI0.out)) | exact HB.out));rintro e w13 ⟨rfl,hi,hb,hk⟩;refine⟨_,rfl,?_⟩;have n_:=jA3 (zbq jk hk (.inl rfl)) (hb) (hi);clear HK HB HI0;obtain⟨HK,HB,HI0⟩:=n_;(try clear hb);(try clear hb2);(try clear hk);(try clear hi)) | (refine jgc 108 ?_;refine jgs 20 Try.func108 #[.pointer (some ⟨g,0,none⟩)] ?_;(with_reducible refine(spec_l1Byte.calls g s0_0 t529 t530 t531 t532 t533 w0 _ ?side1 ?side2 A9.out).mono ?_);(case side1=>repeat(first | (with_reducible first | exact HI0.out | apply IsS85.alloc | apply IsS85.drewN | apply IsS85.drew | apply IsS85.set_1 | apply IsS85.set_2) | exact HI0.out));(case side2=>repeat(first | (with_reducible first | exact HB.out | apply zbe | apply zap | apply zay | refine zbf ?_ (IsS85.ge HI0.out)) | exact HB.out));rintro e w14 ⟨rfl,hi,hb,hk⟩;refine⟨_,rfl,?_⟩;have n_:=jA3 (zbq jk hk (.inl rfl)) (hb) (hi);clear HK HB HI0;obtain⟨HK,HB,HI0⟩:=n_;(try clear hb);(try clear hb2);(try clear hk);(try clear hi)) | (refine jgc 108 ?_;refine jgs 22 Try.func108 #[.pointer (some ⟨g,0,none⟩)] ?_;(with_reducible refine(spec_l1Byte.calls g s0_0 t532 t533 t534 t535 t536 w0 _ ?side1 ?side2 A10.out).mono ?_);(case side1=>repeat(first | (with_reducible first | exact HI0.out | apply IsS85.alloc | apply IsS85.drewN | apply IsS85.drew | apply IsS85.set_1 | apply IsS85.set_2) | exact HI0.out));(case side2=>repeat(first | (with_reducible first | exact HB.out | apply zbe | apply zap | apply zay | refine zbf ?_ (IsS85.ge HI0.out)) | exact HB.out));rintro e w15 ⟨rfl,hi,hb,hk⟩;refine⟨_,rfl,?_⟩;have n_:=jA3 (zbq jk hk (.inl rfl)) (hb) (hi);clear HK HB HI0;obtain⟨HK,HB,HI0⟩:=n_;(try clear hb);(try clear hb2);(try clear hk);(try clear hi)) | (refine jgc 108 ?_;refine jgs 24 Try.func108 #[.pointer (some ⟨g,0,none⟩)] ?_;(with_reducible refine(spec_l1Byte.calls g s0_0 t535 t536 t537 t538 t539 w0 _ ?side1 ?side2 A11.out).mono ?_);(case side1=>repeat(first | (with_reducible first | exact HI0.out | apply IsS85.alloc | apply IsS85.drewN | apply IsS85.drew | apply IsS85.set_1 | apply IsS85.set_2) | exact HI0.out));(case side2=>repeat(first | (with_reducible first | exact HB.out | apply zbe | apply zap | apply zay | refine zbf ?_ (IsS85.ge HI0.out)) | exact HB.out));rintro e w16 ⟨rfl,hi,hb,hk⟩;refine⟨_,rfl,?_⟩;have n_:=jA3 (zbq jk hk (.inl rfl)) (hb) (hi);clear HK HB HI0;obtain⟨HK,HB,HI0⟩:=n_;(try clear hb);(try clear hb2);(try clear hk);(try clear hi)) | (refine jgc 108 ?_;refine jgs 14 Try.func108 #[.pointer (some ⟨g,0,none⟩)] ?_;(with_reducible refine(spec_l1Byte.calls g s0_0 s0_1 s0_2 t525 t526 t527 w0 _ ?side1 ?side2 A5.out).mono ?_);(case side1=>repeat(first | (with_reducible first | exact HI0.out | apply IsS85.alloc | apply IsS85.drewN | apply IsS85.drew | apply IsS85.set_1 | apply IsS85.set_2) | exact HI0.out));(case side2=>repeat(first | (with_reducible first | exact HB.out | apply zbe | apply zap | apply zay | refine zbf ?_ (IsS85.ge HI0.out)) | exact HB.out));rintro e w7 ⟨rfl,hi,hb,hk⟩;refine⟨_,rfl,?_⟩;have n_:=jA3 (zbq jk hk (.inl rfl)) (hb) (hi);clear HK HB HI0;obtain⟨HK,HB,HI0⟩:=n_;(try clear hb);(try clear hb2);(try clear hk);(try clear hi)))
 go_ret
 exact⟨jex,by repeat(first | (with_reducible first | exact HI0.out | apply IsS85.alloc | apply IsS85.drewN | apply IsS85.drew | apply IsS85.set_1 | apply IsS85.set_2) | exact HI0.out),by repeat(first | (with_reducible first | exact HB.out | apply zbe | apply zap | apply zay | refine zbf ?_ (IsS85.ge HI0.out)) | exact HB.out),by repeat(first | (with_reducible first | exact HK.out | apply zeu | apply zfb | apply zft | apply zfc) | exact HK.out)⟩):P:=h
theorem spec_l1Below.calls (g:Nat) (s0_0:List Int) (s0_1:Int) (s0_2:Int) (a1:Int) (r1:Int) (r2:Int) (r3:Int) (w0 w:World) (hI:IsS85 w0 w g s0_0 s0_1 s0_2) (hB:Below w0.heap.size w0 w) (h:spec_l1Below.f s0_0 s0_1 s0_2 a1=some (r1,r2,r3)):
  Calls Try.prog 83 #[.pointer (some ⟨g,0,none⟩), .int .i64 a1] w fun e w'=>e= .returned (.int .i64 r1)∧IsS85 w0 w' g s0_0 r2 r3∧Below w0.heap.size w0 w'∧KeepBut w w' g none:=by
 have HI0:=Aside0.mk hI
 have HK:=Aside0.mk (KeepBut.refl w g none)
 have HL:=Aside0.mk hB.size
 clear hI
 have HW0:=Aside0.mk hB.size
 have HB:=Aside0.mk hB
 clear hB
 have H:(if a1≤0 then(some (0,s0_1,s0_2)) else(if a1≤256 then((spec_l1Byte.f s0_0 s0_1 s0_2).bind fun bt525=>(if a1=0 then(none) else(some (Int.tmod bt525.1 a1,bt525.2.1,bt525.2.2)))) else((spec_l1Byte.f s0_0 s0_1 s0_2).bind fun bt528=>((spec_l1Byte.f s0_0 bt528.2.1 bt528.2.2).bind fun bt531=>((spec_l1Byte.f s0_0 bt531.2.1 bt531.2.2).bind fun bt534=>((spec_l1Byte.f s0_0 bt534.2.1 bt534.2.2).bind fun bt537=>(if a1=0 then(none) else(some (Int.tmod (wrap64 ((wrap64 ((wrap64 ((wrap64 (bt528.1*16777216))+(wrap64 (bt531.1*65536))))+(wrap64 (bt534.1*256))))+bt537.1)) a1,bt537.2.1,bt537.2.2)))))))))=some (r1,r2,r3):=h
 clear h
 by_cases c3:a1≤0
 ·rw[if_pos c3] at H
  have c3b0:=zab c3
  clear c3
  simp only[zcb,zcu] at H
  obtain⟨rfl,rfl,rfl⟩:=H
  exact spec_l1Below.wk
 rw[if_neg c3] at H
 have c3b0:=zbj c3
 clear c3
 by_cases c4:a1≤256
 ·rw[if_pos c4] at H
  have c4b0:=zab c4
  clear c4
  obtain⟨⟨t525,t526,t527⟩,A5,H⟩:=bnd H
  try dsimp only at H
  by_cases c6:a1=0
  ·rw[if_pos c6] at H
   exact absurd H (by simp)
  rw[if_neg c6] at H
  have c6b0:=zcl.mpr c6
  have c6b1:=zez.mpr c6
  simp only[zcb,zcu] at H
  obtain⟨rfl,rfl,rfl⟩:=H
  exact spec_l1Below.wk
 rw[if_neg c4] at H
 have c4b0:=zbj c4
 clear c4
 obtain⟨⟨t528,t529,t530⟩,A8,H⟩:=bnd H
 try dsimp only at H
 obtain⟨⟨t531,t532,t533⟩,A9,H⟩:=bnd H
 try dsimp only at H
 obtain⟨⟨t534,t535,t536⟩,A10,H⟩:=bnd H
 try dsimp only at H
 obtain⟨⟨t537,t538,t539⟩,A11,H⟩:=bnd H
 try dsimp only at H
 by_cases c12:a1=0
 ·rw[if_pos c12] at H
  exact absurd H (by simp)
 rw[if_neg c12] at H
 have c12b0:=zcl.mpr c12
 have c12b1:=zez.mpr c12
 simp only[zcb,zcu] at H
 obtain⟨rfl,rfl,rfl⟩:=H
 exact spec_l1Below.wk
def spec_l1PickInt.f (s0_0:List Int) (s0_1:Int) (s0_2:Int) (l1:List Int):Option (Int×Int×Int):=(spec_l1Below.f s0_0 s0_1 s0_2 (l1.length:Int)).bind fun bt587=>(if 0≤bt587.1 then(if bt587.1<(l1.length:Int) then(some (rd l1 bt587.1,bt587.2.1,bt587.2.2)) else(none)) else(none))
theorem spec_l1PickInt.calls (g:Nat) (s0_0:List Int) (s0_1:Int) (s0_2:Int) (A1:Option Addr) (c1:Nat) (l1:List Int) (r1:Int) (r2:Int) (r3:Int) (w0 w:World) (hI:IsS85 w0 w g s0_0 s0_1 s0_2) (hB:Below w0.heap.size w0 w) (hr1:Kd.C (Kd.int .i64) w A1 l1.length l1) (hc1:l1.length≤c1) (hf1:∀ ad,A1=some ad→0<l1.length→ad.block≠g) (h:spec_l1PickInt.f s0_0 s0_1 s0_2 l1=some (r1,r2,r3)):
  Calls Try.prog 107 #[.pointer (some ⟨g,0,none⟩), .slice A1 l1.length c1] w fun e w'=>e= .returned (.int .i64 r1)∧IsS85 w0 w' g s0_0 r2 r3∧Below w0.heap.size w0 w'∧KeepBut w w' g none:=by
 have HR1:=Aside0.mk hr1
 have HC1:=Aside0.mk hc1
 clear hr1 hc1
 have HI0:=Aside0.mk hI
 have HK:=Aside0.mk (KeepBut.refl w g none)
 have HL:=Aside0.mk hB.size
 clear hI
 have HW0:=Aside0.mk hB.size
 have HB:=Aside0.mk hB
 clear hB
 have H:((spec_l1Below.f s0_0 s0_1 s0_2 (l1.length:Int)).bind fun bt587=>(if 0≤bt587.1 then(if bt587.1<(l1.length:Int) then(some (rd l1 bt587.1,bt587.2.1,bt587.2.2)) else(none)) else(none)))=some (r1,r2,r3):=h
 clear h
 obtain⟨⟨t587,t588,t589⟩,A3,H⟩:=bnd H
 try dsimp only at H
 by_cases c4:0≤t587
 ·rw[if_pos c4] at H
  have c4b0:=zab c4
  clear c4
  by_cases c5:t587<(l1.length:Int)
  ·rw[if_pos c5] at H
   have c5b0:=zab c5
   clear c5
   simp only[zcb,zcu] at H
   obtain⟨rfl,rfl,rfl⟩:=H
   go_enter Try.func107,Try.ntmps107
   go_wp2_with (first | (refine jgc 83 ?_;refine jgs 9 Try.func83 #[.pointer (some ⟨g,0,none⟩), .int .i64 (l1.length:Int)] ?_;(with_reducible refine(spec_l1Below.calls g s0_0 s0_1 s0_2 (l1.length:Int) t587 t588 t589 w0 _ ?side1 ?side2 A3.out).mono ?_);(case side1=>repeat(first | (with_reducible first | exact HI0.out | apply IsS85.alloc | apply IsS85.drewN | apply IsS85.drew | apply IsS85.set_1 | apply IsS85.set_2) | exact HI0.out));(case side2=>repeat(first | (with_reducible first | exact HB.out | apply zbe | apply zap | apply zay | refine zbf ?_ (IsS85.ge HI0.out)) | exact HB.out));rintro e w6 ⟨rfl,hi,hb,hk⟩;refine⟨_,rfl,?_⟩;have n_:=jA3 (zbq jk hk (.inl rfl)) (hb) (hi);clear HK HB HI0;obtain⟨HK,HB,HI0⟩:=n_;(try clear hb);(try clear hb2);(try clear hk);(try clear hi);have p590:0≤(t587:Int):=zad jab;have q590:t587<(l1.length:Int):=zad jab;obtain⟨ad590,e590,hx590_0⟩:=zcd HR1.out t587 p590 q590;cases e590;replace hx590_0:=keep_cell HK.out hx590_0 (by first | (rw[zdf];exact hf1 _ rfl (by omega)) | exact hf1 _ rfl (by omega) | exact hf1 ad590 rfl (by omega));replace p590:=zas p590;replace q590:=zas q590))
   go_ret
   exact⟨jex,by repeat(first | (with_reducible first | exact HI0.out | apply IsS85.alloc | apply IsS85.drewN | apply IsS85.drew | apply IsS85.set_1 | apply IsS85.set_2) | exact HI0.out),by repeat(first | (with_reducible first | exact HB.out | apply zbe | apply zap | apply zay | refine zbf ?_ (IsS85.ge HI0.out)) | exact HB.out),by repeat(first | (with_reducible first | exact HK.out | apply zeu | apply zfb | apply zft | apply zfc) | exact HK.out)⟩
  rw[if_neg c5] at H
  exact absurd H (by simp)
 rw[if_neg c4] at H
 exact absurd H (by simp)
def spec_l1DrawJust.l0:Nat→Int→List Int→Int→List Int→Int→Int→Option (List Int×Int×Int)
 | 0,_,_,_,_,_,_=>none
 | k+1,x1,x5,x6,x1000,x1001,x1002=>if x6<x1 then((spec_l1Below.f x1000 x1001 x1002 256).bind fun bt600=>(if x5.length<140737488355328 then(spec_l1DrawJust.l0 k x1 (x5++[(bt600.1) % 256]) (wrap64 (x6+1)) x1000 bt600.2.1 bt600.2.2) else(none))) else(some (x5,x1001,x1002))
def spec_l1DrawJust.f (k:Nat) (s0_0:List Int) (s0_1:Int) (s0_2:Int) (a1:Int):Option (List Int×Int×Int):=spec_l1DrawJust.l0 k a1 (([]:List Int)) 0 s0_0 s0_1 s0_2
theorem spec_l1DrawJust.mono_l:∀ k,(∀ y0 y1 y2 y3 y4 y5,LeO (spec_l1DrawJust.l0 k y0 y1 y2 y3 y4 y5) (spec_l1DrawJust.l0 (k+1) y0 y1 y2 y3 y4 y5))
 | 0=>fun _ _ _ _ _ _ r h=>by simp [spec_l1DrawJust.l0] at h
 | k+1=>by
  have ih0:=spec_l1DrawJust.mono_l k
  intro y0 y1 y2 y3 y4 y5
  unfold spec_l1DrawJust.l0
  exact mt
theorem spec_l1DrawJust.mono:∀ a0 a1 a2 a3 k,LeO (spec_l1DrawJust.f k a0 a1 a2 a3) (spec_l1DrawJust.f (k+1) a0 a1 a2 a3):=by
 intro a0 a1 a2 a3 k
 have ih0:=spec_l1DrawJust.mono_l k
 unfold spec_l1DrawJust.f
 exact mt
theorem spec_l1DrawJust.calls (k:Nat) (g:Nat) (s0_0:List Int) (s0_1:Int) (s0_2:Int) (a1:Int) (r1:List Int) (r2:Int) (r3:Int) (w0 w:World) (hI:IsS85 w0 w g s0_0 s0_1 s0_2) (hB:Below w0.heap.size w0 w) (h:spec_l1DrawJust.f k s0_0 s0_1 s0_2 a1=some (r1,r2,r3)):
  Calls Try.prog 109 #[.pointer (some ⟨g,0,none⟩), .int .i64 a1] w fun e w'=>∃ v0_:Value,e= .returned (v0_)∧Kd.R (Kd.int .u8) 5 w' w.heap.size (fun _=>True) v0_ r1∧IsS85 w0 w' g s0_0 r2 r3∧Below w0.heap.size w0 w'∧KeepBut w w' g none:=by
 have HI0:=Aside0.mk hI
 have HK:=Aside0.mk (KeepBut.refl w g none)
 have HL:=Aside0.mk hB.size
 clear hI
 have HW0:=Aside0.mk hB.size
 have HB:=Aside0.mk hB
 clear hB
 have H:(spec_l1DrawJust.l0 k a1 (([]:List Int)) 0 s0_0 s0_1 s0_2)=some (r1,r2,r3):=h
 clear h
 obtain⟨y597,hy597⟩:∃ y_:List Int,y_=(([]:List Int)):=⟨_,rfl⟩
 replace H:(spec_l1DrawJust.l0 k a1 y597 0 s0_0 s0_1 s0_2)=some (r1,r2,r3):=jrw hy597 H
 have Ny597:=Aside0.mk hy597
 clear hy597
 have H':=Aside0.mk H
 clear H
 go_enter Try.func109,Try.ntmps109
 go_wp2_with (first | (refine jgd 7 ?_;refine jlt 7 (Kd.int .u8) 5 ?_;intro v598 w3 ho4 hb;(first | rw[← Ny597.out] at ho4 | (simp only[Int.reduceToNat] at ho4;rw[← Ny597.out] at ho4));have n_:=jA4 (zaq ho4 (zef (w:=w) (g:=g) (row:=none) jk)) (IsS85.below (by repeat(first | (with_reducible first | exact HI0.out | apply IsS85.alloc | apply IsS85.drewN | apply IsS85.drew | apply IsS85.set_1 | apply IsS85.set_2) | exact HI0.out)) hb) (zbq jk (zes hb g none) (.inl rfl)) (zal (bs1 (IsS85.ge HI0.out)) hb);clear HI0 HK HB;obtain⟨HO599,HI0,HK,HB⟩:=n_;clear hb ho4))
 go_loopg [5,6] k (fun kq v5 v6 w'=>∃ (x5_1:List Int) (x6_1:Int) (x1001_1:Int) (x1002_1:Int),v6= .int .i64 x6_1∧Aside0 (spec_l1DrawJust.l0 kq a1 x5_1 x6_1 s0_0 x1001_1 x1002_1=some (r1,r2,r3))∧Aside0 (kq≤k)∧Aside0 (Kd.R (Kd.int .u8) 5 w' w.heap.size (fun _=>True) v5 x5_1)∧Aside0 (IsS85 w0 w' g s0_0 x1001_1 x1002_1)∧Aside0 (KeepBut w w' g none)∧Aside0 (Below w0.heap.size w0 w'))
 case atStart=>exact⟨(y597),(0),(s0_1),(s0_2),jer,H',⟨zav _⟩,⟨pR HO599.out⟩,⟨by repeat(first | (with_reducible first | exact HI0.out | apply IsS85.alloc | apply IsS85.drewN | apply IsS85.drew | apply IsS85.set_1 | apply IsS85.set_2) | exact HI0.out)⟩,⟨by repeat(first | (with_reducible first | exact HK.out | apply zeu | apply zfb | apply zft | apply zfc) | exact HK.out)⟩,⟨bs1 (IsS85.ge HI0.out)⟩⟩
 case round=>
  clear H'
  try clear c1
  try clear p2
  obtain⟨x5_1,x6_1,x1001_1,x1002_1,rfl,HA,HK1,HO_5,HI0,HK,HB⟩:=hrel
  cases gk with
  | zero=>exact absurd HA.out (by simp [spec_l1DrawJust.l0])
  | succ k1=>
   have H:=HA.out
   clear HA
   simp only[spec_l1DrawJust.l0] at H
   by_cases c5:x6_1<a1
   ·rw[if_pos c5] at H
    have c5b0:=zab c5
    clear c5
    obtain⟨⟨t600,t601,t602⟩,A6,H⟩:=bnd H
    try dsimp only at H
    by_cases c7:x5_1.length<140737488355328
    ·rw[if_pos c7] at H
     have LMc7:=Aside0.mk c7
     clear c7
     obtain⟨y603,hy603⟩:∃ y_:List Int,y_=(x5_1++[(t600) % 256]):=⟨_,rfl⟩
     replace H:(spec_l1DrawJust.l0 k1 a1 y603 (wrap64 (x6_1+1)) s0_0 t601 t602)=some (r1,r2,r3):=jrw hy603 H
     have Ny603:=Aside0.mk hy603
     clear hy603
     have H':=Aside0.mk H
     clear H
     go_wp2_with (first | (refine jgc 83 ?_;refine jgs 15 Try.func83 #[.pointer (some ⟨g,0,none⟩), .int .i64 256] ?_;(with_reducible refine(spec_l1Below.calls g s0_0 x1001_1 x1002_1 256 t600 t601 t602 w0 _ ?side1 ?side2 A6.out).mono ?_);(case side1=>repeat(first | (with_reducible first | exact HI0.out | apply IsS85.alloc | apply IsS85.drewN | apply IsS85.drew | apply IsS85.set_1 | apply IsS85.set_2) | exact HI0.out));(case side2=>repeat(first | (with_reducible first | exact HB.out | apply zbe | apply zap | apply zay | refine zbf ?_ (IsS85.ge HI0.out)) | exact HB.out));rintro e w8 ⟨rfl,hi,hb,hk⟩;refine⟨_,rfl,?_⟩;have n_:=jA4 (zao (zec (IsS85.apart (show IsS85 w0 _ g s0_0 x1001_1 x1002_1 from by repeat(first | (with_reducible first | exact HI0.out | apply IsS85.alloc | apply IsS85.drewN | apply IsS85.drew | apply IsS85.set_1 | apply IsS85.set_2) | exact HI0.out)) (pR HO_5.out) (by decide)) hk (fun _ h=>h.2)) (fun _ h=>h.1)) (zbq jk hk (.inl rfl)) (hb) (hi);clear HO_5 HK HB HI0;obtain⟨HO_5,HK,HB,HI0⟩:=n_;(try clear hb);(try clear hb2);(try clear hk);(try clear hi)) | ((with_reducible refine zde (b:= .append) (xs:= #[.tmp 13, .tmp 17]) rfl ?_);at_builtin;refine zfr (Kd.int .u8) w.heap.size rfl (.tmp 13) (.tmp 17) 23 5 (.int .u8 0) 1 rfl Try.underlying23 info5 rfl (by decide) (by omega) u5 x5_1 ((t600) % 256) [.int .u8 ((t600) % 256)] (fun _=>True) (fun _=>False) rfl rfl ?aP (fun _ hk=>hk.elim) ?aF ?aO (zbk _ _) ?aS ?aL ?_;(case aP=>exact rfl);(case aF=>exact(fun _ _=>trivial));(case aO=>exact(pR HO_5.out));(case aS=>exact(zef (w:=w) (g:=g) (row:=none) jk));(case aL=>have:=LMc7.out;omega);intro v604 w9 ho hb hg hat;rw[← Ny603.out] at ho;have n_:=jA4 (IsS85.grown (by repeat(first | (with_reducible first | exact HI0.out | apply IsS85.alloc | apply IsS85.drewN | apply IsS85.drew | apply IsS85.set_1 | apply IsS85.set_2) | exact HI0.out)) hg (IsS85.own_ne HI0.out HO_5.out (by decide))) (below_weaken (bs1 (IsS85.ge HI0.out)) HL.out hb) (zbq jk (KeepBut.of_grown hg g) (Kd.R_base2 HO_5.out)) (ho);clear HI0 HB HK HO_5;obtain⟨HI0,HB,HK,HO605⟩:=n_;clear ho hb hg hat))
     go_roundg k1
     case measure=>have:=HK1.out;omega
     case rel=>exact⟨(y603),(wrap64 (x6_1+1)),(t601),(t602),jer,H',⟨by have:=HK1.out;omega⟩,⟨pR HO605.out⟩,⟨by repeat(first | (with_reducible first | exact HI0.out | apply IsS85.alloc | apply IsS85.drewN | apply IsS85.drew | apply IsS85.set_1 | apply IsS85.set_2) | exact HI0.out)⟩,⟨by repeat(first | (with_reducible first | exact HK.out | apply zeu | apply zfb | apply zft | apply zfc) | exact HK.out)⟩,⟨bs1 (IsS85.ge HI0.out)⟩⟩
    rw[if_neg c7] at H
    exact absurd H (by simp)
   rw[if_neg c5] at H
   have c5b0:=zbj c5
   clear c5
   simp only[zcb,zcu] at H
   obtain⟨rfl,rfl,rfl⟩:=H
   go_wp2
   go_ret
   exact⟨_,jex,by(with_reducible repeat(first | apply zat | apply zau | apply zar));exact HO_5.out,by repeat(first | (with_reducible first | exact HI0.out | apply IsS85.alloc | apply IsS85.drewN | apply IsS85.drew | apply IsS85.set_1 | apply IsS85.set_2) | exact HI0.out),by repeat(first | (with_reducible first | exact HB.out | apply zbe | apply zap | apply zay | refine zbf ?_ (IsS85.ge HI0.out)) | exact HB.out),by repeat(first | (with_reducible first | exact HK.out | apply zeu | apply zfb | apply zft | apply zfc) | exact HK.out)⟩
def spec_l1Max.f (a0:Int) (a1:Int):Option (Int):=if a0>a1 then(some a0) else(some a1)
theorem spec_l1Max.wk {P:Prop} (h:P:=by
 go_enter Try.func110,Try.ntmps110
 go_wp2
 go_ret
 exact⟨by first | rfl | (simp;done) | (simp [*];done),by repeat(first | exact Drawn0.refl _ | apply Drawn0.step)⟩):P:=h
theorem spec_l1Max.calls (a0:Int) (a1:Int) (r:Int) (w:World) (h:spec_l1Max.f a0 a1=some r):
  Calls Try.prog 110 #[.int .i64 a0, .int .i64 a1] w fun e w'=>e= .returned (.int .i64 r)∧Drawn0 w w':=by
 have H:(if a0>a1 then(some a0) else(some a1))=some r:=h
 clear h
 by_cases c3:a0>a1
 ·rw[if_pos c3] at H
  have c3b0:=zab c3
  clear c3
  obtain rfl:=Option.some.inj H
  exact spec_l1Max.wk
 rw[if_neg c3] at H
 have c3b0:=zbj c3
 clear c3
 obtain rfl:=Option.some.inj H
 exact spec_l1Max.wk
def spec_l1DrawNear.f (k:Nat) (s0_0:List Int) (s0_1:Int) (s0_2:Int) (a1:Int):Option (List Int×Int×Int):=(spec_l1Below.f s0_0 s0_1 s0_2 16).bind fun bt606=>(if bt606.1=0 then((spec_l1DrawJust.f k s0_0 bt606.2.1 bt606.2.2 (wrap64 (a1+1))).bind fun bt609=>(some (bt609.1,bt609.2.1,bt609.2.2))) else(if bt606.1=1 then((spec_l1Max.f (wrap64 (a1 - 1)) 0).bind fun t614=>((spec_l1DrawJust.f k s0_0 bt606.2.1 bt606.2.2 t614).bind fun bt615=>(some (bt615.1,bt615.2.1,bt615.2.2)))) else(if bt606.1=2 then(some ((([]:List Int)),bt606.2.1,bt606.2.2)) else((spec_l1DrawJust.f k s0_0 bt606.2.1 bt606.2.2 a1).bind fun bt623=>(some (bt623.1,bt623.2.1,bt623.2.2))))))
theorem spec_l1DrawNear.mono:∀ a0 a1 a2 a3 k,LeO (spec_l1DrawNear.f k a0 a1 a2 a3) (spec_l1DrawNear.f (k+1) a0 a1 a2 a3):=by
 intro a0 a1 a2 a3 k
 unfold spec_l1DrawNear.f
 have m0:=@spec_l1DrawJust.mono
 exact mt
theorem spec_l1DrawNear.wk {P:Prop} (h:P:=by
 go_enter Try.func84,Try.ntmps84
 go_wp2_with (first | (refine jgc 83 ?_;refine jgs 6 Try.func83 #[.pointer (some ⟨g,0,none⟩), .int .i64 16] ?_;(with_reducible refine(spec_l1Below.calls g s0_0 s0_1 s0_2 16 t606 t607 t608 w0 _ ?side1 ?side2 A3.out).mono ?_);(case side1=>repeat(first | (with_reducible first | exact HI0.out | apply IsS85.alloc | apply IsS85.drewN | apply IsS85.drew | apply IsS85.set_1 | apply IsS85.set_2) | exact HI0.out));(case side2=>repeat(first | (with_reducible first | exact HB.out | apply zbe | apply zap | apply zay | refine zbf ?_ (IsS85.ge HI0.out)) | exact HB.out));rintro e w11 ⟨rfl,hi,hb,hk⟩;refine⟨_,rfl,?_⟩;have n_:=jA3 (zbq jk hk (.inl rfl)) (hb) (hi);clear HK HB HI0;obtain⟨HK,HB,HI0⟩:=n_;(try clear hb);(try clear hb2);(try clear hk);(try clear hi)) | (refine jgc 110 ?_;refine jgs 18 Try.func110 #[.int .i64 (wrap64 (a1 - 1)), .int .i64 0] ?_;(with_reducible refine(spec_l1Max.calls (wrap64 (a1 - 1)) 0 t614 _ A9.out).mono ?_);rintro e w' ⟨rfl,⟨nd,rfl⟩⟩;refine⟨_,rfl,?_⟩) | (refine jgc 109 ?_;refine jgs 19 Try.func109 #[.pointer (some ⟨g,0,none⟩), .int .i64 t614] ?_;(with_reducible refine(spec_l1DrawJust.calls k g s0_0 t607 t608 t614 t615 t618 t619 w0 _ ?side1 ?side2 A10.out).mono ?_);(case side1=>repeat(first | (with_reducible first | exact HI0.out | apply IsS85.alloc | apply IsS85.drewN | apply IsS85.drew | apply IsS85.set_1 | apply IsS85.set_2) | exact HI0.out));(case side2=>repeat(first | (with_reducible first | exact HB.out | apply zbe | apply zap | apply zay | refine zbf ?_ (IsS85.ge HI0.out)) | exact HB.out));rintro e w12 ⟨v616,rfl,ho0,hi,hb,hk⟩;refine⟨_,rfl,?_⟩;have n_:=jA4 (zaq ho0 (zef (w:=w) (g:=g) (row:=none) jk)) (zbq jk hk (.inl rfl)) (hb) (hi);clear HK HB HI0;obtain⟨HO617,HK,HB,HI0⟩:=n_;clear hb hk hi ho0) | (refine jgc 83 ?_;refine jgs 6 Try.func83 #[.pointer (some ⟨g,0,none⟩), .int .i64 16] ?_;(with_reducible refine(spec_l1Below.calls g s0_0 s0_1 s0_2 16 t606 t607 t608 w0 _ ?side1 ?side2 A3.out).mono ?_);(case side1=>repeat(first | (with_reducible first | exact HI0.out | apply IsS85.alloc | apply IsS85.drewN | apply IsS85.drew | apply IsS85.set_1 | apply IsS85.set_2) | exact HI0.out));(case side2=>repeat(first | (with_reducible first | exact HB.out | apply zbe | apply zap | apply zay | refine zbf ?_ (IsS85.ge HI0.out)) | exact HB.out));rintro e w6 ⟨rfl,hi,hb,hk⟩;refine⟨_,rfl,?_⟩;have n_:=jA3 (zbq jk hk (.inl rfl)) (hb) (hi);clear HK HB HI0;obtain⟨HK,HB,HI0⟩:=n_;(try clear hb);(try clear hb2);(try clear hk);(try clear hi)) | (refine jgc 109 ?_;refine jgs 12 Try.func109 #[.pointer (some ⟨g,0,none⟩), .int .i64 (wrap64 (a1+1))] ?_;(with_reducible refine(spec_l1DrawJust.calls k g s0_0 t607 t608 (wrap64 (a1+1)) t609 t612 t613 w0 _ ?side1 ?side2 A5.out).mono ?_);(case side1=>repeat(first | (with_reducible first | exact HI0.out | apply IsS85.alloc | apply IsS85.drewN | apply IsS85.drew | apply IsS85.set_1 | apply IsS85.set_2) | exact HI0.out));(case side2=>repeat(first | (with_reducible first | exact HB.out | apply zbe | apply zap | apply zay | refine zbf ?_ (IsS85.ge HI0.out)) | exact HB.out));rintro e w7 ⟨v610,rfl,ho0,hi,hb,hk⟩;refine⟨_,rfl,?_⟩;have n_:=jA4 (zaq ho0 (zef (w:=w) (g:=g) (row:=none) jk)) (zbq jk hk (.inl rfl)) (hb) (hi);clear HK HB HI0;obtain⟨HO611,HK,HB,HI0⟩:=n_;clear hb hk hi ho0) | (refine jgc 83 ?_;refine jgs 6 Try.func83 #[.pointer (some ⟨g,0,none⟩), .int .i64 16] ?_;(with_reducible refine(spec_l1Below.calls g s0_0 s0_1 s0_2 16 t606 t607 t608 w0 _ ?side1 ?side2 A3.out).mono ?_);(case side1=>repeat(first | (with_reducible first | exact HI0.out | apply IsS85.alloc | apply IsS85.drewN | apply IsS85.drew | apply IsS85.set_1 | apply IsS85.set_2) | exact HI0.out));(case side2=>repeat(first | (with_reducible first | exact HB.out | apply zbe | apply zap | apply zay | refine zbf ?_ (IsS85.ge HI0.out)) | exact HB.out));rintro e w18 ⟨rfl,hi,hb,hk⟩;refine⟨_,rfl,?_⟩;have n_:=jA3 (zbq jk hk (.inl rfl)) (hb) (hi);clear HK HB HI0;obtain⟨HK,HB,HI0⟩:=n_;(try clear hb);(try clear hb2);(try clear hk);(try clear hi)) | (refine jgc 109 ?_;refine jgs 25 Try.func109 #[.pointer (some ⟨g,0,none⟩), .int .i64 a1] ?_;(with_reducible refine(spec_l1DrawJust.calls k g s0_0 t607 t608 a1 t623 t626 t627 w0 _ ?side1 ?side2 A17.out).mono ?_);(case side1=>repeat(first | (with_reducible first | exact HI0.out | apply IsS85.alloc | apply IsS85.drewN | apply IsS85.drew | apply IsS85.set_1 | apply IsS85.set_2) | exact HI0.out));(case side2=>repeat(first | (with_reducible first | exact HB.out | apply zbe | apply zap | apply zay | refine zbf ?_ (IsS85.ge HI0.out)) | exact HB.out));rintro e w19 ⟨v624,rfl,ho0,hi,hb,hk⟩;refine⟨_,rfl,?_⟩;have n_:=jA4 (zaq ho0 (zef (w:=w) (g:=g) (row:=none) jk)) (zbq jk hk (.inl rfl)) (hb) (hi);clear HK HB HI0;obtain⟨HO625,HK,HB,HI0⟩:=n_;clear hb hk hi ho0) | (refine jgc 83 ?_;refine jgs 6 Try.func83 #[.pointer (some ⟨g,0,none⟩), .int .i64 16] ?_;(with_reducible refine(spec_l1Below.calls g s0_0 s0_1 s0_2 16 t606 t607 t608 w0 _ ?side1 ?side2 A3.out).mono ?_);(case side1=>repeat(first | (with_reducible first | exact HI0.out | apply IsS85.alloc | apply IsS85.drewN | apply IsS85.drew | apply IsS85.set_1 | apply IsS85.set_2) | exact HI0.out));(case side2=>repeat(first | (with_reducible first | exact HB.out | apply zbe | apply zap | apply zay | refine zbf ?_ (IsS85.ge HI0.out)) | exact HB.out));rintro e w14 ⟨rfl,hi,hb,hk⟩;refine⟨_,rfl,?_⟩;have n_:=jA3 (zbq jk hk (.inl rfl)) (hb) (hi);clear HK HB HI0;obtain⟨HK,HB,HI0⟩:=n_;(try clear hb);(try clear hb2);(try clear hk);(try clear hi)) | (refine jgd 22 ?_;refine jlt 22 (Kd.int .u8) 5 ?_;intro v621 w_ ho16 hb;(first | rw[← Ny620.out] at ho16 | (simp only[Int.reduceToNat] at ho16;rw[← Ny620.out] at ho16));have n_:=jA4 (zaq ho16 (zef (w:=w) (g:=g) (row:=none) jk)) (IsS85.below (by repeat(first | (with_reducible first | exact HI0.out | apply IsS85.alloc | apply IsS85.drewN | apply IsS85.drew | apply IsS85.set_1 | apply IsS85.set_2) | exact HI0.out)) hb) (zbq jk (zes hb g none) (.inl rfl)) (zal (bs1 (IsS85.ge HI0.out)) hb);clear HI0 HK HB;obtain⟨HO622,HI0,HK,HB⟩:=n_;clear hb ho16))
 go_ret
 first | (exact⟨_,jex,by(with_reducible repeat(first | apply zat | apply zau | apply zar));exact HO617.out,by repeat(first | (with_reducible first | exact HI0.out | apply IsS85.alloc | apply IsS85.drewN | apply IsS85.drew | apply IsS85.set_1 | apply IsS85.set_2) | exact HI0.out),by repeat(first | (with_reducible first | exact HB.out | apply zbe | apply zap | apply zay | refine zbf ?_ (IsS85.ge HI0.out)) | exact HB.out),by repeat(first | (with_reducible first | exact HK.out | apply zeu | apply zfb | apply zft | apply zfc) | exact HK.out)⟩) | (exact⟨_,jex,by(with_reducible repeat(first | apply zat | apply zau | apply zar));exact HO611.out,by repeat(first | (with_reducible first | exact HI0.out | apply IsS85.alloc | apply IsS85.drewN | apply IsS85.drew | apply IsS85.set_1 | apply IsS85.set_2) | exact HI0.out),by repeat(first | (with_reducible first | exact HB.out | apply zbe | apply zap | apply zay | refine zbf ?_ (IsS85.ge HI0.out)) | exact HB.out),by repeat(first | (with_reducible first | exact HK.out | apply zeu | apply zfb | apply zft | apply zfc) | exact HK.out)⟩) | (exact⟨_,jex,by(with_reducible repeat(first | apply zat | apply zau | apply zar));exact HO625.out,by repeat(first | (with_reducible first | exact HI0.out | apply IsS85.alloc | apply IsS85.drewN | apply IsS85.drew | apply IsS85.set_1 | apply IsS85.set_2) | exact HI0.out),by repeat(first | (with_reducible first | exact HB.out | apply zbe | apply zap | apply zay | refine zbf ?_ (IsS85.ge HI0.out)) | exact HB.out),by repeat(first | (with_reducible first | exact HK.out | apply zeu | apply zfb | apply zft | apply zfc) | exact HK.out)⟩) | (exact⟨_,jex,by(with_reducible repeat(first | apply zat | apply zau | apply zar));exact HO622.out,by repeat(first | (with_reducible first | exact HI0.out | apply IsS85.alloc | apply IsS85.drewN | apply IsS85.drew | apply IsS85.set_1 | apply IsS85.set_2) | exact HI0.out),by repeat(first | (with_reducible first | exact HB.out | apply zbe | apply zap | apply zay | refine zbf ?_ (IsS85.ge HI0.out)) | exact HB.out),by repeat(first | (with_reducible first | exact HK.out | apply zeu | apply zfb | apply zft | apply zfc) | exact HK.out)⟩)):P:=h
theorem spec_l1DrawNear.calls (k:Nat) (g:Nat) (s0_0:List Int) (s0_1:Int) (s0_2:Int) (a1:Int) (r1:List Int) (r2:Int) (r3:Int) (w0 w:World) (hI:IsS85 w0 w g s0_0 s0_1 s0_2) (hB:Below w0.heap.size w0 w) (h:spec_l1DrawNear.f k s0_0 s0_1 s0_2 a1=some (r1,r2,r3)):
  Calls Try.prog 84 #[.pointer (some ⟨g,0,none⟩), .int .i64 a1] w fun e w'=>∃ v0_:Value,e= .returned (v0_)∧Kd.R (Kd.int .u8) 5 w' w.heap.size (fun _=>True) v0_ r1∧IsS85 w0 w' g s0_0 r2 r3∧Below w0.heap.size w0 w'∧KeepBut w w' g none:=by
 have HI0:=Aside0.mk hI
 have HK:=Aside0.mk (KeepBut.refl w g none)
 have HL:=Aside0.mk hB.size
 clear hI
 have HW0:=Aside0.mk hB.size
 have HB:=Aside0.mk hB
 clear hB
 have H:((spec_l1Below.f s0_0 s0_1 s0_2 16).bind fun bt606=>(if bt606.1=0 then((spec_l1DrawJust.f k s0_0 bt606.2.1 bt606.2.2 (wrap64 (a1+1))).bind fun bt609=>(some (bt609.1,bt609.2.1,bt609.2.2))) else(if bt606.1=1 then((spec_l1Max.f (wrap64 (a1 - 1)) 0).bind fun t614=>((spec_l1DrawJust.f k s0_0 bt606.2.1 bt606.2.2 t614).bind fun bt615=>(some (bt615.1,bt615.2.1,bt615.2.2)))) else(if bt606.1=2 then(some ((([]:List Int)),bt606.2.1,bt606.2.2)) else((spec_l1DrawJust.f k s0_0 bt606.2.1 bt606.2.2 a1).bind fun bt623=>(some (bt623.1,bt623.2.1,bt623.2.2)))))))=some (r1,r2,r3):=h
 clear h
 obtain⟨⟨t606,t607,t608⟩,A3,H⟩:=bnd H
 try dsimp only at H
 by_cases c4:t606=0
 ·rw[if_pos c4] at H
  have c4b0:=beqT c4
  have c4b1:=zdm.mpr c4
  clear c4
  obtain⟨⟨t609,t612,t613⟩,A5,H⟩:=bnd H
  try dsimp only at H
  simp only[zcb,zcu] at H
  obtain⟨rfl,rfl,rfl⟩:=H
  exact spec_l1DrawNear.wk
 rw[if_neg c4] at H
 have c4b0:=zcl.mpr c4
 have c4b1:=zez.mpr c4
 by_cases c8:t606=1
 ·rw[if_pos c8] at H
  have c8b0:=beqT c8
  have c8b1:=zdm.mpr c8
  clear c8
  obtain⟨t614,A9,H⟩:=bnd H
  obtain⟨⟨t615,t618,t619⟩,A10,H⟩:=bnd H
  try dsimp only at H
  simp only[zcb,zcu] at H
  obtain⟨rfl,rfl,rfl⟩:=H
  exact spec_l1DrawNear.wk
 rw[if_neg c8] at H
 have c8b0:=zcl.mpr c8
 have c8b1:=zez.mpr c8
 by_cases c13:t606=2
 ·rw[if_pos c13] at H
  have c13b0:=beqT c13
  have c13b1:=zdm.mpr c13
  clear c13
  obtain⟨y620,hy620⟩:∃ y_:List Int,y_=(([]:List Int)):=⟨_,rfl⟩
  replace H:(some (y620,t607,t608))=some (r1,r2,r3):=jrw hy620 H
  have Ny620:=Aside0.mk hy620
  clear hy620
  simp only[zcb,zcu] at H
  obtain⟨rfl,rfl,rfl⟩:=H
  exact spec_l1DrawNear.wk
 rw[if_neg c13] at H
 have c13b0:=zcl.mpr c13
 have c13b1:=zez.mpr c13
 obtain⟨⟨t623,t626,t627⟩,A17,H⟩:=bnd H
 try dsimp only at H
 simp only[zcb,zcu] at H
 obtain⟨rfl,rfl,rfl⟩:=H
 exact spec_l1DrawNear.wk
end Go.Proofs.Ytienlgcjohpphaa.P
