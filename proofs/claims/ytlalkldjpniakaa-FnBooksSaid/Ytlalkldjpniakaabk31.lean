import Derived.Test.Ytlalkldjpniakaabk30
namespace Go.Proofs.Ytlalkldjpniakaa.P
open Go.RowKit Go.Proofs.YtlalkldjpniakaaW.PrintWords Go.Proofs.YtlalkldjpniakaaW.PrintLast Go.Proofs.YtlalkldjpniakaaW.PrintMore
attribute [local go_sem] zck zcl zdl zdm zbz zca zcm zcn -- for this text's walks alone
set_option linter.unusedVariables false
set_option linter.unusedSimpArgs false
set_option maxHeartbeats 8000000
set_option maxRecDepth 100000

def spec_l1PickInt.f (s0_0:List Int) (s0_1:Int) (s0_2:Int) (l1:List Int):Option (Int×Int×Int):=(spec_l1Below.f s0_0 s0_1 s0_2 (l1.length:Int)).bind fun bt771=>(if 0≤bt771.1 then(if bt771.1<(l1.length:Int) then(some (rd l1 bt771.1,bt771.2.1,bt771.2.2)) else(none)) else(none))
theorem spec_l1PickInt.calls (g:Nat) (s0_0:List Int) (s0_1:Int) (s0_2:Int) (A1:Option Addr) (c1:Nat) (l1:List Int) (r1:Int) (r2:Int) (r3:Int) (w0 w:World) (hI:IsS132 w0 w g s0_0 s0_1 s0_2) (hB:Below w0.heap.size w0 w) (hr1:Kd.C (Kd.int .i64) w A1 l1.length l1) (hc1:l1.length≤c1) (hf1:∀ ad,A1=some ad→0<l1.length→ad.block≠g) (h:spec_l1PickInt.f s0_0 s0_1 s0_2 l1=some (r1,r2,r3)):
  Calls Try.prog 122 #[.pointer (some ⟨g,0,none⟩), .slice A1 l1.length c1] w fun e w'=>e= .returned (.int .i64 r1)∧IsS132 w0 w' g s0_0 r2 r3∧Below w0.heap.size w0 w'∧KeepBut w w' g none:=by
 have I0:=Aside0.mk hr1
 have L0:=Aside0.mk hc1
 clear hr1 hc1
 have HI0:=Aside0.mk hI
 have HK:=Aside0.mk (zhc w g none)
 have HL:=Aside0.mk hB.size
 clear hI
 have HW0:=Aside0.mk hB.size
 have HB:=Aside0.mk hB
 clear hB
 have H:((spec_l1Below.f s0_0 s0_1 s0_2 (l1.length:Int)).bind fun bt771=>(if 0≤bt771.1 then(if bt771.1<(l1.length:Int) then(some (rd l1 bt771.1,bt771.2.1,bt771.2.2)) else(none)) else(none)))=some (r1,r2,r3):=h
 clear h
 obtain⟨⟨B0,F0,G0⟩,A3,H⟩:=bnd H
 try dsimp only at H
 by_cases c4:0≤B0
 ·rw[if_pos c4] at H
  have J0:=zae c4
  clear c4
  by_cases c5:B0<(l1.length:Int)
  ·rw[if_pos c5] at H
   have K0:=zae c5
   clear c5
   simp only[zaz,zbn] at H
   obtain⟨rfl,rfl,rfl⟩:=H
   go_enter Try.func122,Try.ntmps122
   go_wp2_with (first | (refine jgc 143 ?_;refine jgs 9 Try.func143 #[.pointer (some ⟨g,0,none⟩), .int .i64 (l1.length:Int)] ?_;(with_reducible refine(spec_l1Below.calls g s0_0 s0_1 s0_2 (l1.length:Int) B0 F0 G0 w0 _ ?side1 ?side2 A3.out).mono ?_);(case side1=>repeat(first | (with_reducible first | exact HI0.out | apply IsS132.alloc | apply IsS132.drewN | apply IsS132.drew | apply IsS132.set_1 | apply IsS132.set_2) | exact HI0.out));(case side2=>repeat(first | (with_reducible first | exact HB.out | apply zbe | apply zat | apply zba | refine zav ?_ (IsS132.ge HI0.out)) | exact HB.out));rintro e w6 ⟨rfl,hi,hb,hk⟩;refine⟨_,rfl,?_⟩;have n_:=jA3 (zay jk hk (.inl rfl)) (hb) (hi);clear HK HB HI0;obtain⟨HK,HB,HI0⟩:=n_;(try clear hb);(try clear hb2);(try clear hk);(try clear hi);have C0:0≤(B0:Int):=zad jab;have D0:B0<(l1.length:Int):=zad jab;obtain⟨E0,H0,o0⟩:=zfk I0.out B0 C0 D0;cases H0;replace o0:=keep_cell HK.out o0 (by first | (rw[add_block];exact hf1 _ rfl (by omega)) | exact hf1 _ rfl (by omega) | exact hf1 E0 rfl (by omega));replace C0:=zbr C0;replace D0:=zbr D0))
   go_ret
   exact⟨jex,by repeat(first | (with_reducible first | exact HI0.out | apply IsS132.alloc | apply IsS132.drewN | apply IsS132.drew | apply IsS132.set_1 | apply IsS132.set_2) | exact HI0.out),by repeat(first | (with_reducible first | exact HB.out | apply zbe | apply zat | apply zba | refine zav ?_ (IsS132.ge HI0.out)) | exact HB.out),by repeat(first | (with_reducible first | exact HK.out | apply zep | apply zfi | apply zfx | apply zfj) | exact HK.out)⟩
  rw[if_neg c5] at H
  exact absurd H (by simp)
 rw[if_neg c4] at H
 exact absurd H (by simp)
def spec_l1DrawBytes.l0:Nat→List Int→Int→Int→List Int→Int→Int→Option (List Int×Int×Int)
 | 0,_,_,_,_,_,_=>none
 | k+1,x5,x6,x7,x1000,x1001,x1002=>if x7<x6 then((spec_l1Below.f x1000 x1001 x1002 256).bind fun bt781=>(if x5.length<140737488355328 then(spec_l1DrawBytes.l0 k (x5++[(bt781.1) % 256]) x6 (wrap64 (x7+1)) x1000 bt781.2.1 bt781.2.2) else(none))) else(some (x5,x1001,x1002))
def spec_l1DrawBytes.f (k:Nat) (s0_0:List Int) (s0_1:Int) (s0_2:Int) (a1:Int):Option (List Int×Int×Int):=(spec_l1Below.f s0_0 s0_1 s0_2 (wrap64 (a1+1))).bind fun bt778=>(spec_l1DrawBytes.l0 k (([]:List Int)) bt778.1 0 s0_0 bt778.2.1 bt778.2.2)
theorem spec_l1DrawBytes.mono_l:∀ k,(∀ y0 y1 y2 y3 y4 y5,LeO (spec_l1DrawBytes.l0 k y0 y1 y2 y3 y4 y5) (spec_l1DrawBytes.l0 (k+1) y0 y1 y2 y3 y4 y5))
 | 0=>fun _ _ _ _ _ _ r h=>by simp [spec_l1DrawBytes.l0] at h
 | k+1=>by
  have ih0:=spec_l1DrawBytes.mono_l k
  intro y0 y1 y2 y3 y4 y5
  unfold spec_l1DrawBytes.l0
  exact mt
theorem spec_l1DrawBytes.mono:∀ a0 a1 a2 a3 k,LeO (spec_l1DrawBytes.f k a0 a1 a2 a3) (spec_l1DrawBytes.f (k+1) a0 a1 a2 a3):=by
 intro a0 a1 a2 a3 k
 have ih0:=spec_l1DrawBytes.mono_l k
 unfold spec_l1DrawBytes.f
 exact mt
theorem spec_l1DrawBytes.calls (k:Nat) (g:Nat) (s0_0:List Int) (s0_1:Int) (s0_2:Int) (a1:Int) (r1:List Int) (r2:Int) (r3:Int) (w0 w:World) (hI:IsS132 w0 w g s0_0 s0_1 s0_2) (hB:Below w0.heap.size w0 w) (h:spec_l1DrawBytes.f k s0_0 s0_1 s0_2 a1=some (r1,r2,r3)):
  Calls Try.prog 144 #[.pointer (some ⟨g,0,none⟩), .int .i64 a1] w fun e w'=>∃ v0_:Value,e= .returned (v0_)∧Kd.R (Kd.int .u8) 5 w' w.heap.size (fun _=>True) v0_ r1∧IsS132 w0 w' g s0_0 r2 r3∧Below w0.heap.size w0 w'∧KeepBut w w' g none:=by
 have HI0:=Aside0.mk hI
 have HK:=Aside0.mk (zhc w g none)
 have HL:=Aside0.mk hB.size
 clear hI
 have HW0:=Aside0.mk hB.size
 have HB:=Aside0.mk hB
 clear hB
 have H:((spec_l1Below.f s0_0 s0_1 s0_2 (wrap64 (a1+1))).bind fun bt778=>(spec_l1DrawBytes.l0 k (([]:List Int)) bt778.1 0 s0_0 bt778.2.1 bt778.2.2))=some (r1,r2,r3):=h
 clear h
 obtain⟨N0,G0⟩:∃ y_:List Int,y_=(([]:List Int)):=⟨_,rfl⟩
 replace H:((spec_l1Below.f s0_0 s0_1 s0_2 (wrap64 (a1+1))).bind fun bt778=>(spec_l1DrawBytes.l0 k N0 bt778.1 0 s0_0 bt778.2.1 bt778.2.2))=some (r1,r2,r3):=jrw G0 H
 have K0:=Aside0.mk G0
 clear G0
 obtain⟨⟨I0,O0,P0⟩,A3,H⟩:=bnd H
 try dsimp only at H
 have H':=Aside0.mk H
 clear H
 go_enter Try.func144,Try.ntmps144
 go_wp2_with (first | (refine jgd 8 ?_;refine jlt 8 (Kd.int .u8) 5 ?_;intro v776 w4 Q0 hb;(first | rw[← K0.out] at Q0 | (simp only[Int.reduceToNat] at Q0;rw[← K0.out] at Q0));have n_:=jA4 (zax Q0 (zcy (w:=w) (g:=g) (row:=none) jk)) (IsS132.below (by repeat(first | (with_reducible first | exact HI0.out | apply IsS132.alloc | apply IsS132.drewN | apply IsS132.drew | apply IsS132.set_1 | apply IsS132.set_2) | exact HI0.out)) hb) (zay jk (zcu hb g none) (.inl rfl)) (zac (bs1 (IsS132.ge HI0.out)) hb);clear HI0 HK HB;obtain⟨D0,HI0,HK,HB⟩:=n_;clear hb Q0) | (refine jgc 143 ?_;refine jgs 12 Try.func143 #[.pointer (some ⟨g,0,none⟩), .int .i64 (wrap64 (a1+1))] ?_;(with_reducible refine(spec_l1Below.calls g s0_0 s0_1 s0_2 (wrap64 (a1+1)) I0 O0 P0 w0 _ ?side1 ?side2 A3.out).mono ?_);(case side1=>repeat(first | (with_reducible first | exact HI0.out | apply IsS132.alloc | apply IsS132.drewN | apply IsS132.drew | apply IsS132.set_1 | apply IsS132.set_2) | exact HI0.out));(case side2=>repeat(first | (with_reducible first | exact HB.out | apply zbe | apply zat | apply zba | refine zav ?_ (IsS132.ge HI0.out)) | exact HB.out));rintro e w6 ⟨rfl,hi,hb,hk⟩;refine⟨_,rfl,?_⟩;have n_:=jA4 (zam (zef (IsS132.apart (show IsS132 w0 _ g s0_0 s0_1 s0_2 from by repeat(first | (with_reducible first | exact HI0.out | apply IsS132.alloc | apply IsS132.drewN | apply IsS132.drew | apply IsS132.set_1 | apply IsS132.set_2) | exact HI0.out)) (pR D0.out) (by decide)) hk (fun _ h=>h.2)) (fun _ h=>h.1)) (zay jk hk (.inl rfl)) (hb) (hi);clear D0 HK HB HI0;obtain⟨D0,HK,HB,HI0⟩:=n_;(try clear hb);(try clear hb2);(try clear hk);(try clear hi)))
 go_loopg [5,7] k (fun kq v5 v7 w'=>∃ (E0:List Int) (F0:Int) (o0:Int) (B0:Int),v7= .int .i64 F0∧Aside0 (spec_l1DrawBytes.l0 kq E0 I0 F0 s0_0 o0 B0=some (r1,r2,r3))∧Aside0 (kq≤k)∧Aside0 (Kd.R (Kd.int .u8) 5 w' w.heap.size (fun _=>True) v5 E0)∧Aside0 (IsS132 w0 w' g s0_0 o0 B0)∧Aside0 (KeepBut w w' g none)∧Aside0 (Below w0.heap.size w0 w'))
 case atStart=>exact⟨(N0),(0),(O0),(P0),jer,H',⟨zaf _⟩,⟨pR D0.out⟩,⟨by repeat(first | (with_reducible first | exact HI0.out | apply IsS132.alloc | apply IsS132.drewN | apply IsS132.drew | apply IsS132.set_1 | apply IsS132.set_2) | exact HI0.out)⟩,⟨by repeat(first | (with_reducible first | exact HK.out | apply zep | apply zfi | apply zfx | apply zfj) | exact HK.out)⟩,⟨bs1 (IsS132.ge HI0.out)⟩⟩
 case round=>
  clear H'
  try clear c1
  try clear p2
  try clear p6
  obtain⟨E0,F0,o0,B0,rfl,HA,W0,C0,HI0,HK,HB⟩:=hrel
  cases gk with
  | zero=>exact absurd HA.out (by simp [spec_l1DrawBytes.l0])
  | succ k1=>
   have H:=HA.out
   clear HA
   simp only[spec_l1DrawBytes.l0] at H
   by_cases c7:F0<I0
   ·rw[if_pos c7] at H
    have U0:=zae c7
    clear c7
    obtain⟨⟨J0,L0,M0⟩,A8,H⟩:=bnd H
    try dsimp only at H
    by_cases c9:E0.length<140737488355328
    ·rw[if_pos c9] at H
     have V0:=Aside0.mk c9
     clear c9
     obtain⟨R0,H0⟩:∃ y_:List Int,y_=(E0++[(J0) % 256]):=⟨_,rfl⟩
     replace H:(spec_l1DrawBytes.l0 k1 R0 I0 (wrap64 (F0+1)) s0_0 L0 M0)=some (r1,r2,r3):=jrw H0 H
     have S0:=Aside0.mk H0
     clear H0
     have H':=Aside0.mk H
     clear H
     go_wp2_with (first | (refine jgc 143 ?_;refine jgs 20 Try.func143 #[.pointer (some ⟨g,0,none⟩), .int .i64 256] ?_;(with_reducible refine(spec_l1Below.calls g s0_0 o0 B0 256 J0 L0 M0 w0 _ ?side1 ?side2 A8.out).mono ?_);(case side1=>repeat(first | (with_reducible first | exact HI0.out | apply IsS132.alloc | apply IsS132.drewN | apply IsS132.drew | apply IsS132.set_1 | apply IsS132.set_2) | exact HI0.out));(case side2=>repeat(first | (with_reducible first | exact HB.out | apply zbe | apply zat | apply zba | refine zav ?_ (IsS132.ge HI0.out)) | exact HB.out));rintro e w10 ⟨rfl,hi,hb,hk⟩;refine⟨_,rfl,?_⟩;have n_:=jA4 (zam (zef (IsS132.apart (show IsS132 w0 _ g s0_0 o0 B0 from by repeat(first | (with_reducible first | exact HI0.out | apply IsS132.alloc | apply IsS132.drewN | apply IsS132.drew | apply IsS132.set_1 | apply IsS132.set_2) | exact HI0.out)) (pR C0.out) (by decide)) hk (fun _ h=>h.2)) (fun _ h=>h.1)) (zay jk hk (.inl rfl)) (hb) (hi);clear C0 HK HB HI0;obtain⟨C0,HK,HB,HI0⟩:=n_;(try clear hb);(try clear hb2);(try clear hk);(try clear hi)) | ((with_reducible refine zcd (b:= .append) (xs:= #[.tmp 18, .tmp 22]) rfl ?_);at_builtin;refine zhd (Kd.int .u8) w.heap.size rfl (.tmp 18) (.tmp 22) 29 5 (.int .u8 0) 1 rfl Try.underlying29 info5 rfl (by decide) (by omega) u5 E0 ((J0) % 256) [.int .u8 ((J0) % 256)] (fun _=>True) (fun _=>False) rfl rfl ?aP (fun _ hk=>hk.elim) ?aF ?aO (zbo _ _) ?aS ?aL ?_;(case aP=>exact rfl);(case aF=>exact(fun _ _=>trivial));(case aO=>exact(pR C0.out));(case aS=>exact(zcy (w:=w) (g:=g) (row:=none) jk));(case aL=>have:=V0.out;omega);intro v785 w11 ho hb hg hat;rw[← S0.out] at ho;have n_:=jA4 (IsS132.grown (by repeat(first | (with_reducible first | exact HI0.out | apply IsS132.alloc | apply IsS132.drewN | apply IsS132.drew | apply IsS132.set_1 | apply IsS132.set_2) | exact HI0.out)) hg (IsS132.own_ne HI0.out C0.out (by decide))) (below_weaken (bs1 (IsS132.ge HI0.out)) HL.out hb) (zay jk (KeepBut.of_grown hg g) (Kd.R_base2 C0.out)) (ho);clear HI0 HB HK C0;obtain⟨HI0,HB,HK,T0⟩:=n_;clear ho hb hg hat))
     go_roundg k1
     case measure=>have:=W0.out;omega
     case rel=>exact⟨(R0),(wrap64 (F0+1)),(L0),(M0),jer,H',⟨by have:=W0.out;omega⟩,⟨pR T0.out⟩,⟨by repeat(first | (with_reducible first | exact HI0.out | apply IsS132.alloc | apply IsS132.drewN | apply IsS132.drew | apply IsS132.set_1 | apply IsS132.set_2) | exact HI0.out)⟩,⟨by repeat(first | (with_reducible first | exact HK.out | apply zep | apply zfi | apply zfx | apply zfj) | exact HK.out)⟩,⟨bs1 (IsS132.ge HI0.out)⟩⟩
    rw[if_neg c9] at H
    exact absurd H (by simp)
   rw[if_neg c7] at H
   have U0:=zbf c7
   clear c7
   simp only[zaz,zbn] at H
   obtain⟨rfl,rfl,rfl⟩:=H
   go_wp2
   go_ret
   exact⟨_,jex,by(with_reducible repeat(first | apply zbl | apply zbm | apply zbs));exact C0.out,by repeat(first | (with_reducible first | exact HI0.out | apply IsS132.alloc | apply IsS132.drewN | apply IsS132.drew | apply IsS132.set_1 | apply IsS132.set_2) | exact HI0.out),by repeat(first | (with_reducible first | exact HB.out | apply zbe | apply zat | apply zba | refine zav ?_ (IsS132.ge HI0.out)) | exact HB.out),by repeat(first | (with_reducible first | exact HK.out | apply zep | apply zfi | apply zfx | apply zfj) | exact HK.out)⟩
end Go.Proofs.Ytlalkldjpniakaa.P
