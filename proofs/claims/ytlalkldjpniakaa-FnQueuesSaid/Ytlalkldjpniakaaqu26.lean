import Derived.Test.Ytlalkldjpniakaaqu25
namespace Go.Proofs.Ytlalkldjpniakaa.P
open Go.RowKit Go.Proofs.YtlalkldjpniakaaW.PrintWords Go.Proofs.YtlalkldjpniakaaW.PrintLast Go.Proofs.YtlalkldjpniakaaW.PrintMore
attribute [local go_sem] zbr zbs zch zci zbk zbl zbt zbu -- for this text's walks alone
set_option linter.unusedVariables false
set_option linter.unusedSimpArgs false

def spec_l1DrawBytes.l0:Nat→List Int→Int→Int→List Int→Int→Int→Option (List Int×Int×Int)
 | 0,_,_,_,_,_,_=>none
 | k+1,x5,x6,x7,x1000,x1001,x1002=>if x7<x6 then((spec_l1Below.f x1000 x1001 x1002 256).bind fun bt781=>(if x5.length<140737488355328 then(spec_l1DrawBytes.l0 k (x5++[(bt781.1) % 256]) x6 (wrap64 (x7+1)) x1000 bt781.2.1 bt781.2.2) else(none))) else(some (x5,x1001,x1002))
def spec_l1DrawBytes.f (k:Nat) (s0_0:List Int) (s0_1:Int) (s0_2:Int) (a1:Int):Option (List Int×Int×Int):=(spec_l1Below.f s0_0 s0_1 s0_2 (wrap64 (a1+1))).bind fun bt778=>(spec_l1DrawBytes.l0 k (([]:List Int)) bt778.1 0 s0_0 bt778.2.1 bt778.2.2)
theorem spec_l1DrawBytes.mono_l:∀ k,(∀ y0 y1 y2 y3 y4 y5,LeO (spec_l1DrawBytes.l0 k y0 y1 y2 y3 y4 y5) (spec_l1DrawBytes.l0 (k+1) y0 y1 y2 y3 y4 y5))
 | 0=>fun _ _ _ _ _ _ r h=>by simp [spec_l1DrawBytes.l0] at h
 | k+1=>by
  have ih0:=spec_l1DrawBytes.mono_l k
  intro y0 y1 y2 y3 y4 y5
  unfold spec_l1DrawBytes.l0
  exact mt
theorem spec_l1DrawBytes.mono:∀ a0 a1 a2 a3 k,LeO (spec_l1DrawBytes.f k a0 a1 a2 a3) (spec_l1DrawBytes.f (k+1) a0 a1 a2 a3):=by
 intro a0 a1 a2 a3 k
 have ih0:=spec_l1DrawBytes.mono_l k
 unfold spec_l1DrawBytes.f
 exact mt
set_option maxHeartbeats 8000000 in
set_option maxRecDepth 100000 in
theorem spec_l1DrawBytes.calls (k:Nat) (g:Nat) (s0_0:List Int) (s0_1:Int) (s0_2:Int) (a1:Int) (r1:List Int) (r2:Int) (r3:Int) (w0 w:World) (hI:IsS132 w0 w g s0_0 s0_1 s0_2) (hB:Below w0.heap.size w0 w) (h:spec_l1DrawBytes.f k s0_0 s0_1 s0_2 a1=some (r1,r2,r3)):
  Calls Try.prog 144 #[.pointer (some ⟨g,0,none⟩), .int .i64 a1] w fun e w'=>∃ v0_:Value,e= .returned (v0_)∧Kd.R (Kd.int .u8) 5 w' w.heap.size (fun _=>True) v0_ r1∧IsS132 w0 w' g s0_0 r2 r3∧Below w0.heap.size w0 w'∧KeepBut w w' g none:=by
 have HI0:=Aside0.mk hI
 have HK:=Aside0.mk (KeepBut.refl w g none)
 have HL:=Aside0.mk hB.size
 clear hI
 have HW0:=Aside0.mk hB.size
 have HB:=Aside0.mk hB
 clear hB
 have H:((spec_l1Below.f s0_0 s0_1 s0_2 (wrap64 (a1+1))).bind fun bt778=>(spec_l1DrawBytes.l0 k (([]:List Int)) bt778.1 0 s0_0 bt778.2.1 bt778.2.2))=some (r1,r2,r3):=h
 clear h
 obtain⟨y775,hy775⟩:∃ y_:List Int,y_=(([]:List Int)):=⟨_,rfl⟩
 replace H:((spec_l1Below.f s0_0 s0_1 s0_2 (wrap64 (a1+1))).bind fun bt778=>(spec_l1DrawBytes.l0 k y775 bt778.1 0 s0_0 bt778.2.1 bt778.2.2))=some (r1,r2,r3):=jrw hy775 H
 have Ny775:=Aside0.mk hy775
 clear hy775
 obtain⟨⟨t778,t779,t780⟩,A3,H⟩:=bnd H
 try dsimp only at H
 have H':=Aside0.mk H
 clear H
 go_enter Try.func144,Try.ntmps144
 go_wp2_with (first | (refine jgd 8 ?_;refine jlt 8 (Kd.int .u8) 5 ?_;intro v776 w4 ho5 hb;(first | rw[← Ny775.out] at ho5 | (simp only[Int.reduceToNat] at ho5;rw[← Ny775.out] at ho5));have n_:=jA4 (zbf ho5 (zcj (w:=w) (g:=g) (row:=none) jk)) (IsS132.below (by repeat(first | (with_reducible first | exact HI0.out | apply IsS132.alloc | apply IsS132.drewN | apply IsS132.drew | apply IsS132.set_1 | apply IsS132.set_2) | exact HI0.out)) hb) (zaq jk (zcb hb g none) (.inl rfl)) (zah (bs1 (IsS132.ge HI0.out)) hb);clear HI0 HK HB;obtain⟨HO777,HI0,HK,HB⟩:=n_;clear hb ho5) | (refine jgc 143 ?_;refine jgs 12 Try.func143 #[.pointer (some ⟨g,0,none⟩), .int .i64 (wrap64 (a1+1))] ?_;(with_reducible refine(spec_l1Below.calls g s0_0 s0_1 s0_2 (wrap64 (a1+1)) t778 t779 t780 w0 _ ?side1 ?side2 A3.out).mono ?_);(case side1=>repeat(first | (with_reducible first | exact HI0.out | apply IsS132.alloc | apply IsS132.drewN | apply IsS132.drew | apply IsS132.set_1 | apply IsS132.set_2) | exact HI0.out));(case side2=>repeat(first | (with_reducible first | exact HB.out | apply zap | apply zai | apply zan | refine zao ?_ (IsS132.ge HI0.out)) | exact HB.out));rintro e w6 ⟨rfl,hi,hb,hk⟩;refine⟨_,rfl,?_⟩;have n_:=jA4 (zas (zcx (IsS132.apart (show IsS132 w0 _ g s0_0 s0_1 s0_2 from by repeat(first | (with_reducible first | exact HI0.out | apply IsS132.alloc | apply IsS132.drewN | apply IsS132.drew | apply IsS132.set_1 | apply IsS132.set_2) | exact HI0.out)) (pR HO777.out) (by decide)) hk (fun _ h=>h.2)) (fun _ h=>h.1)) (zaq jk hk (.inl rfl)) (hb) (hi);clear HO777 HK HB HI0;obtain⟨HO777,HK,HB,HI0⟩:=n_;(try clear hb);(try clear hb2);(try clear hk);(try clear hi)))
 go_loopg [5,7] k (fun kq v5 v7 w'=>∃ (x5_1:List Int) (x7_1:Int) (x1001_1:Int) (x1002_1:Int),v7= .int .i64 x7_1∧Aside0 (spec_l1DrawBytes.l0 kq x5_1 t778 x7_1 s0_0 x1001_1 x1002_1=some (r1,r2,r3))∧Aside0 (kq≤k)∧Aside0 (Kd.R (Kd.int .u8) 5 w' w.heap.size (fun _=>True) v5 x5_1)∧Aside0 (IsS132 w0 w' g s0_0 x1001_1 x1002_1)∧Aside0 (KeepBut w w' g none)∧Aside0 (Below w0.heap.size w0 w'))
 case atStart=>exact⟨(y775),(0),(t779),(t780),jer,H',⟨zbc _⟩,⟨pR HO777.out⟩,⟨by repeat(first | (with_reducible first | exact HI0.out | apply IsS132.alloc | apply IsS132.drewN | apply IsS132.drew | apply IsS132.set_1 | apply IsS132.set_2) | exact HI0.out)⟩,⟨by repeat(first | (with_reducible first | exact HK.out | apply zcy | apply zdp | apply zef | apply zdq) | exact HK.out)⟩,⟨bs1 (IsS132.ge HI0.out)⟩⟩
 case round=>
  clear H'
  try clear c1
  try clear p2
  try clear p6
  obtain⟨x5_1,x7_1,x1001_1,x1002_1,rfl,HA,HK1,HO_5,HI0,HK,HB⟩:=hrel
  cases gk with
  | zero=>exact absurd HA.out (by simp [spec_l1DrawBytes.l0])
  | succ k1=>
   have H:=HA.out
   clear HA
   simp only[spec_l1DrawBytes.l0] at H
   by_cases c7:x7_1<t778
   ·rw[if_pos c7] at H
    have c7b0:=zag c7
    clear c7
    obtain⟨⟨t781,t782,t783⟩,A8,H⟩:=bnd H
    try dsimp only at H
    by_cases c9:x5_1.length<140737488355328
    ·rw[if_pos c9] at H
     have LMc9:=Aside0.mk c9
     clear c9
     obtain⟨y784,hy784⟩:∃ y_:List Int,y_=(x5_1++[(t781) % 256]):=⟨_,rfl⟩
     replace H:(spec_l1DrawBytes.l0 k1 y784 t778 (wrap64 (x7_1+1)) s0_0 t782 t783)=some (r1,r2,r3):=jrw hy784 H
     have Ny784:=Aside0.mk hy784
     clear hy784
     have H':=Aside0.mk H
     clear H
     go_wp2_with (first | (refine jgc 143 ?_;refine jgs 20 Try.func143 #[.pointer (some ⟨g,0,none⟩), .int .i64 256] ?_;(with_reducible refine(spec_l1Below.calls g s0_0 x1001_1 x1002_1 256 t781 t782 t783 w0 _ ?side1 ?side2 A8.out).mono ?_);(case side1=>repeat(first | (with_reducible first | exact HI0.out | apply IsS132.alloc | apply IsS132.drewN | apply IsS132.drew | apply IsS132.set_1 | apply IsS132.set_2) | exact HI0.out));(case side2=>repeat(first | (with_reducible first | exact HB.out | apply zap | apply zai | apply zan | refine zao ?_ (IsS132.ge HI0.out)) | exact HB.out));rintro e w10 ⟨rfl,hi,hb,hk⟩;refine⟨_,rfl,?_⟩;have n_:=jA4 (zas (zcx (IsS132.apart (show IsS132 w0 _ g s0_0 x1001_1 x1002_1 from by repeat(first | (with_reducible first | exact HI0.out | apply IsS132.alloc | apply IsS132.drewN | apply IsS132.drew | apply IsS132.set_1 | apply IsS132.set_2) | exact HI0.out)) (pR HO_5.out) (by decide)) hk (fun _ h=>h.2)) (fun _ h=>h.1)) (zaq jk hk (.inl rfl)) (hb) (hi);clear HO_5 HK HB HI0;obtain⟨HO_5,HK,HB,HI0⟩:=n_;(try clear hb);(try clear hb2);(try clear hk);(try clear hi)) | ((with_reducible refine zbz (b:= .append) (xs:= #[.tmp 18, .tmp 22]) rfl ?_);at_builtin;refine Kd.R_append (Kd.int .u8) w.heap.size rfl (.tmp 18) (.tmp 22) 29 5 (.int .u8 0) 1 rfl Try.underlying29 info5 rfl (by decide) (by omega) u5 x5_1 ((t781) % 256) [.int .u8 ((t781) % 256)] (fun _=>True) (fun _=>False) rfl rfl ?aP (fun _ hk=>hk.elim) ?aF ?aO (zbe _ _) ?aS ?aL ?_;(case aP=>exact rfl);(case aF=>exact(fun _ _=>trivial));(case aO=>exact(pR HO_5.out));(case aS=>exact(zcj (w:=w) (g:=g) (row:=none) jk));(case aL=>have:=LMc9.out;omega);intro v785 w11 ho hb hg hat;rw[← Ny784.out] at ho;have n_:=jA4 (IsS132.grown (by repeat(first | (with_reducible first | exact HI0.out | apply IsS132.alloc | apply IsS132.drewN | apply IsS132.drew | apply IsS132.set_1 | apply IsS132.set_2) | exact HI0.out)) hg (IsS132.own_ne HI0.out HO_5.out (by decide))) (below_weaken (bs1 (IsS132.ge HI0.out)) HL.out hb) (zaq jk (KeepBut.of_grown hg g) (Kd.R_base2 HO_5.out)) (ho);clear HI0 HB HK HO_5;obtain⟨HI0,HB,HK,HO786⟩:=n_;clear ho hb hg hat))
     go_roundg k1
     case measure=>have:=HK1.out;omega
     case rel=>exact⟨(y784),(wrap64 (x7_1+1)),(t782),(t783),jer,H',⟨by have:=HK1.out;omega⟩,⟨pR HO786.out⟩,⟨by repeat(first | (with_reducible first | exact HI0.out | apply IsS132.alloc | apply IsS132.drewN | apply IsS132.drew | apply IsS132.set_1 | apply IsS132.set_2) | exact HI0.out)⟩,⟨by repeat(first | (with_reducible first | exact HK.out | apply zcy | apply zdp | apply zef | apply zdq) | exact HK.out)⟩,⟨bs1 (IsS132.ge HI0.out)⟩⟩
    rw[if_neg c9] at H
    exact absurd H (by simp)
   rw[if_neg c7] at H
   have c7b0:=zaw c7
   clear c7
   simp only[zax,zay] at H
   obtain⟨rfl,rfl,rfl⟩:=H
   go_wp2
   go_ret
   exact⟨_,jex,by(with_reducible repeat(first | apply zdb | apply zdc | apply zdl));exact HO_5.out,by repeat(first | (with_reducible first | exact HI0.out | apply IsS132.alloc | apply IsS132.drewN | apply IsS132.drew | apply IsS132.set_1 | apply IsS132.set_2) | exact HI0.out),by repeat(first | (with_reducible first | exact HB.out | apply zap | apply zai | apply zan | refine zao ?_ (IsS132.ge HI0.out)) | exact HB.out),by repeat(first | (with_reducible first | exact HK.out | apply zcy | apply zdp | apply zef | apply zdq) | exact HK.out)⟩
end Go.Proofs.Ytlalkldjpniakaa.P
