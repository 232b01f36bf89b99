import Derived.Test.Ytlalkldjpniakaaqu27
import Derived.Test.Ytlalkldjpniakaaqu23
namespace Go.Proofs.Ytlalkldjpniakaa.P
open Go.RowKit Go.Proofs.YtlalkldjpniakaaW.PrintWords Go.Proofs.YtlalkldjpniakaaW.PrintLast Go.Proofs.YtlalkldjpniakaaW.PrintMore
attribute [local go_sem] zbr zbs zch zci zbk zbl zbt zbu -- for this text's walks alone
set_option linter.unusedVariables false
set_option linter.unusedSimpArgs false
set_option maxHeartbeats 8000000
set_option maxRecDepth 100000

def spec_l13DrawRight.l0:Nat→List (S34)→Int→List Int→Int→Int→Option ((List (S34))×Int×Int)
 | 0,_,_,_,_,_=>none
 | k+1,x3,x4,x1000,x1001,x1002=>(spec_l1Below.f x1000 x1001 x1002 9).bind fun bt879=>(if x4<bt879.1 then((spec_l13DrawItem.f k x1000 bt879.2.1 bt879.2.2).bind fun bt882=>((spec_Put.f k x3 bt882.1 bt882.2.1 bt882.2.2.1 bt882.2.2.2.1).bind fun bt890=>(spec_l13DrawRight.l0 k bt890.1 (wrap64 (x4+1)) x1000 bt882.2.2.2.2.1 bt882.2.2.2.2.2))) else(some (x3,bt879.2.1,bt879.2.2)))
def spec_l13DrawRight.f (k:Nat) (s0_0:List Int) (s0_1:Int) (s0_2:Int):Option ((List (S34))×Int×Int):=spec_l13DrawRight.l0 k (([]:List (S34))) 0 s0_0 s0_1 s0_2
theorem spec_l13DrawRight.mono_l:∀ k,(∀ y0 y1 y2 y3 y4,LeO (spec_l13DrawRight.l0 k y0 y1 y2 y3 y4) (spec_l13DrawRight.l0 (k+1) y0 y1 y2 y3 y4))
 | 0=>fun _ _ _ _ _ r h=>by simp [spec_l13DrawRight.l0] at h
 | k+1=>by
  have ih0:=spec_l13DrawRight.mono_l k
  intro y0 y1 y2 y3 y4
  unfold spec_l13DrawRight.l0
  have m0:=@spec_Put.mono
  have m1:=@spec_l13DrawItem.mono
  exact mt
theorem spec_l13DrawRight.mono:∀ a0 a1 a2 k,LeO (spec_l13DrawRight.f k a0 a1 a2) (spec_l13DrawRight.f (k+1) a0 a1 a2):=by
 intro a0 a1 a2 k
 have ih0:=spec_l13DrawRight.mono_l k
 unfold spec_l13DrawRight.f
 have m0:=@spec_Put.mono
 have m1:=@spec_l13DrawItem.mono
 exact mt
theorem spec_l13DrawRight.calls (k:Nat) (g:Nat) (s0_0:List Int) (s0_1:Int) (s0_2:Int) (r1:List (S34)) (r2:Int) (r3:Int) (w0 w:World) (hI:IsS132 w0 w g s0_0 s0_1 s0_2) (hB:Below w0.heap.size w0 w) (h:spec_l13DrawRight.f k s0_0 s0_1 s0_2=some (r1,r2,r3)):
  Calls Try.prog 141 #[.pointer (some ⟨g,0,none⟩)] w fun e w'=>∃ v0_:Value,e= .returned (v0_)∧Kd.S k34 34 w' w.heap.size (fun _=>True) v0_ r1∧IsS132 w0 w' g s0_0 r2 r3∧Below w0.heap.size w0 w'∧KeepBut w w' g none:=by
 have HI0:=Aside0.mk hI
 have HK:=Aside0.mk (KeepBut.refl w g none)
 have HL:=Aside0.mk hB.size
 clear hI
 have HW0:=Aside0.mk hB.size
 have HB:=Aside0.mk hB
 clear hB
 have H:(spec_l13DrawRight.l0 k (([]:List (S34))) 0 s0_0 s0_1 s0_2)=some (r1,r2,r3):=h
 clear h
 obtain⟨y876,hy876⟩:∃ y_:List (S34),y_=(([]:List (S34))):=⟨_,rfl⟩
 replace H:(spec_l13DrawRight.l0 k y876 0 s0_0 s0_1 s0_2)=some (r1,r2,r3):=jrw hy876 H
 have Ny876:=Aside0.mk hy876
 clear hy876
 have H':=Aside0.mk H
 clear H
 go_enter Try.func141,Try.ntmps141
 go_wp2_with (first | (refine jgd 5 ?_;refine Kd.S_lit k34 _ 34 ?hg (N:=5) ?hd (xs:=([]:List (S34))) (inner:=[]) (ok:=fun _=>True) (okp:=fun _=>True) ?hr ?hp (fun _ hk=>hk) trivial (zbe _ _) (zbc _) (by simp) ?_;(case hd=>rfl);(case hg=>rfl);(case hr=>first | (go_simp;done) | (go_simp;rfl));(case hp=>exact(Reps.none _ _));intro v877 w2 ho3 hb hg_ hnew_;clear hg_ hnew_;(first | rw[← Ny876.out] at ho3 | (simp only[Int.reduceToNat] at ho3;rw[← Ny876.out] at ho3));have n_:=jA4 (zdf ho3 (zcj (w:=w) (g:=g) (row:=none) jk)) (IsS132.below (by repeat(first | (with_reducible first | exact HI0.out | apply IsS132.alloc | apply IsS132.drewN | apply IsS132.drew | apply IsS132.set_1 | apply IsS132.set_2) | exact HI0.out)) hb) (zaq jk (zcb hb g none) (.inl rfl)) (zah (bs1 (IsS132.ge HI0.out)) hb);clear HI0 HK HB;obtain⟨HO878,HI0,HK,HB⟩:=n_;clear hb ho3))
 go_loopg [3,4] k (fun kq v3 v4 w'=>∃ (x3_1:List (S34)) (x4_1:Int) (x1001_1:Int) (x1002_1:Int),v4= .int .i64 x4_1∧Aside0 (spec_l13DrawRight.l0 kq x3_1 x4_1 s0_0 x1001_1 x1002_1=some (r1,r2,r3))∧Aside0 (kq≤k)∧Aside0 (Kd.S k34 34 w' w.heap.size (fun _=>True) v3 x3_1)∧Aside0 (IsS132 w0 w' g s0_0 x1001_1 x1002_1)∧Aside0 (KeepBut w w' g none)∧Aside0 (Below w0.heap.size w0 w'))
 case atStart=>exact⟨(y876),(0),(s0_1),(s0_2),jer,H',⟨zbc _⟩,⟨pS HO878.out⟩,⟨by repeat(first | (with_reducible first | exact HI0.out | apply IsS132.alloc | apply IsS132.drewN | apply IsS132.drew | apply IsS132.set_1 | apply IsS132.set_2) | exact HI0.out)⟩,⟨by repeat(first | (with_reducible first | exact HK.out | apply zcy | apply zdp | apply zef | apply zdq) | exact HK.out)⟩,⟨bs1 (IsS132.ge HI0.out)⟩⟩
 case round=>
  clear H'
  try clear c1
  try clear p2
  obtain⟨x3_1,x4_1,x1001_1,x1002_1,rfl,HA,HK1,HO_3,HI0,HK,HB⟩:=hrel
  cases gk with
  | zero=>exact absurd HA.out (by simp [spec_l13DrawRight.l0])
  | succ k1=>
   have H:=HA.out
   clear HA
   simp only[spec_l13DrawRight.l0] at H
   obtain⟨⟨t879,t880,t881⟩,A4,H⟩:=bnd H
   try dsimp only at H
   by_cases c5:x4_1<t879
   ·rw[if_pos c5] at H
    have c5b0:=zag c5
    clear c5
    obtain⟨⟨t882,t883,t884,t885,t888,t889⟩,A6,H⟩:=bnd H
    try dsimp only at H
    obtain⟨⟨t890,t893⟩,A7,H⟩:=bnd H
    try dsimp only at H
    have H':=Aside0.mk H
    clear H
    go_wp2_with (first | (refine jgc 143 ?_;refine jgs 8 Try.func143 #[.pointer (some ⟨g,0,none⟩), .int .i64 9] ?_;(with_reducible refine(spec_l1Below.calls g s0_0 x1001_1 x1002_1 9 t879 t880 t881 w0 _ ?side1 ?side2 A4.out).mono ?_);(case side1=>repeat(first | (with_reducible first | exact HI0.out | apply IsS132.alloc | apply IsS132.drewN | apply IsS132.drew | apply IsS132.set_1 | apply IsS132.set_2) | exact HI0.out));(case side2=>repeat(first | (with_reducible first | exact HB.out | apply zap | apply zai | apply zan | refine zao ?_ (IsS132.ge HI0.out)) | exact HB.out));rintro e w8 ⟨rfl,hi,hb,hk⟩;refine⟨_,rfl,?_⟩;have n_:=jA4 (zca (Kd.S_keep (IsS132.apartS (show IsS132 w0 _ g s0_0 x1001_1 x1002_1 from by repeat(first | (with_reducible first | exact HI0.out | apply IsS132.alloc | apply IsS132.drewN | apply IsS132.drew | apply IsS132.set_1 | apply IsS132.set_2) | exact HI0.out)) (pS HO_3.out) (by decide)) hk (fun _ h=>h.2)) (fun _ h=>h.1)) (zaq jk hk (.inl rfl)) (hb) (hi);clear HO_3 HK HB HI0;obtain⟨HO_3,HK,HB,HI0⟩:=n_;(try clear hb);(try clear hb2);(try clear hk);(try clear hi)) | (refine jgc 119 ?_;refine jgs 15 Try.func119 #[.pointer (some ⟨g,0,none⟩)] ?_;(with_reducible refine(spec_l13DrawItem.calls k1 g s0_0 t880 t881 t882 t883 t884 t885 t888 t889 w0 _ ?side1 ?side2 A6.out).mono ?_);(case side1=>repeat(first | (with_reducible first | exact HI0.out | apply IsS132.alloc | apply IsS132.drewN | apply IsS132.drew | apply IsS132.set_1 | apply IsS132.set_2) | exact HI0.out));(case side2=>repeat(first | (with_reducible first | exact HB.out | apply zap | apply zai | apply zan | refine zao ?_ (IsS132.ge HI0.out)) | exact HB.out));rintro e w9 ⟨v886,rfl,ho0,hi,hb,hk⟩;refine⟨_,rfl,?_⟩;have n_:=jA5 (zca (Kd.S_told (Kd.S_oldK (IsS132.apartS (show IsS132 w0 _ g s0_0 t880 t881 from by repeat(first | (with_reducible first | exact HI0.out | apply IsS132.alloc | apply IsS132.drewN | apply IsS132.drew | apply IsS132.set_1 | apply IsS132.set_2) | exact HI0.out)) (pS HO_3.out) (by decide)) hk) (zcp ho0)) (fun _ h_=>h_.1)) (zbf ho0 (zcj (w:=w) (g:=g) (row:=none) jk)) (zaq jk hk (.inl rfl)) (hb) (hi);clear HO_3 HK HB HI0;obtain⟨HO_3,HO887,HK,HB,HI0⟩:=n_;clear hb hk hi ho0;obtain⟨Ao10,co10,eo10⟩:=Kd.S_slice HO_3.out;subst eo10;obtain⟨Ao11,co11,eo11⟩:=zbh HO887.out;subst eo11) | (refine jgc 61 ?_;refine jgs 16 Try.func61 #[.slice Ao10 x3_1.length co10, .agg #[.string t882, .int .i64 t883, .int .i64 t884, .slice Ao11 t885.length co11]] ?_;(with_reducible refine(spec_Put.calls k1 _ _ x3_1 t882 t883 t884 _ _ t885 t890 t893 _ ?side1 ?side2 ?side3 ?side4 A7.out).mono ?_);(case side1=>repeat(first | exact(zeg HO_3.out).2.2 | (with_reducible first | apply zdo | apply zem | apply Kd.C_drew)));(case side2=>exact(zeg HO_3.out).2.1);(case side3=>repeat(first | exact(zdh HO887.out).2.2 | (with_reducible first | apply zdo | apply zem | apply Kd.C_drew)));(case side4=>exact(zdh HO887.out).2.1);rintro e w12 ⟨v891,rfl,ho0,hb⟩;refine⟨_,rfl,?_⟩;have n_:=jA6 (zds (pS HO_3.out) (Kd.S_base ho0) hb) (zer (pR HO887.out) hb) (zdf (Kd.S_new' (Kd.S_new' ho0 (Kd.S_lt (pS HO_3.out))) (Kd.R_lt (pR HO887.out))) (zcj (w:=w) (g:=g) (row:=none) jk)) (IsS132.below (by repeat(first | (with_reducible first | exact HI0.out | apply IsS132.alloc | apply IsS132.drewN | apply IsS132.drew | apply IsS132.set_1 | apply IsS132.set_2) | exact HI0.out)) hb) (zaq jk (zcb hb g none) (.inl rfl)) (zah (bs1 (IsS132.ge HI0.out)) hb);clear HO_3 HO887 HI0 HK HB;obtain⟨HO_3,HO887,HO892,HI0,HK,HB⟩:=n_;clear hb ho0))
    go_roundg k1
    case measure=>have:=HK1.out;omega
    case rel=>exact⟨(t890),(wrap64 (x4_1+1)),(t888),(t889),jer,H',⟨by have:=HK1.out;omega⟩,⟨tqS HO892.out⟩,⟨by repeat(first | (with_reducible first | exact HI0.out | apply IsS132.alloc | apply IsS132.drewN | apply IsS132.drew | apply IsS132.set_1 | apply IsS132.set_2) | exact HI0.out)⟩,⟨by repeat(first | (with_reducible first | exact HK.out | apply zcy | apply zdp | apply zef | apply zdq) | exact HK.out)⟩,⟨bs1 (IsS132.ge HI0.out)⟩⟩
   rw[if_neg c5] at H
   have c5b0:=zaw c5
   clear c5
   simp only[zax,zay] at H
   obtain⟨rfl,rfl,rfl⟩:=H
   go_wp2_with (first | (refine jgc 143 ?_;refine jgs 8 Try.func143 #[.pointer (some ⟨g,0,none⟩), .int .i64 9] ?_;(with_reducible refine(spec_l1Below.calls g s0_0 x1001_1 x1002_1 9 t879 t880 t881 w0 _ ?side1 ?side2 A4.out).mono ?_);(case side1=>repeat(first | (with_reducible first | exact HI0.out | apply IsS132.alloc | apply IsS132.drewN | apply IsS132.drew | apply IsS132.set_1 | apply IsS132.set_2) | exact HI0.out));(case side2=>repeat(first | (with_reducible first | exact HB.out | apply zap | apply zai | apply zan | refine zao ?_ (IsS132.ge HI0.out)) | exact HB.out));rintro e w13 ⟨rfl,hi,hb,hk⟩;refine⟨_,rfl,?_⟩;have n_:=jA4 (zca (Kd.S_keep (IsS132.apartS (show IsS132 w0 _ g s0_0 x1001_1 x1002_1 from by repeat(first | (with_reducible first | exact HI0.out | apply IsS132.alloc | apply IsS132.drewN | apply IsS132.drew | apply IsS132.set_1 | apply IsS132.set_2) | exact HI0.out)) (pS HO_3.out) (by decide)) hk (fun _ h=>h.2)) (fun _ h=>h.1)) (zaq jk hk (.inl rfl)) (hb) (hi);clear HO_3 HK HB HI0;obtain⟨HO_3,HK,HB,HI0⟩:=n_;(try clear hb);(try clear hb2);(try clear hk);(try clear hi)))
   go_ret
   exact⟨_,jex,by(with_reducible repeat(first | apply zcn | apply zco | apply zcw));exact HO_3.out,by repeat(first | (with_reducible first | exact HI0.out | apply IsS132.alloc | apply IsS132.drewN | apply IsS132.drew | apply IsS132.set_1 | apply IsS132.set_2) | exact HI0.out),by repeat(first | (with_reducible first | exact HB.out | apply zap | apply zai | apply zan | refine zao ?_ (IsS132.ge HI0.out)) | exact HB.out),by repeat(first | (with_reducible first | exact HK.out | apply zcy | apply zdp | apply zef | apply zdq) | exact HK.out)⟩
def spec_l1Once.f (s0_0:List Int) (s0_1:Int) (s0_2:Int) (a1:Int):Option (Bool×Int×Int):=(spec_l1Below.f s0_0 s0_1 s0_2 a1).bind fun bt894=>(some ((bt894.1==0),bt894.2.1,bt894.2.2))
theorem spec_l1Once.calls (g:Nat) (s0_0:List Int) (s0_1:Int) (s0_2:Int) (a1:Int) (r1:Bool) (r2:Int) (r3:Int) (w0 w:World) (hI:IsS132 w0 w g s0_0 s0_1 s0_2) (hB:Below w0.heap.size w0 w) (h:spec_l1Once.f s0_0 s0_1 s0_2 a1=some (r1,r2,r3)):
  Calls Try.prog 142 #[.pointer (some ⟨g,0,none⟩), .int .i64 a1] w fun e w'=>e= .returned (.bool r1)∧IsS132 w0 w' g s0_0 r2 r3∧Below w0.heap.size w0 w'∧KeepBut w w' g none:=by
 have HI0:=Aside0.mk hI
 have HK:=Aside0.mk (KeepBut.refl w g none)
 have HL:=Aside0.mk hB.size
 clear hI
 have HW0:=Aside0.mk hB.size
 have HB:=Aside0.mk hB
 clear hB
 have H:((spec_l1Below.f s0_0 s0_1 s0_2 a1).bind fun bt894=>(some ((bt894.1==0),bt894.2.1,bt894.2.2)))=some (r1,r2,r3):=h
 clear h
 obtain⟨⟨t894,t895,t896⟩,A3,H⟩:=bnd H
 try dsimp only at H
 simp only[zax,zay] at H
 obtain⟨rfl,rfl,rfl⟩:=H
 go_enter Try.func142,Try.ntmps142
 go_wp2_with (first | (refine jgc 143 ?_;refine jgs 7 Try.func143 #[.pointer (some ⟨g,0,none⟩), .int .i64 a1] ?_;(with_reducible refine(spec_l1Below.calls g s0_0 s0_1 s0_2 a1 t894 t895 t896 w0 _ ?side1 ?side2 A3.out).mono ?_);(case side1=>repeat(first | (with_reducible first | exact HI0.out | apply IsS132.alloc | apply IsS132.drewN | apply IsS132.drew | apply IsS132.set_1 | apply IsS132.set_2) | exact HI0.out));(case side2=>repeat(first | (with_reducible first | exact HB.out | apply zap | apply zai | apply zan | refine zao ?_ (IsS132.ge HI0.out)) | exact HB.out));rintro e w4 ⟨rfl,hi,hb,hk⟩;refine⟨_,rfl,?_⟩;have n_:=jA3 (zaq jk hk (.inl rfl)) (hb) (hi);clear HK HB HI0;obtain⟨HK,HB,HI0⟩:=n_;(try clear hb);(try clear hb2);(try clear hk);(try clear hi)))
 go_ret
 exact⟨jex,by repeat(first | (with_reducible first | exact HI0.out | apply IsS132.alloc | apply IsS132.drewN | apply IsS132.drew | apply IsS132.set_1 | apply IsS132.set_2) | exact HI0.out),by repeat(first | (with_reducible first | exact HB.out | apply zap | apply zai | apply zan | refine zao ?_ (IsS132.ge HI0.out)) | exact HB.out),by repeat(first | (with_reducible first | exact HK.out | apply zcy | apply zdp | apply zef | apply zdq) | exact HK.out)⟩
end Go.Proofs.Ytlalkldjpniakaa.P
