import Derived.Test.Ytienlgcjohpphaale39
namespace Go.Proofs.Ytienlgcjohpphaa.P
open Go.RowKit Go.Proofs.YtienlgcjohpphaaW.PrintWords Go.Proofs.YtienlgcjohpphaaW.PrintLast Go.Proofs.YtienlgcjohpphaaW.PrintMore
attribute [local go_sem] zcn zco zdk zdl zce zcf zcp zcq -- for this text's walks alone
set_option linter.unusedVariables false
set_option linter.unusedSimpArgs false

def laws_FnLetters.j0:Nat→List Int→Bool→Int→List Int→List Int→Option (Bool)
 | 0,_,_,_,_,_=>none
 | k+1,x4,x106,x1603000,x1603001,x1603002=>if x106=true then(none) else((impl_LetterOk.f x1603000 x1603001 x1603002).bind fun t1669=>(if t1669=true then((impl_LetterOf.f k x4).bind fun bt1670=>(if 40≤(x4.length:Int) then((impl_LetterOf.f k (x4.take 40)).bind fun bt1683=>(if bt1670.2.2.2=true then((laws_sameLetter.f bt1670.1 bt1670.2.1 bt1670.2.2.1 x1603000 x1603001 x1603002).bind fun t1692=>(if t1692=true then(if bt1683.2.2.2=true then(none) else(some ((x4.length:Int)==(wrap64 (35+(x1603002.length:Int)))))) else(none))) else(none))) else(none))) else(some ((x4.length:Int)==0))))
def laws_FnLetters.f (k:Nat) (l0:List Int):Option (Bool):=(laws_big.f l0).bind fun t1594=>(if t1594=true then(some true) else((spec_DrawLetterBytes.f k l0).bind fun bt1595=>((impl_LetterBytes.f k bt1595.1 bt1595.2.1 bt1595.2.2).bind fun t1603=>((spec_DrawLetterOf.f k l0).bind fun t1606=>((impl_LetterOf.f k t1606).bind fun bt1609=>((spec_LetterOf.f t1606).bind fun bt1618=>((spec_DrawKeysOf.f k l0).bind fun bt1627=>((impl_KeysOf.f k bt1627.1 bt1627.2.1 bt1627.2.2).bind fun bt1636=>((spec_KeysOf.f k bt1627.1 bt1627.2.1 bt1627.2.2).bind fun bt1642=>((spec_DrawLetterOk.f k l0).bind fun bt1648=>((spec_LetterBytes.f k bt1595.1 bt1595.2.1 bt1595.2.2).bind fun t1656=>((impl_Same.f t1603 t1656).bind fun t1659=>(if t1659=true then(if(bt1609.2.2.2 != bt1618.2.2.2)=true then(none) else((laws_sameLetter.f bt1609.1 bt1609.2.1 bt1609.2.2.1 bt1618.1 bt1618.2.1 bt1618.2.2.1).bind fun t1660=>(if t1660=true then((impl_Same.f bt1636.1 bt1642.1).bind fun t1661=>(if t1661=true then((impl_Same.f bt1636.2 bt1642.2).bind fun t1662=>(if t1662=true then((impl_LetterOk.f bt1648.1 bt1648.2.1 bt1648.2.2).bind fun t1663=>((spec_LetterOk.f bt1648.1 bt1648.2.1 bt1648.2.2).bind fun t1664=>(if(t1663 != t1664)=true then(none) else(if bt1609.2.2.2=true then((impl_LetterBytes.f k bt1609.1 bt1609.2.1 bt1609.2.2.1).bind fun t1665=>((impl_Same.f t1665 t1606).bind fun t1668=>(laws_FnLetters.j0 k t1603 (!t1668) bt1595.1 bt1595.2.1 bt1595.2.2))) else(laws_FnLetters.j0 k t1603 false bt1595.1 bt1595.2.1 bt1595.2.2))))) else(none))) else(none))) else(none)))) else(none))))))))))))))
theorem laws_FnLetters.mono_l:∀ k,(∀ y0 y1 y2 y3 y4,LeO (laws_FnLetters.j0 k y0 y1 y2 y3 y4) (laws_FnLetters.j0 (k+1) y0 y1 y2 y3 y4))
 | 0=>fun _ _ _ _ _ r h=>by simp [laws_FnLetters.j0] at h
 | k+1=>by
  have ih0:=laws_FnLetters.mono_l k
  intro y0 y1 y2 y3 y4
  unfold laws_FnLetters.j0
  have m0:=@impl_KeysOf.mono
  have m1:=@impl_LetterBytes.mono
  have m2:=@impl_LetterOf.mono
  have m3:=@spec_DrawKeysOf.mono
  have m4:=@spec_DrawLetterBytes.mono
  have m5:=@spec_DrawLetterOf.mono
  have m6:=@spec_DrawLetterOk.mono
  have m7:=@spec_KeysOf.mono
  have m8:=@spec_LetterBytes.mono
  exact mt
theorem laws_FnLetters.mono:∀ a0 k,LeO (laws_FnLetters.f k a0) (laws_FnLetters.f (k+1) a0):=by
 intro a0 k
 have ih0:=laws_FnLetters.mono_l k
 unfold laws_FnLetters.f
 have m0:=@impl_KeysOf.mono
 have m1:=@impl_LetterBytes.mono
 have m2:=@impl_LetterOf.mono
 have m3:=@spec_DrawKeysOf.mono
 have m4:=@spec_DrawLetterBytes.mono
 have m5:=@spec_DrawLetterOf.mono
 have m6:=@spec_DrawLetterOk.mono
 have m7:=@spec_KeysOf.mono
 have m8:=@spec_LetterBytes.mono
 exact mt
def laws_FnLetters.T12:Bool×List (List Nat×List Nat):=(true,[([],[]),([],[]),([1],[1]),([0,2,2],[0,2]),([3],[3]),([4,3],[4]),([5],[5]),([5],[5]),([6,7,5],[5,6,7]),([5,8],[5,8]),([9,5],[9]),([10],[10]),([10],[10]),([11,12,10,10],[10,11,12]),([13,10],[10,13]),([10,14],[10,14]),([15,13],[15]),([16],[16]),([16],[16]),([17,18,16,16],[16,17,18]),([19,16],[16,19]),([16,20],[16,20]),([21,19],[21]),([22],[22]),([22],[22]),([23,24,22,22],[22,23,24]),([25,22],[22,25]),([22,26],[22,26]),([27,25],[27]),([28],[28]),([29,28,28],[28,29]),([28],[28]),([31,30,28],[28,31]),([30,32,28],[28,30,32]),([28,33],[28,33]),([34,32],[34]),([35],[35]),([36,35,35],[35,36]),([37],[37]),([38,37,37],[37,38]),([37],[37]),([39,40,39,37],[37,39,40]),([41,37],[37,41]),([37,42,35],[35,37,42]),([35,43],[35,43])])
def laws_FnLetters.B12:List Nat:=[0,0,2,7,15,31,63,63,255,511,1023,2047,2047,8191,16383,32767,65535,131071,131071,524287,1048575,2097151,4194303,8388607,8388607,33554431,67108863,134217727,268435455,536870911,1073741823,536870911,4294967295,8589934591,17179869183,34359738367,68719476735,137438953471,274877906943,549755813887,274877906943,2199023255551,4398046511103,8796093022207,17592186044415]
theorem laws_FnLetters.tab12:rtab .any (opsOf Try.f14 12)=laws_FnLetters.T12:=by kernel_rfl
theorem laws_FnLetters.bits12:waitsOk laws_FnLetters.T12.2 laws_FnLetters.B12=true:=by kernel_rfl
theorem ld3 {o:Oper} {a:Act} {W:World} {p:Operand} {g:Nat} {b0 b1 b2:Value} (ho:o.op= .load 55 p) (hp:a.eval p= .pointer (some ⟨g,0,none⟩)) (hb:W.heap[g]? =some (.cells #[b0,b1,b2] 55 (0,0))):(execOp a.eval o).run Try.prog W= .ok (.value (.agg #[b0,b1,b2])) W:=by
 have hu:=Try.underlying55
 have c0:W.cell? ⟨g,0,none⟩=some b0:=(zbd hb 0).trans rfl
 have c1:W.cell? ⟨g,1,none⟩=some b1:=(zbd hb 1).trans rfl
 have c2:W.cell? ⟨g,2,none⟩=some b2:=(zbd hb 2).trans rfl
 unfold execOp
 simp only[ho,hp]
 go_simp
theorem ld1 {o:Oper} {a:Act} {W:World} {p:Operand} {g j:Nat} {v:Value} (ho:o.op= .load 23 p) (hp:a.eval p= .pointer (some ⟨g,j,none⟩)) (hc:W.cell? ⟨g,j,none⟩=some v):(execOp a.eval o).run Try.prog W= .ok (.value v) W:=by
 have hu:=Try.underlying23
 unfold execOp
 simp only[ho,hp]
 go_simp
set_option maxHeartbeats 8000000 in
set_option maxRecDepth 100000 in
theorem laws_FnLetters.calls (k:Nat) (A0:Option Addr) (c0:Nat) (l0:List Int) (r:Bool) (w:World) (hr0:Kd.C (Kd.int .u8) w A0 l0.length l0) (hc0:l0.length≤c0) (h:laws_FnLetters.f k l0=some r):
  Calls Try.prog 14 #[.slice A0 l0.length c0] w fun e w'=>e= .returned (.bool r)∧Below w.heap.size w w':=by
 have hu55:=Try.underlying55
 have LA0:=Aside0.mk hc0
 have RA0:=Aside0.mk hr0
 clear hr0 hc0
 unfold laws_FnLetters.f at h
 obtain⟨t,A2,H⟩:=bnn h;clear h
 cases t with
 | true=>
  obtain rfl:=Option.some.inj H
  go_enter Try.func14,Try.ntmps14
  go_wp2_with (first | (refine kd 23 ?_;refine kc 27 23 Try.func27 #[.slice A0 l0.length c0] ?_;with_reducible refine(laws_big.calls _ _ l0 true _ sd sd A2.out).mono ?_;rintro e w_ ⟨rfl,hb⟩;refine⟨_,rfl,?_⟩;have E1:=Aside0.mk (Drawn0.below hb);clear hb))
  go_ret
  exact⟨rfl,ch⟩
 | false=>
  replace H:=(if_neg (by decide:¬(false=true))).symm.trans H
  obtain⟨⟨e1,f1,b1⟩,A4,G⟩:=bnn H;clear H
  obtain⟨b,A5,H⟩:=bnn G;clear G
  obtain⟨x,A6,G⟩:=bnn H;clear H
  obtain⟨⟨e2,f2,b2,o2⟩,A7,H⟩:=bnn G;clear G
  obtain⟨⟨e3,f3,b3,o3⟩,A8,G⟩:=bnn H;clear H
  obtain⟨⟨p1,p2,p3⟩,A9,H⟩:=bnn G;clear G
  obtain⟨⟨k1,n1⟩,A10,G⟩:=bnn H;clear H
  obtain⟨⟨k2,n2⟩,A11,H⟩:=bnn G;clear G
  obtain⟨⟨e4,f4,b4⟩,A12,G⟩:=bnn H;clear H
  obtain⟨sb,A13,H⟩:=bnn G;clear G
  obtain⟨_,A14,G⟩:=bnn H;clear H
  obtain⟨rfl,H⟩:=ifT G;clear G
  obtain⟨d1,G⟩:=ifF H;clear H
  obtain⟨_,A15,H⟩:=bnn G;clear G
  obtain⟨rfl,G⟩:=ifT H;clear H
  obtain⟨_,A16,H⟩:=bnn G;clear G
  obtain⟨rfl,G⟩:=ifT H;clear H
  obtain⟨_,A17,H⟩:=bnn G;clear G
  obtain⟨rfl,G⟩:=ifT H;clear H
  obtain⟨g1,A18,H⟩:=bnn G;clear G
  obtain⟨g2,A19,G⟩:=bnn H;clear H
  have H:=G;clear G
  obtain⟨d2,G⟩:=ifF H;clear H;have H:=G;clear G
  obtain rfl:o2=o3:=by cases o2 <;> cases o3 <;> first | rfl | exact absurd rfl d1
  obtain rfl:g1=g2:=by cases g1 <;> cases g2 <;> first | rfl | exact absurd rfl d2
  clear d1 d2
  replace H:∃ j,(o2=true→∃ yb,Aside0 (impl_LetterBytes.f k e2 f2 b2=some yb)∧Aside0 (impl_Same.f yb x=some true))∧laws_FnLetters.j0 j b false e1 f1 b1=some r:=by
   dsimp only at H
   by_cases c:o2=true
   ·rw[if_pos c] at H
    obtain⟨yb,q1,G⟩:=bnn H;clear H
    obtain⟨q,q2,H⟩:=bnn G;clear G
    cases q with
    | false=>cases k with | zero=>simp [laws_FnLetters.j0] at H | succ k=>simp [laws_FnLetters.j0] at H
    | true=>exact⟨k,fun _=>⟨yb,q1,q2⟩,H⟩
   rw[if_neg c] at H
   exact⟨k,fun h=>absurd h c,H⟩
  obtain⟨j,HY,H⟩:=H
  replace HY:=Aside0.mk HY
  cases j with
  | zero=>simp [laws_FnLetters.j0] at H
  | succ j=>
  simp only[laws_FnLetters.j0] at H
  replace H:=(if_neg (by decide:¬(false=true))).symm.trans H
  obtain⟨g3,A22,G⟩:=bnn H;clear H
  have HH:=Aside0.mk G
  clear G
  go_enter Try.func14,Try.ntmps14
  go_upto_region 12 with (first | (refine kd 23 ?_;refine kc 27 23 Try.func27 #[.slice A0 l0.length c0] ?_;with_reducible refine(laws_big.calls _ _ l0 false _ sd sd A2.out).mono ?_;rintro e w_ ⟨rfl,hb⟩;refine⟨_,rfl,?_⟩;have E1:=Aside0.mk (Drawn0.below hb);clear hb) | (refine kd 25 ?_;refine kc 56 25 Try.func56 #[.slice A0 l0.length c0] ?_;with_reducible refine(spec_DrawLetterBytes.calls k _ _ l0 e1 f1 b1 _ sd sd A4.out).mono ?_;rintro e w_ ⟨Vf1,Vb1,rfl,h0,h1,hb⟩;refine⟨_,rfl,?_⟩;obtain⟨Af1,Cf1,rfl,Lf1,Rf1⟩:=rsl h0;clear h0;obtain⟨Ab1,Cb1,rfl,Lb1,Rb1⟩:=rsl h1;clear h1;have E2:=Aside0.mk hb;clear hb) | (refine kd 3 ?_;refine kb 3 55 [.int .i64 0, .slice none 0 0, .slice none 0 0] [.int .i64 e1, .slice Af1 f1.length Cf1, .slice Ab1 b1.length Cb1] (.agg #[.int .i64 e1, .slice Af1 f1.length Cf1, .slice Ab1 b1.length Cb1]) (fun gl w_ Bl E3=>?_)) | (refine kd 26 ?_;refine kl _ (ld3 (by with_reducible exact rfl) (by rfl) (bcell Bl)) ?_) | (refine kd 27 ?_;refine kc 57 27 Try.func57 #[.agg #[.int .i64 e1, .slice Af1 f1.length Cf1, .slice Ab1 b1.length Cb1]] ?_;with_reducible refine(impl_LetterBytes.calls k e1 _ _ f1 _ _ b1 b _ sd sd sd sd A5.out).mono ?_;rintro e w_ ⟨Vb,rfl,h0,hb⟩;refine⟨_,rfl,?_⟩;obtain⟨Ab,Cb,rfl,Lb,Rb⟩:=rsl h0;clear h0;have E4:=Aside0.mk hb;clear hb) | (refine kd 29 ?_;refine kc 58 29 Try.func58 #[.slice A0 l0.length c0] ?_;with_reducible refine(spec_DrawLetterOf.calls k _ _ l0 x _ sd sd A6.out).mono ?_;rintro e w_ ⟨Vx,rfl,h0,hb⟩;refine⟨_,rfl,?_⟩;obtain⟨Ax,Cx,rfl,Lx,Rx⟩:=rsl h0;clear h0;have E5:=Aside0.mk hb;clear hb) | (refine kd 32 ?_;refine kc 59 32 Try.func59 #[.slice Ax x.length Cx] ?_;with_reducible refine(impl_LetterOf.calls k _ _ x e2 f2 b2 o2 _ sd sd A7.out).mono ?_;rintro e w_ ⟨Vf2,Vb2,rfl,h0,h1,hb⟩;refine⟨_,rfl,?_⟩;obtain⟨Af2,Cf2,rfl,Lf2,Rf2⟩:=rsl h0;clear h0;obtain⟨Ab2,Cb2,rfl,Lb2,Rb2⟩:=rsl h1;clear h1;have E6:=Aside0.mk hb;clear hb) | (refine kd 6 ?_;refine kb 6 55 [.int .i64 0, .slice none 0 0, .slice none 0 0] [.int .i64 e2, .slice Af2 f2.length Cf2, .slice Ab2 b2.length Cb2] (.agg #[.int .i64 e2, .slice Af2 f2.length Cf2, .slice Ab2 b2.length Cb2]) (fun gy w_ By E7=>?_)) | (refine kd 37 ?_;refine kc 60 37 Try.func60 #[.slice Ax x.length Cx] ?_;with_reducible refine(spec_LetterOf.calls _ _ x e3 f3 b3 o2 _ sd sd A8.out).mono ?_;rintro e w_ ⟨Vf3,Vb3,rfl,h0,h1,hb⟩;refine⟨_,rfl,?_⟩;obtain⟨Af3,Cf3,rfl,Lf3,Rf3⟩:=rsl h0;clear h0;obtain⟨Ab3,Cb3,rfl,Lb3,Rb3⟩:=rsl h1;clear h1;have E8:=Aside0.mk hb;clear hb) | (refine kd 8 ?_;refine kb 8 55 [.int .i64 0, .slice none 0 0, .slice none 0 0] [.int .i64 e3, .slice Af3 f3.length Cf3, .slice Ab3 b3.length Cb3] (.agg #[.int .i64 e3, .slice Af3 f3.length Cf3, .slice Ab3 b3.length Cb3]) (fun gs w_ Bs E9=>?_)) | (refine kd 42 ?_;refine kc 61 42 Try.func61 #[.slice A0 l0.length c0] ?_;with_reducible refine(spec_DrawKeysOf.calls k _ _ l0 p1 p2 p3 _ sd sd A9.out).mono ?_;rintro e w_ ⟨Vp1,Vp2,Vp3,rfl,h0,h1,h2,hb⟩;refine⟨_,rfl,?_⟩;obtain⟨Ap1,Cp1,rfl,Lp1,Rp1⟩:=rsl h0;clear h0;obtain⟨Ap2,Cp2,rfl,Lp2,Rp2⟩:=rsl h1;clear h1;obtain⟨Ap3,Cp3,rfl,Lp3,Rp3⟩:=rsl h2;clear h2;have E10:=Aside0.mk hb;clear hb) | (refine kd 50 ?_;refine kc 50 50 Try.func50 #[.slice Ap1 p1.length Cp1, .slice Ap2 p2.length Cp2, .slice Ap3 p3.length Cp3] ?_;with_reducible refine(impl_KeysOf.calls k _ _ p1 _ _ p2 _ _ p3 k1 n1 _ sd sd sd sd sd sd A10.out).mono ?_;rintro e w_ ⟨Vk1,Vn1,rfl,h0,h1,hb⟩;refine⟨_,rfl,?_⟩;obtain⟨Ak1,Ck1,rfl,Lk1,Rk1⟩:=rsl h0;clear h0;obtain⟨An1,Cn1,rfl,Ln1,Rn1⟩:=rsl h1;clear h1;have E11:=Aside0.mk hb;clear hb) | (refine kd 57 ?_;refine kc 49 57 Try.func49 #[.slice Ap1 p1.length Cp1, .slice Ap2 p2.length Cp2, .slice Ap3 p3.length Cp3] ?_;with_reducible refine(spec_KeysOf.calls k _ _ p1 _ _ p2 _ _ p3 k2 n2 _ sd sd sd sd sd sd A11.out).mono ?_;rintro e w_ ⟨Vk2,Vn2,rfl,h0,h1,hb⟩;refine⟨_,rfl,?_⟩;obtain⟨Ak2,Ck2,rfl,Lk2,Rk2⟩:=rsl h0;clear h0;obtain⟨An2,Cn2,rfl,Ln2,Rn2⟩:=rsl h1;clear h1;have E12:=Aside0.mk hb;clear hb) | (refine kd 61 ?_;refine kc 62 61 Try.func62 #[.slice A0 l0.length c0] ?_;with_reducible refine(spec_DrawLetterOk.calls k _ _ l0 e4 f4 b4 _ sd sd A12.out).mono ?_;rintro e w_ ⟨Vf4,Vb4,rfl,h0,h1,hb⟩;refine⟨_,rfl,?_⟩;obtain⟨Af4,Cf4,rfl,Lf4,Rf4⟩:=rsl h0;clear h0;obtain⟨Ab4,Cb4,rfl,Lb4,Rb4⟩:=rsl h1;clear h1;have E13:=Aside0.mk hb;clear hb) | (refine kd 17 ?_;refine kb 17 55 [.int .i64 0, .slice none 0 0, .slice none 0 0] [.int .i64 e4, .slice Af4 f4.length Cf4, .slice Ab4 b4.length Cb4] (.agg #[.int .i64 e4, .slice Af4 f4.length Cf4, .slice Ab4 b4.length Cb4]) (fun gq w_ Bq E14=>?_)))
  (try simp only[Act.put,zaa,zae,zaf])
  go_cut [106] (fun v106 wc=>v106= .bool false∧Aside0 (Below w.heap.size w wc)∧Aside0 (Below w_.heap.size w_ wc))
  case first=>
   have HT_:=Aside0.mk laws_FnLetters.tab12
   have HW_:=Aside0.mk laws_FnLetters.bits12
   refine rst 45 (by kernel_rfl) (fun w_ E15=>?_)
   refine ru 0 62 HT_.out ?_
   refine tl 1 63 (.agg #[.int .i64 e1, .slice Af1 f1.length Cf1, .slice Ab1 b1.length Cb1]) HT_.out HW_.out ch ?_ ?_
   ·exact fun w_ h_=>ld3 rfl rfl (zgm (bcell Bl) h_)
   refine rc 2 64 63 HT_.out Try.func63 #[.agg #[.int .i64 e1, .slice Af1 f1.length Cf1, .slice Ab1 b1.length Cb1]] ?_
   with_reducible refine(spec_LetterBytes.calls k e1 _ _ f1 _ _ b1 sb _ sd sd sd sd A13.out).mono ?_
   rintro e w_ ⟨Vsb,rfl,h0,hb⟩
   obtain⟨Asb,Csb,rfl,Lsb,Rsb⟩:=rsl h0
   clear h0
   have E16:=Aside0.mk hb
   clear hb
   refine⟨_,rfl,ch,nrm ?_⟩
   refine rc 3 65 32 HT_.out Try.func32 #[.slice Ab b.length Cb, .slice Asb sb.length Csb] ?_
   with_reducible refine(impl_Same.calls _ _ b _ _ sb true _ sd sd sd sd A14.out).mono ?_
   rintro e w_ ⟨rfl,hb⟩
   have E17:=Aside0.mk (Drawn0.below hb)
   clear hb
   refine⟨_,rfl,ch,nrm ?_⟩
   refine ru 4 66 HT_.out ?_
   refine ru 5 67 HT_.out ?_
   refine ru 6 68 HT_.out ?_
   refine ru 7 69 HT_.out ?_
   refine ru 8 70 HT_.out ?_
   refine ru 9 71 HT_.out ?_
   refine ru 10 72 HT_.out ?_
   refine tl 11 73 (.agg #[.int .i64 e2, .slice Af2 f2.length Cf2, .slice Ab2 b2.length Cb2]) HT_.out HW_.out ch ?_ ?_
   ·exact fun w_ h_=>ld3 rfl rfl (zgm (bcell By) h_)
   refine tl 12 74 (.agg #[.int .i64 e3, .slice Af3 f3.length Cf3, .slice Ab3 b3.length Cb3]) HT_.out HW_.out ch ?_ ?_
   ·exact fun w_ h_=>ld3 rfl rfl (zgm (bcell Bs) h_)
   refine rc 13 75 64 HT_.out Try.func64 #[.agg #[.int .i64 e2, .slice Af2 f2.length Cf2, .slice Ab2 b2.length Cb2], .agg #[.int .i64 e3, .slice Af3 f3.length Cf3, .slice Ab3 b3.length Cb3]] ?_
   with_reducible refine(laws_sameLetter.calls e2 _ _ f2 _ _ b2 e3 _ _ f3 _ _ b3 true _ sd sd sd sd sd sd sd sd A15.out).mono ?_
   rintro e w_ ⟨rfl,hb⟩
   have E18:=Aside0.mk hb
   clear hb
   refine⟨_,rfl,ch,nrm ?_⟩
   refine ru 14 76 HT_.out ?_
   refine ru 15 77 HT_.out ?_
   refine ru 16 78 HT_.out ?_
   refine ru 17 79 HT_.out ?_
   refine ru 18 80 HT_.out ?_
   refine rc 19 81 32 HT_.out Try.func32 #[.slice Ak1 k1.length Ck1, .slice Ak2 k2.length Ck2] ?_
   with_reducible refine(impl_Same.calls _ _ k1 _ _ k2 true _ sd sd sd sd A16.out).mono ?_
   rintro e w_ ⟨rfl,hb⟩
   have E19:=Aside0.mk (Drawn0.below hb)
   clear hb
   refine⟨_,rfl,ch,nrm ?_⟩
   refine ru 20 82 HT_.out ?_
   refine ru 21 83 HT_.out ?_
   refine ru 22 84 HT_.out ?_
   refine ru 23 85 HT_.out ?_
   refine ru 24 86 HT_.out ?_
   refine rc 25 87 32 HT_.out Try.func32 #[.slice An1 n1.length Cn1, .slice An2 n2.length Cn2] ?_
   with_reducible refine(impl_Same.calls _ _ n1 _ _ n2 true _ sd sd sd sd A17.out).mono ?_
   rintro e w_ ⟨rfl,hb⟩
   have E20:=Aside0.mk (Drawn0.below hb)
   clear hb
   refine⟨_,rfl,ch,nrm ?_⟩
   refine ru 26 88 HT_.out ?_
   refine ru 27 89 HT_.out ?_
   refine ru 28 90 HT_.out ?_
   refine tl 29 91 (.agg #[.int .i64 e4, .slice Af4 f4.length Cf4, .slice Ab4 b4.length Cb4]) HT_.out HW_.out ch ?_ ?_
   ·exact fun w_ h_=>ld3 rfl rfl (zgm (bcell Bq) h_)
   refine tl 31 93 (.agg #[.int .i64 e4, .slice Af4 f4.length Cf4, .slice Ab4 b4.length Cb4]) HT_.out HW_.out ch ?_ ?_
   ·exact fun w_ h_=>ld3 rfl rfl (zgm (bcell Bq) h_)
   refine rc 30 92 65 HT_.out Try.func65 #[.agg #[.int .i64 e4, .slice Af4 f4.length Cf4, .slice Ab4 b4.length Cb4]] ?_
   with_reducible refine(impl_LetterOk.calls e4 _ _ f4 _ _ b4 g1 _ sd sd sd sd A18.out).mono ?_
   rintro e w_ ⟨rfl,hb⟩
   have E21:=Aside0.mk hb
   clear hb
   refine⟨_,rfl,ch,nrm ?_⟩
   refine rc 32 94 66 HT_.out Try.func66 #[.agg #[.int .i64 e4, .slice Af4 f4.length Cf4, .slice Ab4 b4.length Cb4]] ?_
   with_reducible refine(spec_LetterOk.calls e4 _ _ f4 _ _ b4 g1 _ sd sd sd sd A19.out).mono ?_
   rintro e w_ ⟨rfl,hb⟩
   have E22:=Aside0.mk hb
   clear hb
   refine⟨_,rfl,ch,nrm ?_⟩
   refine ru 33 95 HT_.out ?_
   refine ru 34 96 HT_.out ?_
   refine ru 35 97 HT_.out ?_
   refine ru 36 98 HT_.out ?_
   refine ru 37 99 HT_.out ?_
   cases o2 with
   | true=>
    obtain⟨yb,A20,A21⟩:=HY.out rfl
    refine tl 38 100 (.agg #[.int .i64 e2, .slice Af2 f2.length Cf2, .slice Ab2 b2.length Cb2]) HT_.out HW_.out ch ?_ ?_
    ·exact fun w_ h_=>ld3 rfl rfl (zgm (bcell By) h_)
    refine ru 40 102 HT_.out ?_
    refine rc 39 101 57 HT_.out Try.func57 #[.agg #[.int .i64 e2, .slice Af2 f2.length Cf2, .slice Ab2 b2.length Cb2]] ?_
    with_reducible refine(impl_LetterBytes.calls k e2 _ _ f2 _ _ b2 yb _ sd sd sd sd A20.out).mono ?_
    rintro e w_ ⟨Vyb,rfl,h0,hb⟩
    obtain⟨Ayb,Cyb,rfl,Lyb,Ryb⟩:=rsl h0
    clear h0
    have E23:=Aside0.mk hb
    clear hb
    refine⟨_,rfl,ch,nrm ?_⟩
    refine rc 41 103 32 HT_.out Try.func32 #[.slice Ayb yb.length Cyb, .slice Ax x.length Cx] ?_
    with_reducible refine(impl_Same.calls _ _ yb _ _ x true _ sd sd sd sd A21.out).mono ?_
    rintro e w_ ⟨rfl,hb⟩
    have E24:=Aside0.mk (Drawn0.below hb)
    clear hb
    refine⟨_,rfl,ch,nrm ?_⟩
    refine ru 42 104 HT_.out ?_
    refine ru 43 105 HT_.out ?_
    refine ru 44 106 HT_.out ?_
    refine done_ (done_of HT_.out (by kernel_rfl)) ?_
    try go_wp2
    go_meet
    case rel=>exact⟨rfl,⟨ch⟩,⟨ch⟩⟩
   | false=>
    refine rn 38 100 HT_.out ?_
    refine rn 39 101 HT_.out ?_
    refine rn 40 102 HT_.out ?_
    refine rn 41 103 HT_.out ?_
    refine rn 42 104 HT_.out ?_
    refine ru 43 105 HT_.out ?_
    refine ru 44 106 HT_.out ?_
    refine done_ (done_of HT_.out (by kernel_rfl)) ?_
    try go_wp2
    go_meet
    case rel=>exact⟨rfl,⟨ch⟩,⟨ch⟩⟩
  case rest=>
   clear HY
   obtain⟨rfl,E32,E33⟩:=hcut
   have H:=HH.out
   clear HH
   cases g3 with
   | false=>
    replace H:=(if_neg (by decide:¬(false=true))).symm.trans H
    obtain rfl:=Option.some.inj H
    go_wp2_with (first | (refine kd 107 ?_;refine kl _ (ld3 (by with_reducible exact rfl) (by rfl) (bcell Bl)) ?_) | (refine kd 108 ?_;refine kc 65 108 Try.func65 #[.agg #[.int .i64 e1, .slice Af1 f1.length Cf1, .slice Ab1 b1.length Cb1]] ?_;with_reducible refine(impl_LetterOk.calls e1 _ _ f1 _ _ b1 false _ sd sd sd sd A22.out).mono ?_;rintro e w_ ⟨rfl,hb⟩;refine⟨_,rfl,?_⟩;have E25:=Aside0.mk hb;clear hb))
    go_ret
    exact⟨rfl,ch⟩
   | true=>
    replace H:=(if_pos rfl).symm.trans H
    obtain⟨⟨e5,f5,b5,o5⟩,A23,G⟩:=bnn H;clear H
    by_cases c40:40≤(b.length:Int)
    ·rw[if_pos c40] at G
     obtain⟨⟨e6,f6,b6,o6⟩,A24,H⟩:=bnn G;clear G
     obtain⟨rfl,G⟩:=ifT H;clear H
     obtain⟨_,A25,H⟩:=bnn G;clear G
     obtain⟨rfl,G⟩:=ifT H;clear H
     obtain⟨d3,H⟩:=ifF G;clear G
     cases o6 with
     | true=>exact absurd rfl d3
     | false=>
     clear d3
     obtain rfl:=Option.some.inj H
     clear H
     obtain⟨Act,Cct,hcut,Lct,Rct⟩:=cut_u8_to (P:=Try.prog) 23 5 Try.underlying23 info5 Ab Cb b 40 (by decide) c40 Lb.out
     rw[show(40:Int).toNat=40 from rfl] at hcut Lct Rct
     generalize b.take 40=b4 at A24 hcut Lct Rct
     replace Lct:=Aside0.mk Lct
     replace Rct:=Aside0.mk (Rct _ Rb.out)
     go_wp2_with (first | (refine kd 107 ?_;refine kl _ (ld3 (by with_reducible exact rfl) (by rfl) (bcell Bl)) ?_) | (refine kd 108 ?_;refine kc 65 108 Try.func65 #[.agg #[.int .i64 e1, .slice Af1 f1.length Cf1, .slice Ab1 b1.length Cb1]] ?_;with_reducible refine(impl_LetterOk.calls e1 _ _ f1 _ _ b1 true _ sd sd sd sd A22.out).mono ?_;rintro e w_ ⟨rfl,hb⟩;refine⟨_,rfl,?_⟩;have E26:=Aside0.mk hb;clear hb) | (refine kd 115 ?_;refine kc 59 115 Try.func59 #[.slice Ab b.length Cb] ?_;with_reducible refine(impl_LetterOf.calls j _ _ b e5 f5 b5 true _ sd sd A23.out).mono ?_;rintro e w_ ⟨Vf5,Vb5,rfl,h0,h1,hb⟩;refine⟨_,rfl,?_⟩;obtain⟨Af5,Cf5,rfl,Lf5,Rf5⟩:=rsl h0;clear h0;obtain⟨Ab5,Cb5,rfl,Lb5,Rb5⟩:=rsl h1;clear h1;have E27:=Aside0.mk hb;clear hb) | (refine kd 18 ?_;refine kb 18 55 [.int .i64 0, .slice none 0 0, .slice none 0 0] [.int .i64 e5, .slice Af5 f5.length Cf5, .slice Ab5 b5.length Cb5] (.agg #[.int .i64 e5, .slice Af5 f5.length Cf5, .slice Ab5 b5.length Cb5]) (fun gbk w_ Bbk E28=>?_)) | (refine kd 120 ?_;refine kl _ (v:= .slice Act b4.length Cct) (by exact hcut _) ?_) | (refine kd 121 ?_;refine kc 59 121 Try.func59 #[.slice Act b4.length Cct] ?_;with_reducible refine(impl_LetterOf.calls j _ _ b4 e6 f6 b6 false _ sd sd A24.out).mono ?_;rintro e w_ ⟨Vf6,Vb6,rfl,h0,h1,hb⟩;refine⟨_,rfl,?_⟩;obtain⟨Af6,Cf6,rfl,Lf6,Rf6⟩:=rsl h0;clear h0;obtain⟨Ab6,Cb6,rfl,Lb6,Rb6⟩:=rsl h1;clear h1;have E29:=Aside0.mk hb;clear hb) | (refine kd 20 ?_;refine kb 20 55 [.int .i64 0, .slice none 0 0, .slice none 0 0] [.int .i64 e6, .slice Af6 f6.length Cf6, .slice Ab6 b6.length Cb6] (.agg #[.int .i64 e6, .slice Af6 f6.length Cf6, .slice Ab6 b6.length Cb6]) (fun gct w_ Bct E30=>?_)) | (refine kg 126 ?_;dsimp only;refine kl _ (ld3 (by with_reducible exact rfl) (by rfl) (bcell Bbk)) ?_) | (refine kg 127 ?_;dsimp only;refine kl _ (ld3 (by with_reducible exact rfl) (by rfl) (bcell Bl)) ?_) | (refine kg 128 ?_;dsimp only;refine kc 64 128 Try.func64 #[.agg #[.int .i64 e5, .slice Af5 f5.length Cf5, .slice Ab5 b5.length Cb5], .agg #[.int .i64 e1, .slice Af1 f1.length Cf1, .slice Ab1 b1.length Cb1]] ?_;with_reducible refine(laws_sameLetter.calls e5 _ _ f5 _ _ b5 e1 _ _ f1 _ _ b1 true _ sd sd sd sd sd sd sd sd A25.out).mono ?_;rintro e w_ ⟨rfl,hb⟩;refine⟨_,rfl,?_⟩;have E31:=Aside0.mk hb;clear hb) | (refine kg 138 ?_;dsimp only;refine kl _ (ld1 (by with_reducible exact rfl) (by rfl) ((zbd (bcell Bl) 2).trans rfl)) ?_))
     go_ret
     exact⟨by first | rfl | (simp;done) | (simp <;> rfl),ch⟩
    rw[if_neg c40] at G
    cases G

def laws_FnLetters.Pure:Prop:=∀ (l0:List Int),l0.length≤maxLen→l0.length*1≤140737488351232→(∀ x∈l0,(Lit.int .u8 x).wf=true)→∃ k,laws_FnLetters.f k l0=some true
theorem laws_FnLetters.walk (P:laws_FnLetters.Pure) (a0:Option Addr) (len0 cap0:Nat) (z0:List Int) (w:World) (w0:(a0=none∧len0=0∧cap0=0∧z0=[])∨∃ x,a0=some x∧len0≤cap0∧cap0≤maxLen∧z0.length=cap0∧(∀ i,i<z0.length→w.cell? (x.add i)=some (.int .u8 (z0.getD i 0)))∧∀ n∈z0,(Lit.int .u8 n).wf=true) (y0:len0*1≤140737488351232):
  Calls Try.prog 14 #[.slice a0 len0 cap0] w fun e w'=>e= .returned (.bool true)∧Below w.heap.size w w':=by
 obtain⟨l0,rfl,hr0,hm0,hw0,hc0⟩:=ReadsInt.ofRowC w0
 obtain⟨k,h⟩:=P l0 hm0 y0 hw0
 refine(laws_FnLetters.calls k _ _ l0 true w (Kd.C_of_reads (d:=(0:Int)) (h1:=fun _=>rfl) hr0) hc0 h).mono ?_
 rintro e w' ⟨rfl,hd⟩
 exact⟨rfl,hd⟩
end Go.Proofs.Ytienlgcjohpphaa.P
/- FnLetters: of every run of bytes the law answers true. -/
namespace Go.Proofs.Ytienlgcjohpphaa.Pure
open Go.RowKit Go.Proofs.Ytienlgcjohpphaa.P Go.Proofs.Ytienlgcjohpphaa.B Go.Proofs.YtienlgcjohpphaaW.PrintWords Go.Proofs.YtienlgcjohpphaaW.PrintLast Go.Proofs.YtienlgcjohpphaaW.PrintMore
theorem sameLetter (e:Int) (f b:List Int):laws_sameLetter.f e f b e f b=some true:=by
  unfold laws_sameLetter.f
  rw[if_pos rfl,if_pos rfl,beq_self_eq_true]
theorem lettersJ (e:Int) (f b:List Int) (hf:byt f) (hb:byt b) (_lf:f.length≤10001) (lb:b.length≤10001) (k:Nat) (hk:60<k):laws_FnLetters.j0 k (letterBytesL e f b) false e f b=some true:=by
  obtain⟨k,rfl⟩:∃ m,k=m+1:=⟨k - 1,by omega⟩
  simp only[laws_FnLetters.j0]
  rw[if_neg (by decide),implLetterOk,Option.bind_some]
  have hB:=letterBytes_byt e f b hf hb
  have hL:=letterBytesL_length e f b
  by_cases c:letterOk e f b=true
  · have hn:=letter_len e f b c
    obtain⟨_,_,_,_,h16,_⟩:=letterBytes_form e f b c
    have hB2:byt ((letterBytesL e f b).take 40):=fun x hx=>hB x (List.mem_of_mem_take hx)
    have hc:=letter_cut (letterBytesL e f b)
    rw[if_pos c,implLetterOf _ hB (by omega) k (by omega),Option.bind_some,letter_back e f b c,if_pos (by omega),implLetterOf _ hB2 (by rw[List.length_take];omega) k (by omega),Option.bind_some,if_pos rfl,sameLetter,Option.bind_some,if_pos rfl,if_neg (by rw[hc];decide),hn,wrap_eq _ (by omega) (by omega)]
    rw[show(((35+b.length:Nat):Int))=35+(b.length:Int) from by omega,beq_self_eq_true]
  · rw[if_neg c]
    unfold letterBytesL
    rw[if_neg c]
    rfl
theorem FnLetters:laws_FnLetters.Pure:=by
  intro l _ _ _
  refine⟨l.length+300000,?_⟩
  unfold laws_FnLetters.f laws_big.f
  by_cases hbig:(l.length:Int)>1048576
  · rw[decide_eq_true hbig,Option.bind_some,if_pos rfl]
  rw[decide_eq_false hbig,Option.bind_some,if_neg (by decide)]
  have hl:l.length≤1099511627776:=by omega
  obtain⟨e,f,b,d1,hf,hb,lf,lb⟩:=drawLetterBytes l hl (l.length+300000) (by omega)
  obtain⟨x,d2,hx,lx⟩:=drawLetterOf l hl (l.length+300000) (by omega)
  obtain⟨p,q,r,d3,hp,hq,hr,lk⟩:=drawKeysOf l hl (l.length+300000) (by omega)
  obtain⟨e2,f2,b2,d4⟩:=drawLetterOk l hl (l.length+300000) (by omega)
  have i1:=implLetterBytes e f b (by omega) (by omega) (l.length+300000) (by omega)
  have s1:=specLetterBytes e f b (by omega) (by omega) (l.length+300000) (by omega)
  have i2:=implLetterOf x hx (by omega) (l.length+300000) (by omega)
  have s2:=specLetterOf x hx
  have i3:=implKeys p q r (by omega) (l.length+300000) (by omega)
  have s3:=specKeys p q r hp hq hr (by omega) (l.length+300000) (by omega)
  have hj:=lettersJ e f b hf hb lf lb (l.length+300000) (by omega)
  have hl2:=letterL_lengths x
  have i4:=implLetterBytes (letterL x).1 (letterL x).2.1 (letterL x).2.2.1 (by omega) (by omega) (l.length+300000) (by omega)
  have n1:¬((letterL x).2.2.2 != (letterL x).2.2.2)=true:=by simp
  have n2:¬(letterOk e2 f2 b2 != letterOk e2 f2 b2)=true:=by simp
  simp only[d1,Option.bind_some,i1,d2,i2,s2,d3,i3,s3,d4,s1,implSame,sameL_same,if_true]
  rw[if_neg n1,sameLetter,Option.bind_some,if_pos rfl,implLetterOk,Option.bind_some,specLetterOk,Option.bind_some,if_neg n2]
  by_cases c:(letterL x).2.2.2=true
  · rw[if_pos c,i4,Option.bind_some,letter_again x hx c,sameL_same,Bool.not_true]
    exact hj
  · rw[if_neg c]
    exact hj
end Go.Proofs.Ytienlgcjohpphaa.Pure
