import Derived.Test.Ytlalkldjpniakaabk40
namespace Go.Proofs.Ytlalkldjpniakaa.P
open Go.RowKit Go.Proofs.YtlalkldjpniakaaW.PrintWords Go.Proofs.YtlalkldjpniakaaW.PrintLast Go.Proofs.YtlalkldjpniakaaW.PrintMore
attribute [local go_sem] zck zcl zdl zdm zbz zca zcm zcn -- for this text's walks alone
set_option linter.unusedVariables false
set_option linter.unusedSimpArgs false

theorem laws_FnBooks.ld {o:Oper} {a:Act} {W:World} {p:Operand} {g:Nat} {b0 b1 b2 b3 b4:Value} (ho:o.op= .load 48 p) (hp:a.eval p= .pointer (some ⟨g,0,none⟩)) (hb:W.heap[g]? =some (.cells #[b0,b1,b2,b3,b4] 48 (0,0))):(execOp a.eval o).run Try.prog W= .ok (.value (.agg #[b0,b1,b2,b3,b4])) W:=by
 have hu:=Try.underlying48
 have c0:W.cell? ⟨g,0,none⟩=some b0:=(zbi hb 0).trans rfl
 have c1:W.cell? ⟨g,1,none⟩=some b1:=(zbi hb 1).trans rfl
 have c2:W.cell? ⟨g,2,none⟩=some b2:=(zbi hb 2).trans rfl
 have c3:W.cell? ⟨g,3,none⟩=some b3:=(zbi hb 3).trans rfl
 have c4:W.cell? ⟨g,4,none⟩=some b4:=(zbi hb 4).trans rfl
 unfold execOp
 simp only[ho,hp]
 go_simp
def laws_FnBooks.f (k:Nat) (l0:List Int):Option Bool:=(laws_big.f l0).bind fun t=>if t=true then some true else(spec_DrawLineBytes.f k l0).bind fun l=>(impl_LineBytes.f k l.1 l.2.1 l.2.2.1 l.2.2.2.1 l.2.2.2.2).bind fun b=>(spec_DrawLineOf.f k l0).bind fun r=>(impl_LineOf.f k r.1 r.2).bind fun x=>(spec_LineOf.f k r.1 r.2).bind fun y=>(spec_DrawPlay.f k l0).bind fun B=>(impl_Play.f k B).bind fun q=>(spec_Play.f k B).bind fun p=>(spec_DrawLineOk.f k l0).bind fun o=>(spec_LineBytes.f k l.1 l.2.1 l.2.2.1 l.2.2.2.1 l.2.2.2.2).bind fun sb=>(impl_Same.f b sb).bind fun e1=>if e1=true∧x.2.2.2.2.2.1=y.2.2.2.2.2.1∧x.2.2.2.2.2.2=y.2.2.2.2.2.2 then(laws_sameLine.f x.1 x.2.1 x.2.2.1 x.2.2.2.1 x.2.2.2.2.1 y.1 y.2.1 y.2.2.1 y.2.2.2.1 y.2.2.2.2.1).bind fun e2=>if e2=true then(laws_sameItems.f k q.1 p.1).bind fun e3=>if e3=true∧q.2.1=p.2.1∧q.2.2=p.2.2 then(impl_LineOk.f k o.1 o.2.1 o.2.2.1 o.2.2.2.1 o.2.2.2.2).bind fun g1=>(spec_LineOk.f k o.1 o.2.1 o.2.2.1 o.2.2.2.1 o.2.2.2.2).bind fun g2=>if g1=g2∧0≤q.2.2∧q.2.2≤(B.length:Int) then(impl_Play.f k (B.take q.2.2.toNat)).bind fun a=>if q.2.1=a.2.1∧q.2.2=a.2.2 then(laws_sameItems.f k a.1 q.1).bind fun e4=>if e4=true then(impl_QueueOk.f k q.1).bind fun e5=>if e5=true then(impl_LineOk.f k l.1 l.2.1 l.2.2.1 l.2.2.2.1 l.2.2.2.2).bind fun lo=>if lo=true then(if 1≤b.length∧b.length≤1000000000 then(impl_LineOf.f k b 0).bind fun v=>(impl_LineOf.f k (b.take (b.length - 1)) 0).bind fun u=>if v.2.2.2.2.2.1=(b.length:Int)∧v.2.2.2.2.2.2=true∧u.2.2.2.2.2.2=false then(laws_sameLine.f v.1 v.2.1 v.2.2.1 v.2.2.2.1 v.2.2.2.2.1 l.1 l.2.1 l.2.2.1 l.2.2.2.1 l.2.2.2.2).bind fun e6=>if e6=true then some true else none else none else none) else(if b.length=0 then some true else none) else none else none else none else none else none else none else none
theorem laws_FnBooks.mono:∀ a0 k,LeO (laws_FnBooks.f k a0) (laws_FnBooks.f (k+1) a0):=by
 intro a0 k
 unfold laws_FnBooks.f
 repeat' first
   | (with_reducible exact spec_DrawLineBytes.mono _ _)
   | (with_reducible exact impl_LineBytes.mono _ _ _ _ _ _)
   | (with_reducible exact spec_DrawLineOf.mono _ _)
   | (with_reducible exact impl_LineOf.mono _ _ _)
   | (with_reducible exact spec_LineOf.mono _ _ _)
   | (with_reducible exact spec_DrawPlay.mono _ _)
   | (with_reducible exact impl_Play.mono _ _)
   | (with_reducible exact spec_Play.mono _ _)
   | (with_reducible exact spec_DrawLineOk.mono _ _)
   | (with_reducible exact spec_LineBytes.mono _ _ _ _ _ _)
   | (with_reducible exact laws_sameItems.mono _ _ _)
   | (with_reducible exact impl_LineOk.mono _ _ _ _ _ _)
   | (with_reducible exact spec_LineOk.mono _ _ _ _ _ _)
   | (with_reducible exact impl_QueueOk.mono _ _)
   | (with_reducible exact LeO.refl _)
   | (with_reducible exact LeO.none _)
   | (with_reducible refine LeO.ite ?_ ?_)
   | (with_reducible refine LeO.bind ?_ (fun _=>?_))
def laws_FnBooks.T12:Bool×List (List Nat×List Nat):=(true,[([],[]),([],[]),([1],[1]),([0,2,2],[0,2]),([3],[3]),([4,3],[4]),([5],[5]),([5],[5]),([6,7,5],[5,6,7]),([5,8],[5,8]),([9,5],[9]),([10],[10]),([10],[10]),([11,12,10],[10,11,12]),([10,13],[10,13]),([14,10],[14]),([15],[15]),([15],[15]),([16,17,15,15],[15,16,17]),([18,15],[15,18]),([15,19],[15,19]),([20,18],[20]),([21],[21]),([21],[21]),([22,23,21,21],[21,22,23]),([24,21],[21,24]),([21,25],[21,25]),([26,24],[26]),([27],[27]),([27],[27]),([28,29,27],[27,28,29]),([27,30],[27,30]),([31,27],[31]),([32],[32]),([32],[32]),([33,34,32],[32,33,34]),([32,35],[32,35]),([36,32],[36]),([37],[37]),([38,37,37],[37,38]),([37],[37]),([40,39,37],[37,40]),([39,41,37],[37,39,41]),([37,42],[37,42])])
def laws_FnBooks.B12:List Nat:=[0,0,2,7,15,31,63,63,255,511,1023,2047,2047,8191,16383,32767,65535,65535,262143,524287,1048575,2097151,4194303,4194303,16777215,33554431,67108863,134217727,268435455,268435455,1073741823,2147483647,4294967295,8589934591,8589934591,34359738367,68719476735,137438953471,274877906943,549755813887,274877906943,2199023255551,4398046511103,8796093022207]
theorem laws_FnBooks.tab12:rtab .any (opsOf Try.f15 12)=laws_FnBooks.T12:=by kernel_rfl
theorem laws_FnBooks.bits12:waitsOk laws_FnBooks.T12.2 laws_FnBooks.B12=true:=by kernel_rfl
set_option maxHeartbeats 8000000 in
set_option maxRecDepth 100000 in
theorem laws_FnBooks.calls (k:Nat) (A0:Option Addr) (c0:Nat) (l0:List Int) (r_:Bool) (w:World) (hr0:Kd.C (Kd.int .u8) w A0 l0.length l0) (hc0:l0.length≤c0) (h:laws_FnBooks.f k l0=some r_):
  Calls Try.prog 15 #[.slice A0 l0.length c0] w fun e w'=>e= .returned (.bool r_)∧Below w.heap.size w w':=by
 have hu48:=Try.underlying48
 have LA0:=Aside0.mk hc0
 have RA0:=Aside0.mk hr0
 clear hr0 hc0
 unfold laws_FnBooks.f at h
 obtain⟨t,A2,H⟩:=bnn h;clear h
 cases t with
 | true=>
  obtain rfl:=Option.some.inj H
  go_enter Try.func15,Try.ntmps15
  go_wp2_with (first | ((with_reducible refine kd 31 ?_);refine kc 58 31 Try.func58 #[.slice A0 l0.length c0] ?_;with_reducible refine(laws_big.calls _ _ l0 true _ sd sd A2.out).mono ?_;rintro e w_ ⟨rfl,hb⟩;refine⟨_,rfl,?_⟩;have E1:=Aside0.mk (Drawn0.below hb);clear hb))
  go_ret
  exact⟨rfl,ch⟩
 | false=>
 replace H:=(if_neg (by decide:¬(false=true))).symm.trans H
 obtain⟨⟨l1,l2,l3,l4,l5⟩,F1,G⟩:=bnn H;clear H
 obtain⟨b,F2,H⟩:=bnn G;clear G
 obtain⟨⟨r,rk⟩,F3,G⟩:=bnn H;clear H
 obtain⟨⟨x1,x2,x3,x4,x5,nx,xo⟩,F4,H⟩:=bnn G;clear G
 obtain⟨⟨y1,y2,y3,y4,y5,ny,yo⟩,F5,G⟩:=bnn H;clear H
 obtain⟨B,F6,H⟩:=bnn G;clear G
 obtain⟨⟨q,now,used⟩,F7,G⟩:=bnn H;clear H
 obtain⟨⟨p,now2,used2⟩,F8,H⟩:=bnn G;clear G
 obtain⟨⟨o1,o2,o3,o4,o5⟩,F9,G⟩:=bnn H;clear H
 obtain⟨sb,F10,H⟩:=bnn G;clear G
 obtain⟨_,F11,G⟩:=bnn H;clear H
 obtain⟨⟨rfl,e_,e2_⟩,H⟩:=ifT G;clear G
 obtain⟨_,F12,G⟩:=bnn H;clear H
 obtain⟨rfl,H⟩:=ifT G;clear G
 obtain⟨_,F13,G⟩:=bnn H;clear H
 obtain⟨⟨rfl,e3_,e4_⟩,H⟩:=ifT G;clear G
 obtain⟨g1,F14,G⟩:=bnn H;clear H
 obtain⟨g2,F15,H⟩:=bnn G;clear G
 obtain⟨⟨e5_,u0,u1⟩,G⟩:=ifT H;clear H
 obtain⟨⟨a,now3,used3⟩,F16,H⟩:=bnn G;clear G
 obtain⟨⟨e6_,e7_⟩,G⟩:=ifT H;clear H
 obtain⟨_,F17,H⟩:=bnn G;clear G
 obtain⟨rfl,G⟩:=ifT H;clear H
 obtain⟨_,F18,H⟩:=bnn G;clear G
 obtain⟨rfl,G⟩:=ifT H;clear H
 obtain⟨lo,F19,H⟩:=bnn G;clear G
 dsimp only at e_ e2_ e3_ e4_ e5_ e6_ e7_ u0 u1 F2 F4 F5 F7 F8 F10 F12 F13 F14 F15 F16 F17 F18 F19 H
 subst e_ e2_ e3_ e4_ e5_ e6_ e7_
 have HH:=Aside0.mk H
 clear H
 have UU:=Aside0.mk (zfy u0 u1)
 clear u0 u1
 go_enter Try.func15,Try.ntmps15
 go_upto_region 12 with (first | ((with_reducible refine kd 31 ?_);refine kc 58 31 Try.func58 #[.slice A0 l0.length c0] ?_;with_reducible refine(laws_big.calls _ _ l0 false _ sd sd A2.out).mono ?_;rintro e w_ ⟨rfl,hb⟩;refine⟨_,rfl,?_⟩;have E1:=Aside0.mk (Drawn0.below hb);clear hb) | ((with_reducible refine kd 33 ?_);refine kc 71 33 Try.func71 #[.slice A0 l0.length c0] ?_;with_reducible refine(spec_DrawLineBytes.calls k _ _ l0 l1 l2 l3 l4 l5 _ sd sd F1.out).mono ?_;rintro e w_ ⟨Vl,rfl,h0,hb⟩;refine⟨_,rfl,?_⟩;obtain⟨Al,Cl,rfl,Ll,Rl⟩:=rsl h0;clear h0;have E2:=Aside0.mk hb;clear hb) | ((with_reducible refine kd 3 ?_);refine kb 3 48 [.int .i64 0, .string (⟨#[]⟩:ByteArray), .int .i64 0, .int .i64 0, .slice none 0 0] [.int .i64 l1, .string l2, .int .i64 l3, .int .i64 l4, .slice Al l5.length Cl] (.agg #[.int .i64 l1, .string l2, .int .i64 l3, .int .i64 l4, .slice Al l5.length Cl]) (fun gl w_ Bl E3=>?_)) | ((with_reducible refine kd 34 ?_);refine kl _ (laws_FnBooks.ld (by with_reducible exact rfl) (by rfl) (bcell Bl)) ?_) | ((with_reducible refine kd 35 ?_);refine kc 49 35 Try.func49 #[.agg #[.int .i64 l1, .string l2, .int .i64 l3, .int .i64 l4, .slice Al l5.length Cl]] ?_;with_reducible refine(impl_LineBytes.calls k l1 l2 l3 l4 (fun _=>True) _ _ l5 b _ (vmk sd sd) F2.out).mono ?_;rintro e w_ ⟨Vb,rfl,h0,hb⟩;refine⟨_,rfl,?_⟩;obtain⟨Ab,Cb,rfl,Lb,Rb⟩:=rsl h0;clear h0;have E4:=Aside0.mk hb;clear hb) | ((with_reducible refine kd 38 ?_);refine kc 72 38 Try.func72 #[.slice A0 l0.length c0] ?_;with_reducible refine(spec_DrawLineOf.calls k _ _ l0 r rk _ sd sd F3.out).mono ?_;rintro e w_ ⟨Vr,rfl,h0,hb⟩;refine⟨_,rfl,?_⟩;obtain⟨Ar,Cr,rfl,Lr,Rr⟩:=vsl h0;clear h0;have E5:=Aside0.mk hb;clear hb) | ((with_reducible refine kd 44 ?_);refine kc 56 44 Try.func56 #[.slice Ar r.length Cr, .int .i64 rk] ?_;with_reducible refine(impl_LineOf.calls k _ _ r rk x1 x2 x3 x4 x5 nx xo _ sd sd F4.out).mono ?_;rintro e w_ ⟨Vx,rfl,h0,hb⟩;refine⟨_,rfl,?_⟩;obtain⟨Ax,Cx,rfl,Lx,Rx⟩:=rsl h0;clear h0;have E6:=Aside0.mk hb;clear hb) | ((with_reducible refine kd 7 ?_);refine kb 7 48 [.int .i64 0, .string (⟨#[]⟩:ByteArray), .int .i64 0, .int .i64 0, .slice none 0 0] [.int .i64 x1, .string x2, .int .i64 x3, .int .i64 x4, .slice Ax x5.length Cx] (.agg #[.int .i64 x1, .string x2, .int .i64 x3, .int .i64 x4, .slice Ax x5.length Cx]) (fun gx w_ Bx E7=>?_)) | ((with_reducible refine kd 51 ?_);refine kc 54 51 Try.func54 #[.slice Ar r.length Cr, .int .i64 rk] ?_;with_reducible refine(spec_LineOf.calls k _ _ r rk y1 y2 y3 y4 y5 nx xo _ sd sd F5.out).mono ?_;rintro e w_ ⟨Vy,rfl,h0,hb⟩;refine⟨_,rfl,?_⟩;obtain⟨Ay,Cy,rfl,Ly,Ry⟩:=rsl h0;clear h0;have E8:=Aside0.mk hb;clear hb) | ((with_reducible refine kd 10 ?_);refine kb 10 48 [.int .i64 0, .string (⟨#[]⟩:ByteArray), .int .i64 0, .int .i64 0, .slice none 0 0] [.int .i64 y1, .string y2, .int .i64 y3, .int .i64 y4, .slice Ay y5.length Cy] (.agg #[.int .i64 y1, .string y2, .int .i64 y3, .int .i64 y4, .slice Ay y5.length Cy]) (fun gy w_ By E9=>?_)) | ((with_reducible refine kd 56 ?_);refine kc 73 56 Try.func73 #[.slice A0 l0.length c0] ?_;with_reducible refine(spec_DrawPlay.calls k _ _ l0 B _ sd sd F6.out).mono ?_;rintro e w_ ⟨VB,rfl,h0,hb⟩;refine⟨_,rfl,?_⟩;obtain⟨AB,CB,rfl,LB,RB⟩:=vsl h0;clear h0;have E10:=Aside0.mk hb;clear hb) | ((with_reducible refine kd 59 ?_);refine kc 70 59 Try.func70 #[.slice AB B.length CB] ?_;with_reducible refine(impl_Play.calls k _ _ B q now used _ sd sd F7.out).mono ?_;rintro e w_ ⟨Vq,rfl,h0,hb⟩;refine⟨_,rfl,?_⟩;obtain⟨Aq,Cq,rfl,Lq,Rq⟩:=ssl h0;clear h0;have E11:=Aside0.mk hb;clear hb) | ((with_reducible refine kd 65 ?_);refine kc 69 65 Try.func69 #[.slice AB B.length CB] ?_;with_reducible refine(spec_Play.calls k _ _ B p now used _ sd sd F8.out).mono ?_;rintro e w_ ⟨Vp,rfl,h0,hb⟩;refine⟨_,rfl,?_⟩;obtain⟨Ap,Cp,rfl,Lp,Rp⟩:=vsl h0;clear h0;have E12:=Aside0.mk hb;clear hb) | ((with_reducible refine kd 70 ?_);refine kc 74 70 Try.func74 #[.slice A0 l0.length c0] ?_;with_reducible refine(spec_DrawLineOk.calls k _ _ l0 o1 o2 o3 o4 o5 _ sd sd F9.out).mono ?_;rintro e w_ ⟨Vo,rfl,h0,hb⟩;refine⟨_,rfl,?_⟩;obtain⟨Ao,Co,rfl,Lo,Ro⟩:=rsl h0;clear h0;have E13:=Aside0.mk hb;clear hb) | ((with_reducible refine kd 20 ?_);refine kb 20 48 [.int .i64 0, .string (⟨#[]⟩:ByteArray), .int .i64 0, .int .i64 0, .slice none 0 0] [.int .i64 o1, .string o2, .int .i64 o3, .int .i64 o4, .slice Ao o5.length Co] (.agg #[.int .i64 o1, .string o2, .int .i64 o3, .int .i64 o4, .slice Ao o5.length Co]) (fun go w_ Bo E14=>?_)))
 (try simp only[Act.put,zaq,zbj,zbk])
 go_cut [114] (fun v114 wc=>v114= .bool false∧Aside0 (Below w.heap.size w wc)∧Aside0 (Below w_.heap.size w_ wc))
 case first=>
  as_aux_lemma=>
  have HT_:=Aside0.mk laws_FnBooks.tab12
  have HW_:=Aside0.mk laws_FnBooks.bits12
  refine rst 44 (by kernel_rfl) (fun w_ E15=>?_)
  refine ru 0 71 HT_.out ?_
  refine tl 1 72 (.agg #[.int .i64 l1, .string l2, .int .i64 l3, .int .i64 l4, .slice Al l5.length Cl]) HT_.out HW_.out ch ?_ ?_
  ·exact fun w_ h_=>laws_FnBooks.ld rfl rfl (blk_below (bcell Bl) h_)
  refine rc 2 73 48 HT_.out Try.func48 #[.agg #[.int .i64 l1, .string l2, .int .i64 l3, .int .i64 l4, .slice Al l5.length Cl]] ?_
  with_reducible refine(spec_LineBytes.calls k l1 l2 l3 l4 _ _ l5 sb _ sd sd F10.out).mono ?_
  rintro e w_ ⟨Vsb,rfl,h0,hb⟩
  obtain⟨Asb,Csb,rfl,Lsb,Rsb⟩:=rsl h0
  clear h0
  have E16:=Aside0.mk hb
  clear hb
  refine⟨_,rfl,ch,nrm ?_⟩
  refine rc 3 74 75 HT_.out Try.func75 #[.slice Ab b.length Cb, .slice Asb sb.length Csb] ?_
  with_reducible refine(impl_Same.calls _ _ b _ _ sb true _ sd sd sd sd F11.out).mono ?_
  rintro e w_ ⟨rfl,hb⟩
  have E17:=Aside0.mk (Drawn0.below hb)
  clear hb
  refine⟨_,rfl,ch,nrm ?_⟩
  refine ru 4 75 HT_.out ?_
  refine ru 5 76 HT_.out ?_
  refine ru 6 77 HT_.out ?_
  refine ru 7 78 HT_.out ?_
  refine ru 8 79 HT_.out ?_
  refine ru 9 80 HT_.out ?_
  refine ru 10 81 HT_.out ?_
  refine ru 11 82 HT_.out ?_
  refine ru 12 83 HT_.out ?_
  refine ru 13 84 HT_.out ?_
  refine ru 14 85 HT_.out ?_
  refine ru 15 86 HT_.out ?_
  refine tl 16 87 (.agg #[.int .i64 x1, .string x2, .int .i64 x3, .int .i64 x4, .slice Ax x5.length Cx]) HT_.out HW_.out ch ?_ ?_
  ·exact fun w_ h_=>laws_FnBooks.ld rfl rfl (blk_below (bcell Bx) h_)
  refine tl 17 88 (.agg #[.int .i64 y1, .string y2, .int .i64 y3, .int .i64 y4, .slice Ay y5.length Cy]) HT_.out HW_.out ch ?_ ?_
  ·exact fun w_ h_=>laws_FnBooks.ld rfl rfl (blk_below (bcell By) h_)
  refine rc 18 89 76 HT_.out Try.func76 #[.agg #[.int .i64 x1, .string x2, .int .i64 x3, .int .i64 x4, .slice Ax x5.length Cx], .agg #[.int .i64 y1, .string y2, .int .i64 y3, .int .i64 y4, .slice Ay y5.length Cy]] ?_
  with_reducible refine(laws_sameLine.calls x1 x2 x3 x4 _ _ x5 y1 y2 y3 y4 _ _ y5 true _ sd sd sd sd F12.out).mono ?_
  rintro e w_ ⟨rfl,hb⟩
  have E18:=Aside0.mk hb
  clear hb
  refine⟨_,rfl,ch,nrm ?_⟩
  refine ru 19 90 HT_.out ?_
  refine ru 20 91 HT_.out ?_
  refine ru 21 92 HT_.out ?_
  refine ru 22 93 HT_.out ?_
  refine ru 23 94 HT_.out ?_
  refine rc 24 95 67 HT_.out Try.func67 #[.slice Aq q.length Cq, .slice Ap p.length Cp] ?_
  with_reducible refine(laws_sameItems.calls k _ _ q _ _ p true _ sd sd sd sd F13.out).mono ?_
  rintro e w_ ⟨rfl,hb⟩
  have E19:=Aside0.mk hb
  clear hb
  refine⟨_,rfl,ch,nrm ?_⟩
  refine ru 25 96 HT_.out ?_
  refine ru 26 97 HT_.out ?_
  refine ru 27 98 HT_.out ?_
  refine ru 28 99 HT_.out ?_
  refine ru 29 100 HT_.out ?_
  refine ru 30 101 HT_.out ?_
  refine ru 31 102 HT_.out ?_
  refine ru 32 103 HT_.out ?_
  refine ru 33 104 HT_.out ?_
  refine ru 34 105 HT_.out ?_
  refine ru 35 106 HT_.out ?_
  refine ru 36 107 HT_.out ?_
  refine ru 37 108 HT_.out ?_
  refine tl 38 109 (.agg #[.int .i64 o1, .string o2, .int .i64 o3, .int .i64 o4, .slice Ao o5.length Co]) HT_.out HW_.out ch ?_ ?_
  ·exact fun w_ h_=>laws_FnBooks.ld rfl rfl (blk_below (bcell Bo) h_)
  refine tl 40 111 (.agg #[.int .i64 o1, .string o2, .int .i64 o3, .int .i64 o4, .slice Ao o5.length Co]) HT_.out HW_.out ch ?_ ?_
  ·exact fun w_ h_=>laws_FnBooks.ld rfl rfl (blk_below (bcell Bo) h_)
  refine rc 39 110 36 HT_.out Try.func36 #[.agg #[.int .i64 o1, .string o2, .int .i64 o3, .int .i64 o4, .slice Ao o5.length Co]] ?_
  with_reducible refine(impl_LineOk.calls k o1 o2 o3 o4 _ _ o5 g1 _ sd sd F14.out).mono ?_
  rintro e w_ ⟨rfl,hb⟩
  have E20:=Aside0.mk hb
  clear hb
  refine⟨_,rfl,ch,nrm ?_⟩
  refine rc 41 112 34 HT_.out Try.func34 #[.agg #[.int .i64 o1, .string o2, .int .i64 o3, .int .i64 o4, .slice Ao o5.length Co]] ?_
  with_reducible refine(spec_LineOk.calls k o1 o2 o3 o4 _ _ o5 g1 _ sd sd F15.out).mono ?_
  rintro e w_ ⟨rfl,hb⟩
  have E21:=Aside0.mk hb
  clear hb
  refine⟨_,rfl,ch,nrm ?_⟩
  refine ru 42 113 HT_.out ?_
  refine ru 43 114 HT_.out ?_
  refine done_ (done_of HT_.out (by kernel_rfl)) ?_
  try go_wp2
  go_meet
  case rel=>exact⟨rfl,⟨ch⟩,⟨ch⟩⟩
 case rest=>
 obtain⟨rfl,E22,E23⟩:=hcut
 obtain⟨u0,u1⟩:=UU.out
 clear UU
 obtain⟨AB2,CB2,hcut,LB2,RB2⟩:=cut_u8_to (P:=Try.prog) 29 5 Try.underlying29 info5 AB CB B used u0 u1 LB.out
 generalize B.take used.toNat=B2 at F16 hcut LB2 RB2
 replace LB2:=Aside0.mk LB2
 replace RB2:=Aside0.mk (RB2 _ RB.out)
 clear u0 u1
 have H:=HH.out
 clear HH
 cases lo with
 | false=>
  replace H:=(if_neg (by decide:¬(false=true))).symm.trans H
  obtain⟨b0,G⟩:=ifT H;clear H
  obtain rfl:=Option.some.inj G
  go_wp2_with (first | ((with_reducible refine kd 118 ?_);refine kl _ (v:= .slice AB2 B2.length CB2) (by exact hcut _) ?_) | ((with_reducible refine kd 119 ?_);refine kc 70 119 Try.func70 #[.slice AB2 B2.length CB2] ?_;with_reducible refine(impl_Play.calls k _ _ B2 a now used _ sd sd F16.out).mono ?_;rintro e w_ ⟨Va,rfl,h0,hb⟩;refine⟨_,rfl,?_⟩;obtain⟨Aa,Ca,rfl,La,Ra⟩:=ssl h0;clear h0;have E24:=Aside0.mk hb;clear hb) | ((with_reducible refine kd 134 ?_);refine kg 134 ?_;dsimp only;refine kc 67 134 Try.func67 #[.slice Aa a.length Ca, .slice Aq q.length Cq] ?_;with_reducible refine(laws_sameItems.calls k _ _ a _ _ q true _ sd sd sd sd F17.out).mono ?_;rintro e w_ ⟨rfl,hb⟩;refine⟨_,rfl,?_⟩;have E25:=Aside0.mk hb;clear hb) | ((with_reducible refine kd 139 ?_);refine kg 139 ?_;dsimp only;refine kc 43 139 Try.func43 #[.slice Aq q.length Cq] ?_;with_reducible refine(impl_QueueOk.calls k _ _ q true _ sd sd F18.out).mono ?_;rintro e w_ ⟨rfl,hb⟩;refine⟨_,rfl,?_⟩;have E26:=Aside0.mk hb;clear hb) | ((with_reducible refine kd 142 ?_);refine kl _ (laws_FnBooks.ld (by with_reducible exact rfl) (by rfl) (bcell Bl)) ?_) | ((with_reducible refine kd 143 ?_);refine kc 36 143 Try.func36 #[.agg #[.int .i64 l1, .string l2, .int .i64 l3, .int .i64 l4, .slice Al l5.length Cl]] ?_;with_reducible refine(impl_LineOk.calls k l1 l2 l3 l4 _ _ l5 false _ sd sd F19.out).mono ?_;rintro e w_ ⟨rfl,hb⟩;refine⟨_,rfl,?_⟩;have E27:=Aside0.mk hb;clear hb))
  go_ret
  exact⟨by first | rfl | (simp;done) | (simp [*];done),ch⟩
 | true=>
 replace H:=(if_pos rfl).symm.trans H
 obtain⟨⟨b0,b1⟩,G⟩:=ifT H;clear H
 obtain⟨⟨v1,v2,v3,v4,v5,nv,vo⟩,F20,H⟩:=bnn G;clear G
 obtain⟨⟨u1,u2,u3,u4,u5,nu,uo⟩,F21,G⟩:=bnn H;clear H
 obtain⟨⟨ev,ev2,ev3⟩,H⟩:=ifT G;clear G
 obtain⟨_,F22,G⟩:=bnn H;clear H
 obtain⟨rfl,H⟩:=ifT G;clear G
 obtain rfl:=Option.some.inj H
 clear H
 dsimp only at ev ev2 ev3 F22
 subst ev ev2 ev3
 obtain⟨Ab2,Cb2,hcutb,Lb2,Rb2⟩:=cut_u8_to (P:=Try.prog) 29 5 Try.underlying29 info5 Ab Cb b ((b.length:Int) - 1) (by omega) (by omega) Lb.out
 rw[show((b.length:Int) - 1).toNat=b.length - 1 by omega] at hcutb Lb2 Rb2
 generalize b.take (b.length - 1)=b2 at F21 hcutb Lb2 Rb2
 replace Lb2:=Aside0.mk Lb2
 replace Rb2:=Aside0.mk (Rb2 _ Rb.out)
 go_wp2_with (first | ((with_reducible refine kd 118 ?_);refine kl _ (v:= .slice AB2 B2.length CB2) (by exact hcut _) ?_) | ((with_reducible refine kd 119 ?_);refine kc 70 119 Try.func70 #[.slice AB2 B2.length CB2] ?_;with_reducible refine(impl_Play.calls k _ _ B2 a now used _ sd sd F16.out).mono ?_;rintro e w_ ⟨Va,rfl,h0,hb⟩;refine⟨_,rfl,?_⟩;obtain⟨Aa,Ca,rfl,La,Ra⟩:=ssl h0;clear h0;have E24:=Aside0.mk hb;clear hb) | ((with_reducible refine kd 134 ?_);refine kg 134 ?_;dsimp only;refine kc 67 134 Try.func67 #[.slice Aa a.length Ca, .slice Aq q.length Cq] ?_;with_reducible refine(laws_sameItems.calls k _ _ a _ _ q true _ sd sd sd sd F17.out).mono ?_;rintro e w_ ⟨rfl,hb⟩;refine⟨_,rfl,?_⟩;have E25:=Aside0.mk hb;clear hb) | ((with_reducible refine kd 139 ?_);refine kg 139 ?_;dsimp only;refine kc 43 139 Try.func43 #[.slice Aq q.length Cq] ?_;with_reducible refine(impl_QueueOk.calls k _ _ q true _ sd sd F18.out).mono ?_;rintro e w_ ⟨rfl,hb⟩;refine⟨_,rfl,?_⟩;have E26:=Aside0.mk hb;clear hb) | ((with_reducible refine kd 142 ?_);refine kl _ (laws_FnBooks.ld (by with_reducible exact rfl) (by rfl) (bcell Bl)) ?_) | ((with_reducible refine kd 143 ?_);refine kc 36 143 Try.func36 #[.agg #[.int .i64 l1, .string l2, .int .i64 l3, .int .i64 l4, .slice Al l5.length Cl]] ?_;with_reducible refine(impl_LineOk.calls k l1 l2 l3 l4 _ _ l5 true _ sd sd F19.out).mono ?_;rintro e w_ ⟨rfl,hb⟩;refine⟨_,rfl,?_⟩;have E27:=Aside0.mk hb;clear hb) | ((with_reducible refine kd 150 ?_);refine kc 56 150 Try.func56 #[.slice Ab b.length Cb, .int .i64 0] ?_;with_reducible refine(impl_LineOf.calls k _ _ b 0 v1 v2 v3 v4 v5 (b.length:Int) true _ sd sd F20.out).mono ?_;rintro e w_ ⟨Vv,rfl,h0,hb⟩;refine⟨_,rfl,?_⟩;obtain⟨Av,Cv,rfl,Lv,Rv⟩:=rsl h0;clear h0;have E28:=Aside0.mk hb;clear hb) | ((with_reducible refine kd 24 ?_);refine kb 24 48 [.int .i64 0, .string (⟨#[]⟩:ByteArray), .int .i64 0, .int .i64 0, .slice none 0 0] [.int .i64 v1, .string v2, .int .i64 v3, .int .i64 v4, .slice Av v5.length Cv] (.agg #[.int .i64 v1, .string v2, .int .i64 v3, .int .i64 v4, .slice Av v5.length Cv]) (fun gv w_ Bv E29=>?_)) | ((with_reducible refine kd 159 ?_);refine kl _ (v:= .slice Ab2 b2.length Cb2) (by exact hcutb _) ?_) | ((with_reducible refine kd 160 ?_);refine kc 56 160 Try.func56 #[.slice Ab2 b2.length Cb2, .int .i64 0] ?_;with_reducible refine(impl_LineOf.calls k _ _ b2 0 u1 u2 u3 u4 u5 nu false _ sd sd F21.out).mono ?_;rintro e w_ ⟨Vu,rfl,h0,hb⟩;refine⟨_,rfl,?_⟩;obtain⟨Au,Cu,rfl,Lu,Ru⟩:=rsl h0;clear h0;have E30:=Aside0.mk hb;clear hb) | ((with_reducible refine kd 27 ?_);refine kb 27 48 [.int .i64 0, .string (⟨#[]⟩:ByteArray), .int .i64 0, .int .i64 0, .slice none 0 0] [.int .i64 u1, .string u2, .int .i64 u3, .int .i64 u4, .slice Au u5.length Cu] (.agg #[.int .i64 u1, .string u2, .int .i64 u3, .int .i64 u4, .slice Au u5.length Cu]) (fun gu w_ Bu E31=>?_)) | ((with_reducible refine kd 172 ?_);refine kg 172 ?_;dsimp only;refine kl _ (laws_FnBooks.ld (by with_reducible exact rfl) (by rfl) (bcell Bv)) ?_) | ((with_reducible refine kd 173 ?_);refine kg 173 ?_;dsimp only;refine kl _ (laws_FnBooks.ld (by with_reducible exact rfl) (by rfl) (bcell Bl)) ?_) | ((with_reducible refine kd 174 ?_);refine kg 174 ?_;dsimp only;refine kc 76 174 Try.func76 #[.agg #[.int .i64 v1, .string v2, .int .i64 v3, .int .i64 v4, .slice Av v5.length Cv], .agg #[.int .i64 l1, .string l2, .int .i64 l3, .int .i64 l4, .slice Al l5.length Cl]] ?_;with_reducible refine(laws_sameLine.calls v1 v2 v3 v4 _ _ v5 l1 l2 l3 l4 _ _ l5 true _ sd sd sd sd F22.out).mono ?_;rintro e w_ ⟨rfl,hb⟩;refine⟨_,rfl,?_⟩;have E32:=Aside0.mk hb;clear hb))
 go_ret
 exact⟨by first | rfl | (simp;done) | (simp [*];done),ch⟩
end Go.Proofs.Ytlalkldjpniakaa.P
-- Written by a program of this session (wip/drive.py) over the kit's print.
namespace Go.Proofs.Ytlalkldjpniakaa.P
open Go.RowKit Go.Proofs.YtlalkldjpniakaaW.PrintWords
/-- The one pure statement of laws_FnBooks. -/
def laws_FnBooks.Pure:Prop:=∀ (l0:List Int),(l0.length≤maxLen∧∀ y_∈l0,(Lit.int .u8 y_).wf=true)→∃ k,laws_FnBooks.f k l0=some true
end Go.Proofs.Ytlalkldjpniakaa.P
/- FnBooks: of what is drawn both sides answer one; a line is read from its bytes; of a torn book the beginning is played. -/
namespace Go.Proofs.Ytlalkldjpniakaa.Pure
open Go.RowKit Go.Proofs.Ytlalkldjpniakaa.P Go.Proofs.Ytlalkldjpniakaa.B Go.Proofs.YtlalkldjpniakaaW.PrintWords Go.Proofs.YtlalkldjpniakaaW.PrintLast Go.Proofs.YtlalkldjpniakaaW.PrintMore
set_option linter.unusedSimpArgs false
set_option linter.unusedVariables false
theorem sameItem (x:S34):laws_sameItem.f x.f0 x.f1 x.f2 x.f3 x.f0 x.f1 x.f2 x.f3=some true:=by
  unfold laws_sameItem.f
  rw[if_pos rfl,if_pos rfl,if_pos rfl]
  simp
theorem sameItems_l0:∀ (rest pre:List S34),(pre++rest).length≤1099511627776→Ev (fun k=>laws_sameItems.l0 k (pre++rest) (pre++rest) (pre.length:Nat)) true
  | [],pre,hl=>by
    refine evUp ?_
    simp only[laws_sameItems.l0]
    exact evNeg (by simp) (evConst _)
  | x :: rest,pre,hl=>by
    have hl2:(pre++x :: rest).length=pre.length+(rest.length+1):=by simp
    have ih:=sameItems_l0 rest (pre++[x]) (by simp;omega)
    have es:wrap64 ((pre.length:Int)+1)=(((pre++[x]).length:Nat):Int):=wrap_step pre x (by omega)
    rw[← snoc_app] at ih
    refine evUp ?_
    simp only[laws_sameItems.l0,rdT34_mid,es,sameItem,Option.bind_some]
    exact evPos (by omega) (evPos (by omega) (evPos (by omega) (evPos (by trivial) ih)))
theorem sameItems (l:List S34) (hl:l.length≤1099511627776):Ev (fun k=>laws_sameItems.f k l l) true:=by
  unfold laws_sameItems.f
  exact evPos rfl (sameItems_l0 l [] hl)
theorem sameLine (q:Int) (s:ByteArray) (n m:Int) (l:List Int):laws_sameLine.f q s n m l q s n m l=some true:=by
  unfold laws_sameLine.f
  rw[if_pos rfl,if_pos rfl,if_pos rfl,if_pos rfl]
  simp
theorem FnBooks:laws_FnBooks.Pure:=by
  intro l ⟨_,hw⟩
  refine Ev.rounds ?_
  unfold laws_FnBooks.f
  by_cases h0:(l.length:Int)>1048576
  · have e:laws_big.f l=some true:=by unfold laws_big.f;rw[decide_eq_true h0]
    rw[e]
    exact evBind (evConst true) (evPos rfl (evConst _))
  have e0:laws_big.f l=some false:=by unfold laws_big.f;rw[decide_eq_false h0]
  have hl:l.length≤1099511627776:=by omega
  obtain⟨q,s,n,m,b,d1,d2,hs,hb,hbb⟩:=drawLine l hl
  obtain⟨bb,b1,b2,b3,b4⟩:=lineBytesD q s n m b (by omega) (by omega) hbb
  obtain⟨r,ra,d3,hr,hrb⟩:=drawLineOf l hl
  obtain⟨⟨x1,x2,x3,x4,x5,nx,xo⟩,y1,y2,_⟩:=lineOf r ra (by omega) hrb
  obtain⟨B,d4,hB,hBb⟩:=drawPlay l hl
  obtain⟨⟨Q,now,used⟩,p1,p2,hQ,hQo,u0,u1,p3⟩:=playBook B (by omega) hBb
  replace hQ:qOk Q:=hQ
  replace hQo:queueOkL Q=true:=hQo
  have hsQ:=sameItems Q (by have:=hQ.1;omega)
  have hqo:Ev (fun k=>impl_QueueOk.f k Q) true:=by
    have:=implQueueOk Q (by have:=hQ.1;omega) (fun y hy=>by have:=(hQ.2 y hy).1;omega)
    rwa [hQo] at this
  obtain⟨o,ho⟩:=lineOk q s n m b (by omega) (by omega)
  have o1:Ev (fun k=>spec_LineOk.f k q s n m b) o:=evOf (s.size+3) fun k hk=>(ho k hk).1
  have o2:Ev (fun k=>impl_LineOk.f k q s n m b) o:=evOf (s.size+3) fun k hk=>(ho k hk).2
  rw[e0]
  refine evBind (evConst false) (evNeg (by decide) (evBind d1 (evBind b2 (evBind d3 (evBind y2 (evBind y1 (evBind d4 (evBind p2 (evBind p1 (evBind d2 (evBind b1 ?_)))))))))))
  simp only[implSame,sameL_same,Option.bind_some,sameLine]
  refine evPos ⟨trivial,trivial,trivial⟩ (evPos trivial (evBind hsQ (evPos (by simp) (evBind o2 (evBind o1 (evPos (by first | exact⟨rfl,u0,u1⟩ | exact⟨trivial,u0,u1⟩ | simp [u0,u1]) (evBind p3 (evPos (by simp) (evBind hsQ (evPos (by simp) (evBind hqo (evPos (by simp) (evBind o2 ?_)))))))))))))
  cases o with
  | true=>
    obtain⟨bc,g1,g2,g3,g4,g5,⟨f1,f2,f3,f4,f5,fn,fo⟩,g6,g7⟩:=lineBack q s n m b (by omega) (by omega) hbb (s.size+4) (ho (s.size+4) (by omega)).1
    obtain rfl:=evSame b1 g1
    obtain⟨v,v1,v2,_⟩:=lineOf bb 0 (by omega) b4
    obtain rfl:=evSame v1 g5
    obtain⟨w,w1,w2,_⟩:=lineOf (bb.take (bb.length - 1)) 0 (by rw[List.length_take];omega) (fun z hz=>b4 z (List.mem_of_mem_take hz))
    obtain rfl:=evSame w1 g7
    refine evPos rfl (evPos ⟨by omega,by omega⟩ (evBind v2 (evBind w2 (evPos ⟨rfl,rfl,g6⟩ ?_))))
    simp only[sameLine,Option.bind_some]
    exact evPos trivial (evConst _)
  | false=>
    have e3:Ev (fun k=>spec_LineBytes.f k q s n m b) []:=evOf (s.size+50) fun k hk=>by
      unfold spec_LineBytes.f
      rw[(ho k (by omega)).1,Option.bind_some,if_neg (by decide)]
    obtain rfl:=evSame b1 e3
    exact evNeg (by decide) (evPos rfl (evConst _))
end Go.Proofs.Ytlalkldjpniakaa.Pure
