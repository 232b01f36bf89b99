import Derived.IntWalk
import Derived.Laws.BitsAllLaws
import Derived.Test.Ytlalkldjpniakaabk16
import Derived.Test.Ytlalkldjpniakaabk20
namespace Go.Proofs.Ytlalkldjpniakaa.P
open Go.RowKit Go.Proofs.YtlalkldjpniakaaW.PrintWords Go.Proofs.YtlalkldjpniakaaW.PrintLast Go.Proofs.YtlalkldjpniakaaW.PrintMore
attribute [local go_sem] zck zcl zdl zdm zbz zca zcm zcn -- for this text's walks alone
set_option linter.unusedVariables false
set_option linter.unusedSimpArgs false
set_option maxHeartbeats 8000000
set_option maxRecDepth 100000

theorem impl_LineOf.wrap62 (n:Int) (h₀:0≤n) (h₁:n<2 ^ 62):IntKind.i64.wrap n=n:=by rw[IntKind.wrap_i64];omega
theorem impl_LineOf.or16 (a b:Int) (ha:0≤a∧a≤255) (hb:0≤b∧b≤255):Go.bits .or .i64 (a*256) b=256*a+b:=by
 have h:=bits_join .i64 62 (by decide) impl_LineOf.wrap62 8 (a*256) b (by omega) (by omega) (by omega) (by omega) (by omega) (by omega)
 rw[h];omega
set_option maxHeartbeats 4000000 in
theorem impl_LineOf.r4 {Q:Exit→Act→World→Prop} {a0:Act} {W:World} (cx:Nat) (xs:List Int) (ad:Addr) (hx2:18≤(xs.length:Int)) (hc14:∀ w_:World,Drawn0 W w_→w_.cell? (ad.add 14)=some (.int .u8 (rd xs 14))) (hc15:∀ w_:World,Drawn0 W w_→w_.cell? (ad.add 15)=some (.int .u8 (rd xs 15))) (hb14:0≤rd xs 14∧rd xs 14≤255) (hb15:0≤rd xs 15∧rd xs 15≤255) (hsz:a0.tmps.size=78) (h7:a0.tmps[7]? =some (.slice (some ad) xs.length cx))
  (hend:∀ w',Drawn0 W w'→Q .normal (((((((((((a0.put (some 22) (.slice (some ad) xs.length cx)).put (some 23) (.pointer (some (ad.add 14)))).put (some 24) (.int .u8 (rd xs 14))).put (some 25) (.int .i64 (rd xs 14))).put (some 26) (.int .i64 (rd xs 14*256))).put (some 27) (.slice (some ad) xs.length cx)).put (some 28) (.pointer (some (ad.add 15)))).put (some 29) (.int .u8 (rd xs 15))).put (some 30) (.int .i64 (rd xs 15))).put (some 31) (.int .i64 (256*rd xs 14+rd xs 15))).put (some 8) (.int .i64 (256*rd xs 14+rd xs 15))) w'):(Code.region 4 (opsOf Try.f56 4) true).wp Try.prog Q a0 W:=by
 have hn:(opsOf Try.f56 4).size=11:=by kernel_rfl
 have hk:regOk (opsOf Try.f56 4) a0.tmps.size=true:=by rw[hsz];kernel_rfl
 have hst:jSta (fun j=>([fun vals w_=>vals 0= .slice (some ad) xs.length cx,fun vals w_=>vals 1= .pointer (some (ad.add 14)),fun vals w_=>vals 2= .int .u8 (rd xs 14),fun vals w_=>vals 3= .int .i64 (rd xs 14),fun vals w_=>vals 4= .int .i64 (rd xs 14*256),fun vals w_=>vals 5= .slice (some ad) xs.length cx,fun vals w_=>vals 6= .pointer (some (ad.add 15)),fun vals w_=>vals 7= .int .u8 (rd xs 15),fun vals w_=>vals 8= .int .i64 (rd xs 15),fun vals w_=>vals 9= .int .i64 (256*rd xs 14+rd xs 15),fun vals w_=>vals 10= .int .i64 (256*rd xs 14+rd xs 15)]:List ((Nat→Value)→World→Prop)).getD j (fun _ _=>True)):=by
  intro vals w_ w1 hb j h
  match j,h with
  | 0,h=>exact h
  | 1,h=>exact h
  | 2,h=>exact h
  | 3,h=>exact h
  | 4,h=>exact h
  | 5,h=>exact h
  | 6,h=>exact h
  | 7,h=>exact h
  | 8,h=>exact h
  | 9,h=>exact h
  | 10,h=>exact h
  | k+11,_=>exact trivial
 refine region_inv (by kernel_rfl) (jV hst) (fun w_=>Drawn0 W w_) (fun j=>(opsOf Try.f56 4).size) hk ?_ ?_ ?_ ?_
 ·intro j vals vals' w_ h0 h1 h
  match j,h0,h1,h with
  | 0,h0,h1,h=>exact h0.symm.trans h
  | 1,h0,h1,h=>exact h0.symm.trans h
  | 2,h0,h1,h=>exact h0.symm.trans h
  | 3,h0,h1,h=>exact h0.symm.trans h
  | 4,h0,h1,h=>exact h0.symm.trans h
  | 5,h0,h1,h=>exact h0.symm.trans h
  | 6,h0,h1,h=>exact h0.symm.trans h
  | 7,h0,h1,h=>exact h0.symm.trans h
  | 8,h0,h1,h=>exact h0.symm.trans h
  | 9,h0,h1,h=>exact h0.symm.trans h
  | 10,h0,h1,h=>exact h0.symm.trans h
  | k+11,_,_,_=>exact trivial
 ·exact⟨⟨1,rfl⟩⟩
 ·intro i o ho a w vals hfr hdp hG K hK
  match i,ho,hdp,hK with
  | 0,ho,hdp,hK=>
   obtain⟨hop,hds,hgd⟩:=jro (Op.move (Operand.tmp 7)) 22 ho
   have x1_:a.eval (.tmp 7)= .slice (some ad) xs.length cx:=jfr (hfr 7) h7
   exact jrx ho hgd hK hG (.slice (some ad) xs.length cx)
  | 1,ho,hdp,hK=>
   obtain⟨hop,hds,hgd⟩:=jro (Op.indexAddr 29 (Operand.tmp 22) (Operand.const (Value.int IntKind.i64 14))) 23 ho
   have x1_:a.eval (.tmp 22)= .slice (some ad) xs.length cx:=jdv (hdp 0)
   have q_:((14:Int)<(xs.length:Int))=True:=zbr (by omega)
   exact jrx ho hgd hK hG (.pointer (some (ad.add 14)))
  | 2,ho,hdp,hK=>
   obtain⟨hop,hds,hgd⟩:=jro (Op.load 5 (Operand.tmp 23)) 24 ho
   have x1_:a.eval (.tmp 23)= .pointer (some (ad.add 14)):=jdv (hdp 1)
   have q_:w.cell? ⟨ad.block,ad.off+14,none⟩=some (.int .u8 (rd xs 14)):=hc14 w hG
   exact jrx ho hgd hK hG (.int .u8 (rd xs 14))
  | 3,ho,hdp,hK=>
   obtain⟨hop,hds,hgd⟩:=jro (Op.convert 5 3 (Operand.tmp 24)) 25 ho
   have x1_:a.eval (.tmp 24)= .int .u8 (rd xs 14):=jdv (hdp 2)
   have q_:IntKind.i64.wrap (rd xs 14)=rd xs 14:=zdy _ (by omega)
   exact jrx ho hgd hK hG (.int .i64 (rd xs 14))
  | 4,ho,hdp,hK=>
   obtain⟨hop,hds,hgd⟩:=jro (Op.binOp BinOp.shl 3 (Operand.tmp 25) (Operand.const (Value.int IntKind.u64 8)) 113) 26 ho
   have x1_:a.eval (.tmp 25)= .int .i64 (rd xs 14):=jdv (hdp 3)
   have q_:IntKind.i64.wrap (rd xs 14*256)=rd xs 14*256:=zdy _ (by omega)
   exact jrx ho hgd hK hG (.int .i64 (rd xs 14*256))
  | 5,ho,hdp,hK=>
   obtain⟨hop,hds,hgd⟩:=jro (Op.move (Operand.tmp 7)) 27 ho
   have x1_:a.eval (.tmp 7)= .slice (some ad) xs.length cx:=jfr (hfr 7) h7
   exact jrx ho hgd hK hG (.slice (some ad) xs.length cx)
  | 6,ho,hdp,hK=>
   obtain⟨hop,hds,hgd⟩:=jro (Op.indexAddr 29 (Operand.tmp 27) (Operand.const (Value.int IntKind.i64 15))) 28 ho
   have x1_:a.eval (.tmp 27)= .slice (some ad) xs.length cx:=jdv (hdp 5)
   have q_:((15:Int)<(xs.length:Int))=True:=zbr (by omega)
   exact jrx ho hgd hK hG (.pointer (some (ad.add 15)))
  | 7,ho,hdp,hK=>
   obtain⟨hop,hds,hgd⟩:=jro (Op.load 5 (Operand.tmp 28)) 29 ho
   have x1_:a.eval (.tmp 28)= .pointer (some (ad.add 15)):=jdv (hdp 6)
   have q_:w.cell? ⟨ad.block,ad.off+15,none⟩=some (.int .u8 (rd xs 15)):=hc15 w hG
   exact jrx ho hgd hK hG (.int .u8 (rd xs 15))
  | 8,ho,hdp,hK=>
   obtain⟨hop,hds,hgd⟩:=jro (Op.convert 5 3 (Operand.tmp 29)) 30 ho
   have x1_:a.eval (.tmp 29)= .int .u8 (rd xs 15):=jdv (hdp 7)
   have q_:IntKind.i64.wrap (rd xs 15)=rd xs 15:=zdy _ (by omega)
   exact jrx ho hgd hK hG (.int .i64 (rd xs 15))
  | 9,ho,hdp,hK=>
   obtain⟨hop,hds,hgd⟩:=jro (Op.binOp BinOp.or 3 (Operand.tmp 26) (Operand.tmp 30) 3) 31 ho
   have x1_:a.eval (.tmp 26)= .int .i64 (rd xs 14*256):=jdv (hdp 4)
   have x2_:a.eval (.tmp 30)= .int .i64 (rd xs 15):=jdv (hdp 8)
   have q_:=impl_LineOf.or16 (rd xs 14) (rd xs 15) hb14 hb15
   exact jrx ho hgd hK hG (.int .i64 (256*rd xs 14+rd xs 15))
  | 10,ho,hdp,hK=>
   obtain⟨hop,hds,hgd⟩:=jro (Op.assign (Operand.tmp 31)) 8 ho
   have x1_:a.eval (.tmp 31)= .int .i64 (256*rd xs 14+rd xs 15):=jdv (hdp 9)
   exact jrx ho hgd hK hG (.int .i64 (256*rd xs 14+rd xs 15))
  | k+11,ho,_,_=>exact absurd (Array.getElem?_eq_some_iff.1 ho).1 (by rw[hn];omega)
 intro a w' vals hd hs hf hv hV hG
 have ha:=region_act hk hd hs hf hv
 have hN:∀ j,j<11→j<(opsOf Try.f56 4).size:=fun j h=>by rw[hn];exact h
 replace ha:a=(((((((((((a0.put (some 22) (vals 0)).put (some 23) (vals 1)).put (some 24) (vals 2)).put (some 25) (vals 3)).put (some 26) (vals 4)).put (some 27) (vals 5)).put (some 28) (vals 6)).put (some 29) (vals 7)).put (some 30) (vals 8)).put (some 31) (vals 9)).put (some 8) (vals 10)):=ha.trans (by rw[hn];rfl)
 rw[ha]
 rw[(hV 0 (hN 0 (by omega)) (zaf _):vals 0=_),(hV 1 (hN 1 (by omega)) (zaf _):vals 1=_),(hV 2 (hN 2 (by omega)) (zaf _):vals 2=_),(hV 3 (hN 3 (by omega)) (zaf _):vals 3=_),(hV 4 (hN 4 (by omega)) (zaf _):vals 4=_),(hV 5 (hN 5 (by omega)) (zaf _):vals 5=_),(hV 6 (hN 6 (by omega)) (zaf _):vals 6=_),(hV 7 (hN 7 (by omega)) (zaf _):vals 7=_),(hV 8 (hN 8 (by omega)) (zaf _):vals 8=_),(hV 9 (hN 9 (by omega)) (zaf _):vals 9=_),(hV 10 (hN 10 (by omega)) (zaf _):vals 10=_)]
 exact hend w' hG
set_option maxHeartbeats 4000000 in
theorem impl_LineOf.r7 {Q:Exit→Act→World→Prop} {a0:Act} {W:World} (k:Nat) (cx ch cw cb:Nat) (xs lh lw lb lr:List Int) (ad:Addr) (Ah Aw Ab:Option Addr) (n due:Int) (route:ByteArray) (hn0:0≤n) (hx2:18+n≤(xs.length:Int)) (hl:(xs.length:Int)≤140737488355232)
  (hc0:∀ w_:World,Below W.heap.size W w_→w_.cell? ad=some (.int .u8 (rd xs 0))) (hc9:∀ w_:World,Below W.heap.size W w_→w_.cell? (ad.add 9)=some (.int .u8 (rd xs 9))) (hb0:0≤rd xs 0∧rd xs 0≤255) (hb9:0≤rd xs 9∧rd xs 9≤255)
  (hcuth:∀ W:World,(Instr.slice 29 (.slice (some ad) xs.length cx) (some (.int .i64 (1))) (some (.int .i64 (9))) none).run Try.prog W= .ok (.slice Ah lh.length ch) W) (hCh:Kd.C (Kd.int .u8) W Ah lh.length lh) (hlh:lh.length≤ch) (FH:impl_Hex.f k lh=some route) (hcutw:∀ W:World,(Instr.slice 29 (.slice (some ad) xs.length cx) (some (.int .i64 (10))) (some (.int .i64 (14))) none).run Try.prog W= .ok (.slice Aw lw.length cw) W) (hCw:Kd.C (Kd.int .u8) W Aw lw.length lw) (hlw:lw.length≤cw) (FW:impl_wordOf.f lw true=some due) (hcutb:∀ W:World,(Instr.slice 29 (.slice (some ad) xs.length cx) (some (.int .i64 (16))) (some (.int .i64 (16+n))) none).run Try.prog W= .ok (.slice Ab lb.length cb) W) (hCb:Kd.C (Kd.int .u8) W Ab lb.length lb) (hlb:lb.length≤cb) (FC:slices_Clone_byte_byte.f lb=some lr) (hsz:a0.tmps.size=78) (h7:a0.tmps[7]? =some (.slice (some ad) xs.length cx)) (h8:a0.tmps[8]? =some (.int .i64 n))
  (hend:∀ (w':World) (g:Nat) (A:Option Addr) (c:Nat),Below W.heap.size W w'→W.heap.size≤g→w'.heap[g]? =some (.cells [.int .i64 (rd xs 0), .string route, .int .i64 (rd xs 9), .int .i64 due, .slice A lr.length c].toArray 48 (0,0))→Kd.R (Kd.int .u8) 5 w' W.heap.size (fun _=>True) (.slice A lr.length c) lr→Q .normal (((((((((((((((((((((a0.put (some 39) (.slice (some ad) xs.length cx)).put (some 40) (.pointer (some ad))).put (some 41) (.int .u8 (rd xs 0))).put (some 42) (.int .i64 (rd xs 0))).put (some 43) (.slice (some ad) xs.length cx)).put (some 44) (.slice Ah lh.length ch)).put (some 45) (.string route)).put (some 46) (.slice (some ad) xs.length cx)).put (some 47) (.pointer (some (ad.add 9)))).put (some 48) (.int .u8 (rd xs 9))).put (some 49) (.int .i64 (rd xs 9))).put (some 50) (.slice (some ad) xs.length cx)).put (some 51) (.slice Aw lw.length cw)).put (some 52) (.int .i64 due)).put (some 53) (.slice (some ad) xs.length cx)).put (some 54) (.int .i64 n)).put (some 55) (.int .i64 (16+n))).put (some 56) (.slice Ab lb.length cb)).put (some 57) (.slice A lr.length c)).put (some 58) (.agg #[.int .i64 (rd xs 0), .string route, .int .i64 (rd xs 9), .int .i64 due, .slice A lr.length c])).put (some 9) (.pointer (some ⟨g,0,none⟩))) w'):(Code.region 7 (opsOf Try.f56 7) true).wp Try.prog Q a0 W:=by
 have hn:(opsOf Try.f56 7).size=22:=by kernel_rfl
 have hk:regOk (opsOf Try.f56 7) a0.tmps.size=true:=by rw[hsz];kernel_rfl
 have hst:jSta (fun j=>([fun vals w_=>vals 0= .slice (some ad) xs.length cx,fun vals w_=>vals 1= .pointer (some ad),fun vals w_=>vals 2= .int .u8 (rd xs 0),fun vals w_=>vals 3= .int .i64 (rd xs 0),fun vals w_=>vals 4= .slice (some ad) xs.length cx,fun vals w_=>vals 5= .slice Ah lh.length ch,fun vals w_=>vals 6= .string route,fun vals w_=>vals 7= .slice (some ad) xs.length cx,fun vals w_=>vals 8= .pointer (some (ad.add 9)),fun vals w_=>vals 9= .int .u8 (rd xs 9),fun vals w_=>vals 10= .int .i64 (rd xs 9),fun vals w_=>vals 11= .slice (some ad) xs.length cx,fun vals w_=>vals 12= .slice Aw lw.length cw,fun vals w_=>vals 13= .int .i64 due,fun vals w_=>vals 14= .slice (some ad) xs.length cx,fun vals w_=>vals 15= .int .i64 n,fun vals w_=>vals 16= .int .i64 (16+n),fun vals w_=>vals 17= .slice Ab lb.length cb,fun vals w_=>Kd.R (Kd.int .u8) 5 w_ W.heap.size (fun _=>True) (vals 18) lr,fun vals w_=>∃ A c,vals 18= .slice A lr.length c∧vals 19= .agg #[.int .i64 (rd xs 0), .string route, .int .i64 (rd xs 9), .int .i64 due, .slice A lr.length c],fun vals w_=>∃ g,vals 20= .pointer (some ⟨g,0,none⟩)∧W.heap.size≤g∧w_.heap[g]? =some (.cells [.int .i64 0, .string (⟨#[]⟩:ByteArray), .int .i64 0, .int .i64 0, .slice none 0 0].toArray 48 (0,0)),fun vals w_=>∃ g A c,vals 20= .pointer (some ⟨g,0,none⟩)∧W.heap.size≤g∧vals 19= .agg #[.int .i64 (rd xs 0), .string route, .int .i64 (rd xs 9), .int .i64 due, .slice A lr.length c]∧w_.heap[g]? =some (.cells [.int .i64 (rd xs 0), .string route, .int .i64 (rd xs 9), .int .i64 due, .slice A lr.length c].toArray 48 (0,0))]:List ((Nat→Value)→World→Prop)).getD j (fun _ _=>True)):=by
  intro vals w_ w1 hb j h
  match j,h with
  | 0,h=>exact h
  | 1,h=>exact h
  | 2,h=>exact h
  | 3,h=>exact h
  | 4,h=>exact h
  | 5,h=>exact h
  | 6,h=>exact h
  | 7,h=>exact h
  | 8,h=>exact h
  | 9,h=>exact h
  | 10,h=>exact h
  | 11,h=>exact h
  | 12,h=>exact h
  | 13,h=>exact h
  | 14,h=>exact h
  | 15,h=>exact h
  | 16,h=>exact h
  | 17,h=>exact h
  | 18,h=>exact zdb h hb
  | 19,h=>exact h
  | 20,h=>exact by obtain⟨g,h2,h3,h4⟩:=h;exact⟨g,h2,h3,(hb.block _ (Array.getElem?_eq_some_iff.1 h4).1).trans h4⟩
  | 21,h=>exact by obtain⟨g,A,c,h2,h3,h4,h5⟩:=h;exact⟨g,A,c,h2,h3,h4,(hb.block _ (Array.getElem?_eq_some_iff.1 h5).1).trans h5⟩
  | k+22,_=>exact trivial
 refine region_inv (by kernel_rfl) (jV hst) (fun w_=>Below W.heap.size W w_) (fun j=>if j=20 then 21 else(opsOf Try.f56 7).size) hk ?_ ?_ ?_ ?_
 ·intro j vals vals' w_ h0 h1 h
  match j,h0,h1,h with
  | 0,h0,h1,h=>exact h0.symm.trans h
  | 1,h0,h1,h=>exact h0.symm.trans h
  | 2,h0,h1,h=>exact h0.symm.trans h
  | 3,h0,h1,h=>exact h0.symm.trans h
  | 4,h0,h1,h=>exact h0.symm.trans h
  | 5,h0,h1,h=>exact h0.symm.trans h
  | 6,h0,h1,h=>exact h0.symm.trans h
  | 7,h0,h1,h=>exact h0.symm.trans h
  | 8,h0,h1,h=>exact h0.symm.trans h
  | 9,h0,h1,h=>exact h0.symm.trans h
  | 10,h0,h1,h=>exact h0.symm.trans h
  | 11,h0,h1,h=>exact h0.symm.trans h
  | 12,h0,h1,h=>exact h0.symm.trans h
  | 13,h0,h1,h=>exact h0.symm.trans h
  | 14,h0,h1,h=>exact h0.symm.trans h
  | 15,h0,h1,h=>exact h0.symm.trans h
  | 16,h0,h1,h=>exact h0.symm.trans h
  | 17,h0,h1,h=>exact h0.symm.trans h
  | 18,h0,h1,h=>exact by show Kd.R (Kd.int .u8) 5 w_ W.heap.size (fun _=>True) (vals' 18) lr;rw[← h0];exact h
  | 19,h0,h1,h=>exact by obtain⟨A,c,h2,h3⟩:=h;exact⟨A,c,(h1 18 (dep_of (by kernel_rfl))).symm.trans h2,h0.symm.trans h3⟩
  | 20,h0,h1,h=>exact by obtain⟨g,h2,h3,h4⟩:=h;exact⟨g,h0.symm.trans h2,h3,h4⟩
  | 21,h0,h1,h=>exact by obtain⟨g,A,c,h2,h3,h4,h5⟩:=h;exact⟨g,A,c,(h1 20 (dep_of (by kernel_rfl))).symm.trans h2,h3,(h1 19 (dep_of (by kernel_rfl))).symm.trans h4,h5⟩
  | k+22,_,_,_=>exact trivial
 ·exact below_drew (zbo _ _)
 ·intro i o ho a w vals hfr hdp hG K hK
  match i,ho,hdp,hK with
  | 0,ho,hdp,hK=>
   obtain⟨hop,hds,hgd⟩:=jro (Op.move (Operand.tmp 7)) 39 ho
   have x1_:a.eval (.tmp 7)= .slice (some ad) xs.length cx:=jfr (hfr 7) h7
   exact jrx ho hgd hK hG (.slice (some ad) xs.length cx)
  | 1,ho,hdp,hK=>
   obtain⟨hop,hds,hgd⟩:=jro (Op.indexAddr 29 (Operand.tmp 39) (Operand.const (Value.int IntKind.i64 0))) 40 ho
   have x1_:a.eval (.tmp 39)= .slice (some ad) xs.length cx:=jdv (hdp 0)
   have q_:((0:Int)<(xs.length:Int))=True:=zbr (by omega);have p_:(xs=[])=False:=eq_false (fun e=>by rw[e] at hx2;simp at hx2;omega)
   exact jrx ho hgd hK hG (.pointer (some ad))
  | 2,ho,hdp,hK=>
   obtain⟨hop,hds,hgd⟩:=jro (Op.load 5 (Operand.tmp 40)) 41 ho
   have x1_:a.eval (.tmp 40)= .pointer (some ad):=jdv (hdp 1)
   have q_:=hc0 w hG
   exact jrx ho hgd hK hG (.int .u8 (rd xs 0))
  | 3,ho,hdp,hK=>
   obtain⟨hop,hds,hgd⟩:=jro (Op.convert 5 3 (Operand.tmp 41)) 42 ho
   have x1_:a.eval (.tmp 41)= .int .u8 (rd xs 0):=jdv (hdp 2)
   have q_:IntKind.i64.wrap (rd xs 0)=rd xs 0:=zdy _ (by omega)
   exact jrx ho hgd hK hG (.int .i64 (rd xs 0))
  | 4,ho,hdp,hK=>
   obtain⟨hop,hds,hgd⟩:=jro (Op.move (Operand.tmp 7)) 43 ho
   have x1_:a.eval (.tmp 7)= .slice (some ad) xs.length cx:=jfr (hfr 7) h7
   exact jrx ho hgd hK hG (.slice (some ad) xs.length cx)
  | 5,ho,hdp,hK=>
   obtain⟨hop,hds,hgd⟩:=jro (Op.slice 29 (Operand.tmp 43) (some (Operand.const (Value.int IntKind.i64 1))) (some (Operand.const (Value.int IntKind.i64 9))) none) 44 ho
   have C0:a.eval (.tmp 43)= .slice (some ad) xs.length cx:=jdv (hdp 4)
   refine reg_val (w1:=w) ho hgd (.slice Ah lh.length ch) (by unfold execOp;simp only[hop,C0];simp only[Option.map_some,Option.map_none,C0];go_simp) ?_
   exact hK _ _ (upd_same _ _ _) hG (fun _ _ _ h=>h)
  | 6,ho,hdp,hK=>
   obtain⟨hop,hds,hgd⟩:=jro (Op.call {callee:=Callee.value (Operand.func 114),args:= #[(Operand.tmp 44)],argTypes:= #[29]}) 45 ho
   have K0:a.eval (.tmp 44)= .slice Ah lh.length ch:=jdv (hdp 5)
   refine reg_call ho hgd (f:=114) Try.func114 (by kernel_rfl) rfl #[.slice Ah lh.length ch] hop (by simp only[zek,zfb,zfl,K0]) ?_
   refine(impl_Hex.calls k _ _ lh route w (zbc hCh hG) hlh FH).mono ?_
   rintro e w1 ⟨rfl,hb⟩
   exact⟨_,rfl,hK _ _ (upd_same _ _ _) (zac hG hb) (fun j _ _ h=>hst vals w w1 hb j h)⟩
  | 7,ho,hdp,hK=>
   obtain⟨hop,hds,hgd⟩:=jro (Op.move (Operand.tmp 7)) 46 ho
   have x1_:a.eval (.tmp 7)= .slice (some ad) xs.length cx:=jfr (hfr 7) h7
   exact jrx ho hgd hK hG (.slice (some ad) xs.length cx)
  | 8,ho,hdp,hK=>
   obtain⟨hop,hds,hgd⟩:=jro (Op.indexAddr 29 (Operand.tmp 46) (Operand.const (Value.int IntKind.i64 9))) 47 ho
   have x1_:a.eval (.tmp 46)= .slice (some ad) xs.length cx:=jdv (hdp 7)
   have q_:((9:Int)<(xs.length:Int))=True:=zbr (by omega)
   exact jrx ho hgd hK hG (.pointer (some (ad.add 9)))
  | 9,ho,hdp,hK=>
   obtain⟨hop,hds,hgd⟩:=jro (Op.load 5 (Operand.tmp 47)) 48 ho
   have x1_:a.eval (.tmp 47)= .pointer (some (ad.add 9)):=jdv (hdp 8)
   have q_:w.cell? ⟨ad.block,ad.off+9,none⟩=some (.int .u8 (rd xs 9)):=hc9 w hG
   exact jrx ho hgd hK hG (.int .u8 (rd xs 9))
  | 10,ho,hdp,hK=>
   obtain⟨hop,hds,hgd⟩:=jro (Op.convert 5 3 (Operand.tmp 48)) 49 ho
   have x1_:a.eval (.tmp 48)= .int .u8 (rd xs 9):=jdv (hdp 9)
   have q_:IntKind.i64.wrap (rd xs 9)=rd xs 9:=zdy _ (by omega)
   exact jrx ho hgd hK hG (.int .i64 (rd xs 9))
  | 11,ho,hdp,hK=>
   obtain⟨hop,hds,hgd⟩:=jro (Op.move (Operand.tmp 7)) 50 ho
   have x1_:a.eval (.tmp 7)= .slice (some ad) xs.length cx:=jfr (hfr 7) h7
   exact jrx ho hgd hK hG (.slice (some ad) xs.length cx)
  | 12,ho,hdp,hK=>
   obtain⟨hop,hds,hgd⟩:=jro (Op.slice 29 (Operand.tmp 50) (some (Operand.const (Value.int IntKind.i64 10))) (some (Operand.const (Value.int IntKind.i64 14))) none) 51 ho
   have D0:a.eval (.tmp 50)= .slice (some ad) xs.length cx:=jdv (hdp 11)
   refine reg_val (w1:=w) ho hgd (.slice Aw lw.length cw) (by unfold execOp;simp only[hop,D0];simp only[Option.map_some,Option.map_none,D0];go_simp) ?_
   exact hK _ _ (upd_same _ _ _) hG (fun _ _ _ h=>h)
  | 13,ho,hdp,hK=>
   obtain⟨hop,hds,hgd⟩:=jro (Op.call {callee:=Callee.value (Operand.func 115),args:= #[(Operand.tmp 51),Operand.const (Value.bool true)],argTypes:= #[29,4]}) 52 ho
   have L0:a.eval (.tmp 51)= .slice Aw lw.length cw:=jdv (hdp 12)
   refine reg_call ho hgd (f:=115) Try.func115 (by kernel_rfl) rfl #[.slice Aw lw.length cw, .bool true] hop (by simp only[zek,zfb,zfl,L0];rfl) ?_
   refine(impl_wordOf.calls _ _ lw true due w (zbc hCw hG) hlw FW).mono ?_
   rintro e w1 ⟨rfl,hb⟩
   replace hb:=Drawn0.below hb
   exact⟨_,rfl,hK _ _ (upd_same _ _ _) (zac hG hb) (fun j _ _ h=>hst vals w w1 hb j h)⟩
  | 14,ho,hdp,hK=>
   obtain⟨hop,hds,hgd⟩:=jro (Op.move (Operand.tmp 7)) 53 ho
   have x1_:a.eval (.tmp 7)= .slice (some ad) xs.length cx:=jfr (hfr 7) h7
   exact jrx ho hgd hK hG (.slice (some ad) xs.length cx)
  | 15,ho,hdp,hK=>
   obtain⟨hop,hds,hgd⟩:=jro (Op.move (Operand.tmp 8)) 54 ho
   have x1_:a.eval (.tmp 8)= .int .i64 n:=jfr (hfr 8) h8
   exact jrx ho hgd hK hG (.int .i64 n)
  | 16,ho,hdp,hK=>
   obtain⟨hop,hds,hgd⟩:=jro (Op.binOp BinOp.add 3 (Operand.const (Value.int IntKind.i64 16)) (Operand.tmp 54) 3) 55 ho
   have x1_:a.eval (.tmp 54)= .int .i64 n:=jdv (hdp 15)
   have q_:IntKind.i64.wrap (16+n)=16+n:=zdy _ (by omega)
   exact jrx ho hgd hK hG (.int .i64 (16+n))
  | 17,ho,hdp,hK=>
   obtain⟨hop,hds,hgd⟩:=jro (Op.slice 29 (Operand.tmp 53) (some (Operand.const (Value.int IntKind.i64 16))) (some (Operand.tmp 55)) none) 56 ho
   have E0:a.eval (.tmp 53)= .slice (some ad) xs.length cx:=jdv (hdp 14)
   have F0:a.eval (.tmp 55)= .int .i64 (16+n):=jdv (hdp 16)
   refine reg_val (w1:=w) ho hgd (.slice Ab lb.length cb) (by unfold execOp;simp only[hop,E0,F0];simp only[Option.map_some,Option.map_none,E0,F0];go_simp) ?_
   exact hK _ _ (upd_same _ _ _) hG (fun _ _ _ h=>h)
  | 18,ho,hdp,hK=>
   obtain⟨hop,hds,hgd⟩:=jro (Op.call {callee:=Callee.value (Operand.func 116),args:= #[(Operand.tmp 56)],argTypes:= #[29]}) 57 ho
   have M0:a.eval (.tmp 56)= .slice Ab lb.length cb:=jdv (hdp 17)
   refine reg_call ho hgd (f:=116) Try.func116 (by kernel_rfl) rfl #[.slice Ab lb.length cb] hop (by simp only[zek,zfb,zfl,M0]) ?_
   refine(slices_Clone_byte_byte.calls _ _ lb lr w (zbc hCb hG) hlb FC).mono ?_
   rintro e w1 ⟨v,rfl,hr,hb⟩
   exact⟨_,rfl,hK _ _ (show Kd.R (Kd.int .u8) 5 w1 W.heap.size (fun _=>True) (upd vals 18 v 18) lr from by rw[upd_same];exact zax (zam hr (fun _ _=>trivial)) hG.size) (zac hG hb) (fun j _ _ h=>hst vals w w1 hb j h)⟩
  | 19,ho,hdp,hK=>
   obtain⟨hop,hds,hgd⟩:=jro (Op.build 48 #[(0,(Operand.tmp 42)),(1,(Operand.tmp 45)),(2,(Operand.tmp 49)),(3,(Operand.tmp 52)),(4,(Operand.tmp 57))]) 58 ho
   have N0:a.eval (.tmp 42)= .int .i64 (rd xs 0):=jdv (hdp 3)
   have O0:a.eval (.tmp 45)= .string route:=jdv (hdp 6)
   have P0:a.eval (.tmp 49)= .int .i64 (rd xs 9):=jdv (hdp 10)
   have Q0:a.eval (.tmp 52)= .int .i64 due:=jdv (hdp 13)
   have o0:a.eval (.tmp 57)=vals 18:=eval_tmp ((hdp 18 (dep_of (by kernel_rfl))).1 57 rfl)
   have fx_:=(hdp 18 (dep_of (by kernel_rfl))).2 (.inr (zaf _))
   obtain⟨A,c,f1⟩:=zbd fx_
   replace o0:=o0.trans f1
   refine reg_val (w1:=w) ho hgd (.agg #[.int .i64 (rd xs 0), .string route, .int .i64 (rd xs 9), .int .i64 due, .slice A lr.length c]) (by unfold execOp;simp only[hop];simp only[zek,zfb,zfl,N0,O0,P0,Q0,o0];go_simp) ?_
   exact hK _ _ ⟨A,c,(upd_ne vals _ (by omega)).trans f1,upd_same _ _ _⟩ hG (fun _ _ _ h=>h)
  | 20,ho,hdp,hK=>
   obtain⟨hop,hds,hgd⟩:=jro (Op.alloc 48) 9 ho
   refine reg_if ho (box_step (N:=9) (reg_wanted hgd) hds (cs:=[.int .i64 0, .string (⟨#[]⟩:ByteArray), .int .i64 0, .int .i64 0, .slice none 0 0].toArray) (t:=48) (by unfold execOp;simp only[hop];go_simp;done) ?_)
   intro g hg w1 hx1 hb
   exact hK _ _ ⟨g,upd_same _ _ _,by rw[hg];exact hG.size,hx1⟩ (zac hG hb) (fun j _ _ h=>hst vals w w1 hb j h)
  | 21,ho,hdp,hK=>
   obtain⟨hop,hds,hgd⟩:=reg_op (op:=Op.store 48 (Operand.tmp 9) (Operand.tmp 58)) (d:=none) (g:=none) (by kernel_rfl) ho
   have e9:a.eval (.tmp 9)=vals 20:=eval_tmp ((hdp 20 (dep_of (by kernel_rfl))).1 9 rfl)
   have fp_:=(hdp 20 (dep_of (by kernel_rfl))).2 (.inl rfl)
   obtain⟨g,f1,f2,f3⟩:=fp_
   replace e9:=e9.trans f1
   have B0:a.eval (.tmp 58)=vals 19:=eval_tmp ((hdp 19 (dep_of (by kernel_rfl))).1 58 rfl)
   have fx_:=(hdp 19 (dep_of (by kernel_rfl))).2 (.inr (zaf _))
   obtain⟨A,c,f4,f5⟩:=fx_
   replace B0:=B0.trans f5
   obtain⟨w1,s1,s2,s3⟩:=store_whole (P:=Try.prog) (v:= .agg #[.int .i64 (rd xs 0), .string route, .int .i64 (rd xs 9), .int .i64 due, .slice A lr.length c]) (new:=[.int .i64 (rd xs 0), .string route, .int .i64 (rd xs 9), .int .i64 due, .slice A lr.length c]) f3 rfl rfl (by kernel_rfl) (by intro u hu;simp only[zdr,zct,zfu] at hu;rcases hu with rfl | rfl | rfl | rfl | rfl <;> rfl) (by simp)
   refine reg_skip (w1:=w1) ho hgd (by unfold execOp;simp only[hop,e9,B0,s1,Result.andThen_ok,Sem.run_bind,Sem.run_pure]) ?_
   refine hK _ w1 ⟨g,A,c,(upd_ne vals _ (by omega)).trans f1,f2,(upd_ne vals _ (by omega)).trans f5,s3⟩ (zcw hG (some g) hG.size s2 (fun k_ e_=>by injection e_ with e_;omega)) (fun j hj hcj h=>?_)
   match j,hj,hcj,h with
   | 0,hj,hcj,h=>exact h
   | 1,hj,hcj,h=>exact h
   | 2,hj,hcj,h=>exact h
   | 3,hj,hcj,h=>exact h
   | 4,hj,hcj,h=>exact h
   | 5,hj,hcj,h=>exact h
   | 6,hj,hcj,h=>exact h
   | 7,hj,hcj,h=>exact h
   | 8,hj,hcj,h=>exact h
   | 9,hj,hcj,h=>exact h
   | 10,hj,hcj,h=>exact h
   | 11,hj,hcj,h=>exact h
   | 12,hj,hcj,h=>exact h
   | 13,hj,hcj,h=>exact h
   | 14,hj,hcj,h=>exact h
   | 15,hj,hcj,h=>exact h
   | 16,hj,hcj,h=>exact h
   | 17,hj,hcj,h=>exact h
   | 18,hj,hcj,h=>exact Kd.R_grown1 h rfl s2 (zgk h f3 (by decide))
   | 19,hj,hcj,h=>exact h
   | 20,hj,hcj,h=>exact absurd rfl hcj
   | 21,hj,hcj,h=>exact absurd rfl hj
   | k+22,_,_,_=>exact trivial
  | k+22,ho,_,_=>exact absurd (Array.getElem?_eq_some_iff.1 ho).1 (by rw[hn];omega)
 intro a w' vals hd hs hf hv hV hG
 have ha:=region_act hk hd hs hf hv
 have hN:∀ j,j<22→j<(opsOf Try.f56 7).size:=fun j h=>by rw[hn];exact h
 replace ha:a=((((((((((((((((((((((a0.put (some 39) (vals 0)).put (some 40) (vals 1)).put (some 41) (vals 2)).put (some 42) (vals 3)).put (some 43) (vals 4)).put (some 44) (vals 5)).put (some 45) (vals 6)).put (some 46) (vals 7)).put (some 47) (vals 8)).put (some 48) (vals 9)).put (some 49) (vals 10)).put (some 50) (vals 11)).put (some 51) (vals 12)).put (some 52) (vals 13)).put (some 53) (vals 14)).put (some 54) (vals 15)).put (some 55) (vals 16)).put (some 56) (vals 17)).put (some 57) (vals 18)).put (some 58) (vals 19)).put (some 9) (vals 20)).put none (vals 21)):=ha.trans (by rw[hn];rfl)
 rw[ha]
 obtain⟨A,c,G0,H0⟩:=hV 19 (hN 19 (by omega)) (zaf _)
 obtain⟨g,A',c',R0,S0,T0,U0⟩:=hV 21 (hN 21 (by omega)) (zaf _)
 have I0:=H0.symm.trans T0
 simp only[Value.agg.injEq,Array.mk.injEq,List.cons.injEq,Value.slice.injEq,true_and,and_true] at I0
 obtain⟨rfl,rfl⟩:=I0
 have V0:=hV 18 (hN 18 (by omega)) (zaf _)
 have J0:Kd.R (Kd.int .u8) 5 w' W.heap.size (fun _=>True) (vals 18) lr:=V0
 rw[G0] at J0
 rw[(hV 0 (hN 0 (by omega)) (zaf _):vals 0=_),(hV 1 (hN 1 (by omega)) (zaf _):vals 1=_),(hV 2 (hN 2 (by omega)) (zaf _):vals 2=_),(hV 3 (hN 3 (by omega)) (zaf _):vals 3=_),(hV 4 (hN 4 (by omega)) (zaf _):vals 4=_),(hV 5 (hN 5 (by omega)) (zaf _):vals 5=_),(hV 6 (hN 6 (by omega)) (zaf _):vals 6=_),(hV 7 (hN 7 (by omega)) (zaf _):vals 7=_),(hV 8 (hN 8 (by omega)) (zaf _):vals 8=_),(hV 9 (hN 9 (by omega)) (zaf _):vals 9=_),(hV 10 (hN 10 (by omega)) (zaf _):vals 10=_),(hV 11 (hN 11 (by omega)) (zaf _):vals 11=_),(hV 12 (hN 12 (by omega)) (zaf _):vals 12=_),(hV 13 (hN 13 (by omega)) (zaf _):vals 13=_),(hV 14 (hN 14 (by omega)) (zaf _):vals 14=_),(hV 15 (hN 15 (by omega)) (zaf _):vals 15=_),(hV 16 (hN 16 (by omega)) (zaf _):vals 16=_),(hV 17 (hN 17 (by omega)) (zaf _):vals 17=_),G0,H0,R0]
 rw[put_none]
 exact hend w' g A c hG S0 U0 J0
set_option maxHeartbeats 4000000 in
theorem impl_LineOf.r11 {Q:Exit→Act→World→Prop} {a0:Act} {W:World} (k:Nat) (cx c g ce:Nat) (xs lb le bb:List Int) (ad:Addr) (A Ae:Option Addr) (n r1 r3 r4:Int) (r2:ByteArray) (s:Bool) (hn0:0≤n) (hx2:18+n≤(xs.length:Int)) (hl:(xs.length:Int)≤140737488355232)
  (hblk:W.heap[g]? =some (.cells [.int .i64 r1, .string r2, .int .i64 r3, .int .i64 r4, .slice A lb.length c].toArray 48 (0,0))) (hCb:Kd.C (Kd.int .u8) W A lb.length lb) (hlb:lb.length≤c) (FL:impl_LineBytes.f k r1 r2 r3 r4 lb=some bb)
  (hcut:∀ W:World,(Instr.slice 29 (.slice (some ad) xs.length cx) none (some (.int .i64 (16+n+2))) none).run Try.prog W= .ok (.slice Ae le.length ce) W) (hCe:Kd.C (Kd.int .u8) W Ae le.length le) (hle:le.length≤ce) (FS:impl_Same.f bb le=some s) (hsz:a0.tmps.size=78) (h7:a0.tmps[7]? =some (.slice (some ad) xs.length cx)) (h9:a0.tmps[9]? =some (.pointer (some ⟨g,0,none⟩))) (h10:a0.tmps[10]? =some (.int .i64 (16+n+2)))
  (hend:∀ (w':World) (v67:Value),Below W.heap.size W w'→Q .normal (((((((a0.put (some 66) (.agg #[.int .i64 r1, .string r2, .int .i64 r3, .int .i64 r4, .slice A lb.length c])).put (some 67) (v67)).put (some 68) (.slice (some ad) xs.length cx)).put (some 69) (.int .i64 (16+n+2))).put (some 70) (.slice Ae le.length ce)).put (some 71) (.bool s)).put (some 72) (.bool (!s))) w'):(Code.region 11 (opsOf Try.f56 11) true).wp Try.prog Q a0 W:=by
 have hn:(opsOf Try.f56 11).size=7:=by kernel_rfl
 have hk:regOk (opsOf Try.f56 11) a0.tmps.size=true:=by rw[hsz];kernel_rfl
 have hst:jSta (fun j=>([fun vals w_=>vals 0= .agg #[.int .i64 r1, .string r2, .int .i64 r3, .int .i64 r4, .slice A lb.length c],fun vals w_=>Kd.R (Kd.int .u8) 5 w_ W.heap.size (fun _=>True) (vals 1) bb,fun vals w_=>vals 2= .slice (some ad) xs.length cx,fun vals w_=>vals 3= .int .i64 (16+n+2),fun vals w_=>vals 4= .slice Ae le.length ce,fun vals w_=>vals 5= .bool s,fun vals w_=>vals 6= .bool (!s)]:List ((Nat→Value)→World→Prop)).getD j (fun _ _=>True)):=by
  intro vals w_ w1 hb j h
  match j,h with
  | 0,h=>exact h
  | 1,h=>exact zdb h hb
  | 2,h=>exact h
  | 3,h=>exact h
  | 4,h=>exact h
  | 5,h=>exact h
  | 6,h=>exact h
  | k+7,_=>exact trivial
 refine region_inv (by kernel_rfl) (jV hst) (fun w_=>Below W.heap.size W w_) (fun j=>(opsOf Try.f56 11).size) hk ?_ ?_ ?_ ?_
 ·intro j vals vals' w_ h0 h1 h
  match j,h0,h1,h with
  | 0,h0,h1,h=>exact h0.symm.trans h
  | 1,h0,h1,h=>exact by show Kd.R (Kd.int .u8) 5 w_ W.heap.size (fun _=>True) (vals' 1) bb;rw[← h0];exact h
  | 2,h0,h1,h=>exact h0.symm.trans h
  | 3,h0,h1,h=>exact h0.symm.trans h
  | 4,h0,h1,h=>exact h0.symm.trans h
  | 5,h0,h1,h=>exact h0.symm.trans h
  | 6,h0,h1,h=>exact h0.symm.trans h
  | k+7,_,_,_=>exact trivial
 ·exact below_drew (zbo _ _)
 ·intro i o ho a w vals hfr hdp hG K hK
  match i,ho,hdp,hK with
  | 0,ho,hdp,hK=>
   obtain⟨hop,hds,hgd⟩:=jro (Op.load 48 (Operand.tmp 9)) 66 ho
   have e9:a.eval (.tmp 9)= .pointer (some ⟨g,0,none⟩):=jfr (hfr 9) h9
   have hblk_:=(hG.block _ (Array.getElem?_eq_some_iff.1 hblk).1).trans hblk;have hq0_:w.cell? ⟨g,0,none⟩=some (.int .i64 r1):=(zbi hblk_ 0).trans rfl;have hq1_:w.cell? ⟨g,1,none⟩=some (.string r2):=(zbi hblk_ 1).trans rfl;have hq2_:w.cell? ⟨g,2,none⟩=some (.int .i64 r3):=(zbi hblk_ 2).trans rfl;have hq3_:w.cell? ⟨g,3,none⟩=some (.int .i64 r4):=(zbi hblk_ 3).trans rfl;have hq4_:w.cell? ⟨g,4,none⟩=some (.slice A lb.length c):=(zbi hblk_ 4).trans rfl;have hu48:=Try.underlying48
   refine reg_val (w1:=w) ho hgd (.agg #[.int .i64 r1, .string r2, .int .i64 r3, .int .i64 r4, .slice A lb.length c]) (by unfold execOp;simp only[hop,e9];go_simp) ?_
   exact hK _ _ (upd_same _ _ _) hG (fun _ _ _ h=>h)
  | 1,ho,hdp,hK=>
   obtain⟨hop,hds,hgd⟩:=jro (Op.call {callee:=Callee.value (Operand.func 49),args:= #[(Operand.tmp 66)],argTypes:= #[48]}) 67 ho
   have C0:a.eval (.tmp 66)= .agg #[.int .i64 r1, .string r2, .int .i64 r3, .int .i64 r4, .slice A lb.length c]:=jdv (hdp 0)
   refine reg_call ho hgd (f:=49) Try.func49 (by kernel_rfl) rfl #[.agg #[.int .i64 r1, .string r2, .int .i64 r3, .int .i64 r4, .slice A lb.length c]] hop (by simp only[zek,zfb,zfl,C0]) ?_
   refine(impl_LineBytes.calls k r1 r2 r3 r4 (fun _=>True) _ _ lb bb w (Kd.V_mk hlb (Kd.F_mono (Kd.C_F (Kd.heap_int .u8) (zbc hCb hG)) (fun _ _=>trivial))) FL).mono ?_
   rintro e w1 ⟨v,rfl,hr,hb⟩
   exact⟨_,rfl,hK _ _ (show Kd.R (Kd.int .u8) 5 w1 W.heap.size (fun _=>True) (upd vals 1 v 1) bb from by rw[upd_same];exact zax (zam hr (fun _ _=>trivial)) hG.size) (zac hG hb) (fun j _ _ h=>hst vals w w1 hb j h)⟩
  | 2,ho,hdp,hK=>
   obtain⟨hop,hds,hgd⟩:=jro (Op.move (Operand.tmp 7)) 68 ho
   have x1_:a.eval (.tmp 7)= .slice (some ad) xs.length cx:=jfr (hfr 7) h7
   exact jrx ho hgd hK hG (.slice (some ad) xs.length cx)
  | 3,ho,hdp,hK=>
   obtain⟨hop,hds,hgd⟩:=jro (Op.move (Operand.tmp 10)) 69 ho
   have x1_:a.eval (.tmp 10)= .int .i64 (16+n+2):=jfr (hfr 10) h10
   exact jrx ho hgd hK hG (.int .i64 (16+n+2))
  | 4,ho,hdp,hK=>
   obtain⟨hop,hds,hgd⟩:=jro (Op.slice 29 (Operand.tmp 68) none (some (Operand.tmp 69)) none) 70 ho
   have D0:a.eval (.tmp 68)= .slice (some ad) xs.length cx:=jdv (hdp 2)
   have B0:a.eval (.tmp 69)= .int .i64 (16+n+2):=jdv (hdp 3)
   refine reg_val (w1:=w) ho hgd (.slice Ae le.length ce) (by unfold execOp;simp only[hop,D0,B0];simp only[Option.map_some,Option.map_none,B0];go_simp) ?_
   exact hK _ _ (upd_same _ _ _) hG (fun _ _ _ h=>h)
  | 5,ho,hdp,hK=>
   obtain⟨hop,hds,hgd⟩:=jro (Op.call {callee:=Callee.value (Operand.func 75),args:= #[(Operand.tmp 67),(Operand.tmp 70)],argTypes:= #[29,29]}) 71 ho
   have o0:a.eval (.tmp 67)=vals 1:=eval_tmp ((hdp 1 (dep_of (by kernel_rfl))).1 67 rfl)
   have fb_:=(hdp 1 (dep_of (by kernel_rfl))).2 (.inr (zaf _))
   obtain⟨Ay,cy,f1⟩:=zbd fb_
   replace o0:=o0.trans f1
   have fb2:Kd.R (Kd.int .u8) 5 w W.heap.size (fun _=>True) (vals 1) bb:=fb_
   rw[f1] at fb2
   have E0:a.eval (.tmp 70)= .slice Ae le.length ce:=jdv (hdp 4)
   refine reg_call ho hgd (f:=75) Try.func75 (by kernel_rfl) rfl #[.slice Ay bb.length cy, .slice Ae le.length ce] hop (by simp only[zek,zfb,zfl,o0,E0]) ?_
   refine(impl_Same.calls _ _ bb _ _ le s w (zbp fb2).2.2 (zbp fb2).2.1 (zbc hCe hG) hle FS).mono ?_
   rintro e w1 ⟨rfl,hb⟩
   replace hb:=Drawn0.below hb
   exact⟨_,rfl,hK _ _ (upd_same _ _ _) (zac hG hb) (fun j _ _ h=>hst vals w w1 hb j h)⟩
  | 6,ho,hdp,hK=>
   obtain⟨hop,hds,hgd⟩:=jro (Op.unOp UnOp.not 4 (Operand.tmp 71)) 72 ho
   have x1_:a.eval (.tmp 71)= .bool s:=jdv (hdp 5)
   exact jrx ho hgd hK hG (.bool (!s))
  | k+7,ho,_,_=>exact absurd (Array.getElem?_eq_some_iff.1 ho).1 (by rw[hn];omega)
 intro a w' vals hd hs hf hv hV hG
 have ha:=region_act hk hd hs hf hv
 have hN:∀ j,j<7→j<(opsOf Try.f56 11).size:=fun j h=>by rw[hn];exact h
 replace ha:a=(((((((a0.put (some 66) (vals 0)).put (some 67) (vals 1)).put (some 68) (vals 2)).put (some 69) (vals 3)).put (some 70) (vals 4)).put (some 71) (vals 5)).put (some 72) (vals 6)):=ha.trans (by rw[hn];rfl)
 rw[ha]
 rw[(hV 0 (hN 0 (by omega)) (zaf _):vals 0=_),(hV 2 (hN 2 (by omega)) (zaf _):vals 2=_),(hV 3 (hN 3 (by omega)) (zaf _):vals 3=_),(hV 4 (hN 4 (by omega)) (zaf _):vals 4=_),(hV 5 (hN 5 (by omega)) (zaf _):vals 5=_),(hV 6 (hN 6 (by omega)) (zaf _):vals 6=_)]
 exact hend w' (vals 1) hG
def impl_LineOf.g (k:Nat) (xs:List Int) (a1:Int):Option (Int×ByteArray×Int×Int×List Int×Int×Bool):=
 if(0≤rd xs 0∧rd xs 0≤255)∧(0≤rd xs 9∧rd xs 9≤255)∧(0≤rd xs 14∧rd xs 14≤255)∧(0≤rd xs 15∧rd xs 15≤255) then
  (if 18+(256*rd xs 14+rd xs 15)≤(xs.length:Int) then(impl_Hex.f k ((xs.take (9:Int).toNat).drop (1:Int).toNat)).bind fun route=>(impl_wordOf.f ((xs.take (14:Int).toNat).drop (10:Int).toNat) true).bind fun due=>(slices_Clone_byte_byte.f ((xs.take (16+(256*rd xs 14+rd xs 15)).toNat).drop (16:Int).toNat)).bind fun lr=>
   (impl_LineBytes.f k (rd xs 0) (if rd xs 0=3 then⟨#[]⟩ else route) (rd xs 9) due lr).bind fun b=>(impl_Same.f b (xs.take (16+(256*rd xs 14+rd xs 15)+2).toNat)).bind fun s=>
   if s=true then some (rd xs 0,(if rd xs 0=3 then⟨#[]⟩ else route),rd xs 9,due,lr,a1+(16+(256*rd xs 14+rd xs 15)+2),true) else some (0,⟨#[]⟩,0,0,[],0,false)
  else some (0,⟨#[]⟩,0,0,[],0,false)) else none
def impl_LineOf.f (k:Nat) (l0:List Int) (a1:Int):Option (Int×ByteArray×Int×Int×List Int×Int×Bool):=
 if(l0.length:Int)≤140737488355232 then(impl_in.f a1 0 ((l0.length:Int) - 16 - 2)).bind fun t=>if t=true then(if 0≤a1∧a1+18≤(l0.length:Int) then impl_LineOf.g k (l0.drop a1.toNat) a1 else none) else some (0,⟨#[]⟩,0,0,[],0,false) else none
theorem impl_LineOf.mono:∀ a0 a1 k,LeO (impl_LineOf.f k a0 a1) (impl_LineOf.f (k+1) a0 a1):=by
 intro a0 a1 k
 unfold impl_LineOf.f impl_LineOf.g
 have m0:=@impl_Hex.mono
 have m1:=@impl_LineBytes.mono
 exact mt
set_option maxHeartbeats 4000000 in
theorem impl_LineOf.out (A0:Option Addr) (c0:Nat) (l0:List Int) (a1:Int) (hl:(l0.length:Int)≤140737488355232) (fi:impl_in.f a1 0 ((l0.length:Int) - 16 - 2)=some false) (w:World):Calls Try.prog 56 #[.slice A0 l0.length c0, .int .i64 a1] w fun e w'=>∃ v4_:Value,e= .returned (.tuple #[.agg #[.int .i64 0, .string (⟨#[]⟩:ByteArray), .int .i64 0, .int .i64 0,v4_], .int .i64 0, .bool false])∧Kd.R (Kd.int .u8) 5 w' w.heap.size (fun _=>True) v4_ []∧Below w.heap.size w w':=by
 have FI:=Aside0.mk fi
 clear fi
 go_enter Try.func56,Try.ntmps56
 go_wp2_with (first | (refine jgd 4 ?_;refine bx 4 ([.int .i64 0, .string (⟨#[]⟩:ByteArray), .int .i64 0, .int .i64 0, .slice none 0 0].toArray) 48 ?_;intro gb hgb w1 hbox hb;have BK:=Aside0.mk hbox;have HB:=Aside0.mk hb;have HG:=Aside0.mk (zev hgb.symm);clear hbox hb hgb) | (refine jgc 91 ?_;refine jgs 16 Try.func91 #[.int .i64 a1, .int .i64 0, .int .i64 ((l0.length:Int) - 16 - 2)] ?_;(with_reducible refine(impl_in.calls a1 0 ((l0.length:Int) - 16 - 2) false _ FI.out).mono ?_);rintro e w2 ⟨rfl,hd⟩;refine⟨_,rfl,?_⟩;have HB1:=Aside0.mk (zac HB.out hd.below);have BK1:=Aside0.mk ((hd.below.block _ (Array.getElem?_eq_some_iff.1 BK.out).1).trans BK.out);clear HB BK hd) | ((with_reducible refine zet (t:=48) (p:=4) rfl ?_);refine put_whole 48 rfl rfl (.tmp 4) (.tmp 18) rfl [.int .i64 0, .string (⟨#[]⟩:ByteArray), .int .i64 0, .int .i64 0, .slice none 0 0] (.agg #[.int .i64 0, .string (⟨#[]⟩:ByteArray), .int .i64 0, .int .i64 0, .slice none 0 0]) rfl rfl BK1.out rfl rfl (by kernel_rfl) (by intro u hu;simp only[zdr,zct,zfu] at hu;rcases hu with rfl | rfl | rfl | rfl | rfl <;> rfl) (by simp) ?_;intro w3 hg_ hbw;have BW:=Aside0.mk hbw;have HB2:=Aside0.mk (zcw HB1.out (some gb) HB1.out.size hg_ (fun k_ e_=>by injection e_ with e_;rw[← e_];exact HG.out));have GR:=Aside0.mk hg_;clear hg_ hbw))
 refine zdp (zft rfl _ _ gb 48 [.int .i64 0, .string (⟨#[]⟩:ByteArray), .int .i64 0, .int .i64 0, .slice none 0 0].toArray (0,0) _ rfl BW.out Try.underlying48 rfl (by kernel_rfl)) rfl ?_
 exact⟨.slice none 0 0,rfl,zgo _ _ _ _ _,HB2.out⟩
set_option maxHeartbeats 4000000 in
theorem impl_LineOf.long (A0:Option Addr) (c0:Nat) (l0:List Int) (a1:Int) (hl:(l0.length:Int)≤140737488355232) (hx:0≤a1) (hx2:a1+18≤(l0.length:Int)) (fi:impl_in.f a1 0 ((l0.length:Int) - 16 - 2)=some true) (xs:List Int) (exs:xs=l0.drop a1.toNat) (h14:0≤rd xs 14∧rd xs 14≤255) (h15:0≤rd xs 15∧rd xs 15≤255) (n:Int) (hn:n=256*rd xs 14+rd xs 15) (hn3:(xs.length:Int)<18+n) (w:World) (hr0:Kd.C (Kd.int .u8) w A0 l0.length l0) (hc0:l0.length≤c0):Calls Try.prog 56 #[.slice A0 l0.length c0, .int .i64 a1] w fun e w'=>∃ v4_:Value,e= .returned (.tuple #[.agg #[.int .i64 0, .string (⟨#[]⟩:ByteArray), .int .i64 0, .int .i64 0,v4_], .int .i64 0, .bool false])∧Kd.R (Kd.int .u8) 5 w' w.heap.size (fun _=>True) v4_ []∧Below w.heap.size w w':=by
 have FI:=Aside0.mk fi
 clear fi
 have hxl:(xs.length:Int)=(l0.length:Int) - a1:=by rw[exs,zhi];omega
 have B0:18≤(xs.length:Int):=by omega
 obtain⟨Ax,cx,hcutx,hlx,hCx⟩:=cut_u8_from (P:=Try.prog) 29 5 Try.underlying29 info5 A0 c0 l0 a1 (by omega) (by omega) hc0
 rw[← exs] at hcutx hlx hCx
 have HX:=Aside0.mk (hCx w hr0)
 obtain⟨ad,rfl,_⟩:=(hCx w hr0).2.2 (by omega)
 clear hCx hr0 exs
 have hxm:(xs.length:Int)≤140737488355232:=by omega
 have d2:decide (n>(xs.length:Int) - 16 - 2)=true:=zae (by omega)
 have hn0:0≤n:=by omega
 have hn4:n≤65535:=by omega
 go_enter Try.func56,Try.ntmps56
 go_wp2_with (first | (refine jgd 4 ?_;refine bx 4 ([.int .i64 0, .string (⟨#[]⟩:ByteArray), .int .i64 0, .int .i64 0, .slice none 0 0].toArray) 48 ?_;intro gb hgb w1 hbox hb;have BK:=Aside0.mk hbox;have HB:=Aside0.mk hb;have HG:=Aside0.mk (zev hgb.symm);clear hbox hb hgb) | (refine jgc 91 ?_;refine jgs 16 Try.func91 #[.int .i64 a1, .int .i64 0, .int .i64 ((l0.length:Int) - 16 - 2)] ?_;(with_reducible refine(impl_in.calls a1 0 ((l0.length:Int) - 16 - 2) true _ FI.out).mono ?_);rintro e w2 ⟨rfl,hd⟩;refine⟨_,rfl,?_⟩;have o0:=Aside0.mk (zac HB.out hd.below);have C0:=Aside0.mk ((hd.below.block _ (Array.getElem?_eq_some_iff.1 BK.out).1).trans BK.out);clear HB BK hd))
 clear hcutx
 refine impl_LineOf.r4 cx xs ad B0 (fun w_ hd=>cell_u8 (zbc (zbc HX.out o0.out) hd.below) 14 (by omega) (by omega)) (fun w_ hd=>cell_u8 (zbc (zbc HX.out o0.out) hd.below) 15 (by omega) (by omega)) h14 h15 rfl rfl ?_
 intro w3 hd3
 rw[← hn]
 have E0:=Aside0.mk ((hd3.below.block _ (Array.getElem?_eq_some_iff.1 C0.out).1).trans C0.out)
 have D0:=Aside0.mk (zac o0.out hd3.below)
 have HN:=Aside0.mk hn
 clear hd3 hn C0 o0
 simp only[Act.put,zaq,zbj,zbk]
 go_wp2_with (first | ((with_reducible refine zet (t:=48) (p:=4) rfl ?_);refine put_whole 48 rfl rfl (.tmp 4) (.tmp 38) rfl [.int .i64 0, .string (⟨#[]⟩:ByteArray), .int .i64 0, .int .i64 0, .slice none 0 0] (.agg #[.int .i64 0, .string (⟨#[]⟩:ByteArray), .int .i64 0, .int .i64 0, .slice none 0 0]) rfl rfl E0.out rfl rfl (by kernel_rfl) (by intro u hu;simp only[zdr,zct,zfu] at hu;rcases hu with rfl | rfl | rfl | rfl | rfl <;> rfl) (by simp) ?_;intro w4 hg_ hbw;have BW:=Aside0.mk hbw;have HB2:=Aside0.mk (zcw D0.out (some gb) D0.out.size hg_ (fun k_ e_=>by injection e_ with e_;rw[← e_];exact HG.out));have GR:=Aside0.mk hg_;clear hg_ hbw))
 refine zdp (zft rfl _ _ gb 48 [.int .i64 0, .string (⟨#[]⟩:ByteArray), .int .i64 0, .int .i64 0, .slice none 0 0].toArray (0,0) _ rfl BW.out Try.underlying48 rfl (by kernel_rfl)) rfl ?_
 exact⟨.slice none 0 0,rfl,zgo _ _ _ _ _,HB2.out⟩
set_option maxHeartbeats 4000000 in
theorem impl_LineOf.yes (k:Nat) (A0:Option Addr) (c0:Nat) (l0:List Int) (a1:Int) (hl:(l0.length:Int)≤140737488355232) (hx:0≤a1) (hx2:a1+18≤(l0.length:Int)) (fi:impl_in.f a1 0 ((l0.length:Int) - 16 - 2)=some true) (xs:List Int) (exs:xs=l0.drop a1.toNat) (h14:0≤rd xs 14∧rd xs 14≤255) (h15:0≤rd xs 15∧rd xs 15≤255) (n:Int) (hn:n=256*rd xs 14+rd xs 15) (h0:0≤rd xs 0∧rd xs 0≤255) (h9:0≤rd xs 9∧rd xs 9≤255) (hn3:18+n≤(xs.length:Int)) (lh lw lb le lr bb:List Int) (due:Int) (route rt:ByteArray) (ert:rt=if rd xs 0=3 then⟨#[]⟩ else route)
  (elh:lh=(xs.take (9:Int).toNat).drop (1:Int).toNat) (elw:lw=(xs.take (14:Int).toNat).drop (10:Int).toNat) (elb:lb=(xs.take (16+n).toNat).drop (16:Int).toNat) (ele:le=xs.take (16+n+2).toNat)
  (FH:impl_Hex.f k lh=some route) (FW:impl_wordOf.f lw true=some due) (FC:slices_Clone_byte_byte.f lb=some lr) (FL:impl_LineBytes.f k (rd xs 0) rt (rd xs 9) due lr=some bb) (FS:impl_Same.f bb le=some true) (w:World) (hr0:Kd.C (Kd.int .u8) w A0 l0.length l0) (hc0:l0.length≤c0):Calls Try.prog 56 #[.slice A0 l0.length c0, .int .i64 a1] w fun e w'=>∃ v4_:Value,e= .returned (.tuple #[.agg #[.int .i64 (rd xs 0), .string rt, .int .i64 (rd xs 9), .int .i64 due,v4_], .int .i64 (a1+(16+n+2)), .bool true])∧Kd.R (Kd.int .u8) 5 w' w.heap.size (fun _=>True) v4_ lr∧Below w.heap.size w w':=by
 have FI:=Aside0.mk fi
 clear fi
 have hxl:(xs.length:Int)=(l0.length:Int) - a1:=by rw[exs,zhi];omega
 have I0:18≤(xs.length:Int):=by omega
 obtain⟨Ax,cx,hcutx,hlx,hCx⟩:=cut_u8_from (P:=Try.prog) 29 5 Try.underlying29 info5 A0 c0 l0 a1 (by omega) (by omega) hc0
 rw[← exs] at hcutx hlx hCx
 have HX:=Aside0.mk (hCx w hr0)
 obtain⟨ad,rfl,_⟩:=(hCx w hr0).2.2 (by omega)
 clear hCx hr0 exs
 have hxm:(xs.length:Int)≤140737488355232:=by omega
 have d2:decide (n>(xs.length:Int) - 16 - 2)=false:=zbf (by omega)
 have hn0:0≤n:=by omega
 have hn4:n≤65535:=by omega
 obtain⟨Ah,ch,hcuth,hlh,hCh⟩:=cut_u8 (P:=Try.prog) 29 5 Try.underlying29 info5 (some ad) cx xs (1) (9) (by omega) (by omega) (by omega) hlx
 obtain⟨Aw,cw,hcutw,hlw,hCw⟩:=cut_u8 (P:=Try.prog) 29 5 Try.underlying29 info5 (some ad) cx xs (10) (14) (by omega) (by omega) (by omega) hlx
 obtain⟨Ab,cb,hcutb,hlb,hCb⟩:=cut_u8 (P:=Try.prog) 29 5 Try.underlying29 info5 (some ad) cx xs (16) (16+n) (by omega) (by omega) (by omega) hlx
 obtain⟨Ae,ce,hcute,hle,hCe⟩:=cut_u8_to (P:=Try.prog) 29 5 Try.underlying29 info5 (some ad) cx xs (16+n+2) (by omega) (by omega) hlx
 rw[← elh] at hcuth hlh hCh
 rw[← elw] at hcutw hlw hCw
 rw[← elb] at hcutb hlb hCb
 rw[← ele] at hcute hle hCe
 have KKh:=Aside0.mk hcuth
 have Mh:=Aside0.mk hCh
 clear hCh hcuth
 have KKw:=Aside0.mk hcutw
 have Mw:=Aside0.mk hCw
 clear hCw hcutw
 have KKb:=Aside0.mk hcutb
 have Mb:=Aside0.mk hCb
 clear hCb hcutb
 have KKe:=Aside0.mk hcute
 have Me:=Aside0.mk hCe
 clear hCe hcute
 clear elh elw elb ele
 have ERT:=Aside0.mk ert
 clear ert
 have GH:=Aside0.mk FH
 clear FH
 have GW:=Aside0.mk FW
 clear FW
 have GC:=Aside0.mk FC
 clear FC
 have GL:=Aside0.mk FL
 clear FL
 have GS:=Aside0.mk FS
 clear FS
 go_enter Try.func56,Try.ntmps56
 go_wp2_with (first | (refine jgd 4 ?_;refine bx 4 ([.int .i64 0, .string (⟨#[]⟩:ByteArray), .int .i64 0, .int .i64 0, .slice none 0 0].toArray) 48 ?_;intro gb hgb w1 hbox hb;have BK:=Aside0.mk hbox;have HB:=Aside0.mk hb;have HG:=Aside0.mk (zev hgb.symm);clear hbox hb hgb) | (refine jgc 91 ?_;refine jgs 16 Try.func91 #[.int .i64 a1, .int .i64 0, .int .i64 ((l0.length:Int) - 16 - 2)] ?_;(with_reducible refine(impl_in.calls a1 0 ((l0.length:Int) - 16 - 2) true _ FI.out).mono ?_);rintro e w2 ⟨rfl,hd⟩;refine⟨_,rfl,?_⟩;have G0:=Aside0.mk (zac HB.out hd.below);have J0:=Aside0.mk ((hd.below.block _ (Array.getElem?_eq_some_iff.1 BK.out).1).trans BK.out);clear HB BK hd))
 clear hcutx
 refine impl_LineOf.r4 cx xs ad I0 (fun w_ hd=>cell_u8 (zbc (zbc HX.out G0.out) hd.below) 14 (by omega) (by omega)) (fun w_ hd=>cell_u8 (zbc (zbc HX.out G0.out) hd.below) 15 (by omega) (by omega)) h14 h15 rfl rfl ?_
 intro w3 hd3
 rw[← hn]
 have H0:=Aside0.mk ((hd3.below.block _ (Array.getElem?_eq_some_iff.1 J0.out).1).trans J0.out)
 have o0:=Aside0.mk (zac G0.out hd3.below)
 have HN:=Aside0.mk hn
 clear hd3 hn J0 G0
 simp only[Act.put,zaq,zbj,zbk]
 go_wp2
 refine impl_LineOf.r7 k cx ch cw cb xs lh lw lb lr ad Ah Aw Ab n due route hn0 hn3 hxm (fun w_ hb=>by have h_:=cell_u8 (zbc (zbc HX.out o0.out) hb) 0 (by omega) (by omega);exact h_) (fun w_ hb=>cell_u8 (zbc (zbc HX.out o0.out) hb) 9 (by omega) (by omega)) h0 h9 KKh.out (Mh.out _ (zbc HX.out o0.out)) hlh GH.out KKw.out (Mw.out _ (zbc HX.out o0.out)) hlw GW.out KKb.out (Mb.out _ (zbc HX.out o0.out)) hlb GC.out rfl rfl rfl ?_
 intro w7 g A c hb7 hg7 hblk hr7
 have HB7:=Aside0.mk (zac o0.out hb7)
 have K0:=Aside0.mk ((hb7.block _ (Array.getElem?_eq_some_iff.1 H0.out).1).trans H0.out)
 have HGN:=Aside0.mk (show gb<g from zch (Array.getElem?_eq_some_iff.1 H0.out).1 hg7)
 have HGW:=Aside0.mk (zcv o0.out.size hg7)
 have L0:=Aside0.mk (zax hr7 o0.out.size)
 have BG7:=Aside0.mk hblk
 clear hb7 hg7 hr7 o0 H0
 have hq0:w7.cell? ⟨g,0,none⟩=some (.int .i64 (rd xs 0)):=(zbi hblk 0).trans rfl
 clear hblk
 simp only[Act.put,zaq,zbj,zbk]
 by_cases hk3:rd xs 0=3
 ·have ER2:Aside0 (rt=⟨#[]⟩):=⟨by rw[ERT.out,if_pos hk3]⟩
  have GL2:Aside0 (impl_LineBytes.f k (rd xs 0) (⟨#[]⟩:ByteArray) (rd xs 9) due lr=some bb):=⟨by rw[← ER2.out];exact GL.out⟩
  rw[hk3] at hq0
  clear hk3
  go_wp2_with (first | ((with_reducible refine zet (t:=9) (p:=62) rfl ?_);refine put_part 9 48 rfl rfl (.tmp 62) (.const (.string (⟨#[]⟩:ByteArray))) rfl [.string (⟨#[]⟩:ByteArray)] [.int .i64 (rd xs 0), .string (⟨#[]⟩:ByteArray), .int .i64 (rd xs 9), .int .i64 due, .slice A lr.length c] (.string (⟨#[]⟩:ByteArray)) rfl rfl BG7.out rfl (by simp) rfl (by kernel_rfl) (by intro u hu;rw[List.mem_singleton.1 hu];rfl) ?_;intro w8 hg_ hw_;have BG8:=Aside0.mk hw_;have B0:=Aside0.mk ((hg_.block _ (Array.getElem?_eq_some_iff.1 K0.out).1 (fun e_=>by injection e_ with e_;have:=HGN.out;omega)).trans K0.out);have HR8:=Aside0.mk (Kd.R_grown1 L0.out rfl hg_ (zgk L0.out BG7.out (by decide)));have C0:=Aside0.mk (zcw HB7.out (some g) HB7.out.size hg_ (fun k_ e_=>by injection e_ with e_;rw[← e_];exact HGW.out));clear hg_ hw_))
  refine impl_LineOf.r11 k cx c g ce xs lr le bb ad A Ae n (rd xs 0) (rd xs 9) due (⟨#[]⟩) true hn0 hn3 hxm BG8.out (zbp HR8.out).2.2 (zbp HR8.out).2.1 GL2.out KKe.out (Me.out _ (zbc HX.out C0.out)) hle GS.out rfl rfl rfl rfl ?_
  intro w10 v67 hb10
  have D0:=Aside0.mk (zac C0.out hb10)
  have E0:=Aside0.mk ((hb10.block _ (Array.getElem?_eq_some_iff.1 B0.out).1).trans B0.out)
  have F0:=Aside0.mk (zdb HR8.out hb10)
  have BG9:=(hb10.block _ (Array.getElem?_eq_some_iff.1 BG8.out).1).trans BG8.out
  have hz0:w10.cell? ⟨g,0,none⟩=some (.int .i64 (rd xs 0)):=(zbi BG9 0).trans rfl
  have hz1:w10.cell? ⟨g,1,none⟩=some (.string (⟨#[]⟩:ByteArray)):=(zbi BG9 1).trans rfl
  have hz2:w10.cell? ⟨g,2,none⟩=some (.int .i64 (rd xs 9)):=(zbi BG9 2).trans rfl
  have hz3:w10.cell? ⟨g,3,none⟩=some (.int .i64 due):=(zbi BG9 3).trans rfl
  have hz4:w10.cell? ⟨g,4,none⟩=some (.slice A lr.length c):=(zbi BG9 4).trans rfl
  have M0:=Aside0.mk BG9
  clear BG9 hb10 hq0
  have hu48:=Try.underlying48
  simp only[Act.put,zaq,zbj,zbk]
  go_wp2_with (first | ((with_reducible refine zet (t:=48) (p:=4) rfl ?_);refine put_whole 48 rfl rfl (.tmp 4) (.tmp 74) rfl [.int .i64 (rd xs 0), .string (⟨#[]⟩:ByteArray), .int .i64 (rd xs 9), .int .i64 due, .slice A lr.length c] (.agg #[.int .i64 (rd xs 0), .string (⟨#[]⟩:ByteArray), .int .i64 (rd xs 9), .int .i64 due, .slice A lr.length c]) rfl rfl E0.out rfl rfl (by kernel_rfl) (by intro u hu;simp only[zdr,zct,zfu] at hu;rcases hu with rfl | rfl | rfl | rfl | rfl <;> rfl) (by simp) ?_;intro w12 hg_ hbw;have BW:=Aside0.mk hbw;have HB2:=Aside0.mk (zcw D0.out (some gb) D0.out.size hg_ (fun k_ e_=>by injection e_ with e_;rw[← e_];exact HG.out));have GR:=Aside0.mk hg_;clear hg_ hbw))
  refine zdp (zft rfl _ _ gb 48 [.int .i64 (rd xs 0), .string (⟨#[]⟩:ByteArray), .int .i64 (rd xs 9), .int .i64 due, .slice A lr.length c].toArray (0,0) _ rfl BW.out Try.underlying48 rfl (by kernel_rfl)) rfl ?_
  exact⟨.slice A lr.length c,by rw[ER2.out];rfl,Kd.R_grown1 F0.out rfl GR.out (zgk F0.out E0.out (by decide)),HB2.out⟩
 have ER2:Aside0 (rt=route):=⟨by rw[ERT.out,if_neg hk3]⟩
 have GL2:Aside0 (impl_LineBytes.f k (rd xs 0) (route:ByteArray) (rd xs 9) due lr=some bb):=⟨by rw[← ER2.out];exact GL.out⟩
 have d3:(rd xs 0==3)=false:=by rw[zau];exact hk3
 clear hk3
 have BG8:=BG7
 have B0:=K0
 have HR8:=L0
 have C0:=HB7
 go_wp2
 refine impl_LineOf.r11 k cx c g ce xs lr le bb ad A Ae n (rd xs 0) (rd xs 9) due (route) true hn0 hn3 hxm BG8.out (zbp HR8.out).2.2 (zbp HR8.out).2.1 GL2.out KKe.out (Me.out _ (zbc HX.out C0.out)) hle GS.out rfl rfl rfl rfl ?_
 intro w10 v67 hb10
 have D0:=Aside0.mk (zac C0.out hb10)
 have E0:=Aside0.mk ((hb10.block _ (Array.getElem?_eq_some_iff.1 B0.out).1).trans B0.out)
 have F0:=Aside0.mk (zdb HR8.out hb10)
 have BG9:=(hb10.block _ (Array.getElem?_eq_some_iff.1 BG8.out).1).trans BG8.out
 have hz0:w10.cell? ⟨g,0,none⟩=some (.int .i64 (rd xs 0)):=(zbi BG9 0).trans rfl
 have hz1:w10.cell? ⟨g,1,none⟩=some (.string (route:ByteArray)):=(zbi BG9 1).trans rfl
 have hz2:w10.cell? ⟨g,2,none⟩=some (.int .i64 (rd xs 9)):=(zbi BG9 2).trans rfl
 have hz3:w10.cell? ⟨g,3,none⟩=some (.int .i64 due):=(zbi BG9 3).trans rfl
 have hz4:w10.cell? ⟨g,4,none⟩=some (.slice A lr.length c):=(zbi BG9 4).trans rfl
 have M0:=Aside0.mk BG9
 clear BG9 hb10 hq0
 have hu48:=Try.underlying48
 simp only[Act.put,zaq,zbj,zbk]
 go_wp2_with (first | ((with_reducible refine zet (t:=48) (p:=4) rfl ?_);refine put_whole 48 rfl rfl (.tmp 4) (.tmp 74) rfl [.int .i64 (rd xs 0), .string (route:ByteArray), .int .i64 (rd xs 9), .int .i64 due, .slice A lr.length c] (.agg #[.int .i64 (rd xs 0), .string (route:ByteArray), .int .i64 (rd xs 9), .int .i64 due, .slice A lr.length c]) rfl rfl E0.out rfl rfl (by kernel_rfl) (by intro u hu;simp only[zdr,zct,zfu] at hu;rcases hu with rfl | rfl | rfl | rfl | rfl <;> rfl) (by simp) ?_;intro w12 hg_ hbw;have BW:=Aside0.mk hbw;have HB2:=Aside0.mk (zcw D0.out (some gb) D0.out.size hg_ (fun k_ e_=>by injection e_ with e_;rw[← e_];exact HG.out));have GR:=Aside0.mk hg_;clear hg_ hbw))
 refine zdp (zft rfl _ _ gb 48 [.int .i64 (rd xs 0), .string (route:ByteArray), .int .i64 (rd xs 9), .int .i64 due, .slice A lr.length c].toArray (0,0) _ rfl BW.out Try.underlying48 rfl (by kernel_rfl)) rfl ?_
 exact⟨.slice A lr.length c,by rw[ER2.out];rfl,Kd.R_grown1 F0.out rfl GR.out (zgk F0.out E0.out (by decide)),HB2.out⟩
set_option maxHeartbeats 4000000 in
theorem impl_LineOf.no (k:Nat) (A0:Option Addr) (c0:Nat) (l0:List Int) (a1:Int) (hl:(l0.length:Int)≤140737488355232) (hx:0≤a1) (hx2:a1+18≤(l0.length:Int)) (fi:impl_in.f a1 0 ((l0.length:Int) - 16 - 2)=some true) (xs:List Int) (exs:xs=l0.drop a1.toNat) (h14:0≤rd xs 14∧rd xs 14≤255) (h15:0≤rd xs 15∧rd xs 15≤255) (n:Int) (hn:n=256*rd xs 14+rd xs 15) (h0:0≤rd xs 0∧rd xs 0≤255) (h9:0≤rd xs 9∧rd xs 9≤255) (hn3:18+n≤(xs.length:Int)) (lh lw lb le lr bb:List Int) (due:Int) (route rt:ByteArray) (ert:rt=if rd xs 0=3 then⟨#[]⟩ else route)
  (elh:lh=(xs.take (9:Int).toNat).drop (1:Int).toNat) (elw:lw=(xs.take (14:Int).toNat).drop (10:Int).toNat) (elb:lb=(xs.take (16+n).toNat).drop (16:Int).toNat) (ele:le=xs.take (16+n+2).toNat)
  (FH:impl_Hex.f k lh=some route) (FW:impl_wordOf.f lw true=some due) (FC:slices_Clone_byte_byte.f lb=some lr) (FL:impl_LineBytes.f k (rd xs 0) rt (rd xs 9) due lr=some bb) (FS:impl_Same.f bb le=some false) (w:World) (hr0:Kd.C (Kd.int .u8) w A0 l0.length l0) (hc0:l0.length≤c0):Calls Try.prog 56 #[.slice A0 l0.length c0, .int .i64 a1] w fun e w'=>∃ v4_:Value,e= .returned (.tuple #[.agg #[.int .i64 0, .string (⟨#[]⟩:ByteArray), .int .i64 0, .int .i64 0,v4_], .int .i64 0, .bool false])∧Kd.R (Kd.int .u8) 5 w' w.heap.size (fun _=>True) v4_ []∧Below w.heap.size w w':=by
 have FI:=Aside0.mk fi
 clear fi
 have hxl:(xs.length:Int)=(l0.length:Int) - a1:=by rw[exs,zhi];omega
 have G0:18≤(xs.length:Int):=by omega
 obtain⟨Ax,cx,hcutx,hlx,hCx⟩:=cut_u8_from (P:=Try.prog) 29 5 Try.underlying29 info5 A0 c0 l0 a1 (by omega) (by omega) hc0
 rw[← exs] at hcutx hlx hCx
 have HX:=Aside0.mk (hCx w hr0)
 obtain⟨ad,rfl,_⟩:=(hCx w hr0).2.2 (by omega)
 clear hCx hr0 exs
 have hxm:(xs.length:Int)≤140737488355232:=by omega
 have d2:decide (n>(xs.length:Int) - 16 - 2)=false:=zbf (by omega)
 have hn0:0≤n:=by omega
 have hn4:n≤65535:=by omega
 obtain⟨Ah,ch,hcuth,hlh,hCh⟩:=cut_u8 (P:=Try.prog) 29 5 Try.underlying29 info5 (some ad) cx xs (1) (9) (by omega) (by omega) (by omega) hlx
 obtain⟨Aw,cw,hcutw,hlw,hCw⟩:=cut_u8 (P:=Try.prog) 29 5 Try.underlying29 info5 (some ad) cx xs (10) (14) (by omega) (by omega) (by omega) hlx
 obtain⟨Ab,cb,hcutb,hlb,hCb⟩:=cut_u8 (P:=Try.prog) 29 5 Try.underlying29 info5 (some ad) cx xs (16) (16+n) (by omega) (by omega) (by omega) hlx
 obtain⟨Ae,ce,hcute,hle,hCe⟩:=cut_u8_to (P:=Try.prog) 29 5 Try.underlying29 info5 (some ad) cx xs (16+n+2) (by omega) (by omega) hlx
 rw[← elh] at hcuth hlh hCh
 rw[← elw] at hcutw hlw hCw
 rw[← elb] at hcutb hlb hCb
 rw[← ele] at hcute hle hCe
 have KKh:=Aside0.mk hcuth
 have Mh:=Aside0.mk hCh
 clear hCh hcuth
 have KKw:=Aside0.mk hcutw
 have Mw:=Aside0.mk hCw
 clear hCw hcutw
 have KKb:=Aside0.mk hcutb
 have Mb:=Aside0.mk hCb
 clear hCb hcutb
 have KKe:=Aside0.mk hcute
 have Me:=Aside0.mk hCe
 clear hCe hcute
 clear elh elw elb ele
 have ERT:=Aside0.mk ert
 clear ert
 have GH:=Aside0.mk FH
 clear FH
 have GW:=Aside0.mk FW
 clear FW
 have GC:=Aside0.mk FC
 clear FC
 have GL:=Aside0.mk FL
 clear FL
 have GS:=Aside0.mk FS
 clear FS
 go_enter Try.func56,Try.ntmps56
 go_wp2_with (first | (refine jgd 4 ?_;refine bx 4 ([.int .i64 0, .string (⟨#[]⟩:ByteArray), .int .i64 0, .int .i64 0, .slice none 0 0].toArray) 48 ?_;intro gb hgb w1 hbox hb;have BK:=Aside0.mk hbox;have HB:=Aside0.mk hb;have HG:=Aside0.mk (zev hgb.symm);clear hbox hb hgb) | (refine jgc 91 ?_;refine jgs 16 Try.func91 #[.int .i64 a1, .int .i64 0, .int .i64 ((l0.length:Int) - 16 - 2)] ?_;(with_reducible refine(impl_in.calls a1 0 ((l0.length:Int) - 16 - 2) true _ FI.out).mono ?_);rintro e w2 ⟨rfl,hd⟩;refine⟨_,rfl,?_⟩;have E0:=Aside0.mk (zac HB.out hd.below);have H0:=Aside0.mk ((hd.below.block _ (Array.getElem?_eq_some_iff.1 BK.out).1).trans BK.out);clear HB BK hd))
 clear hcutx
 refine impl_LineOf.r4 cx xs ad G0 (fun w_ hd=>cell_u8 (zbc (zbc HX.out E0.out) hd.below) 14 (by omega) (by omega)) (fun w_ hd=>cell_u8 (zbc (zbc HX.out E0.out) hd.below) 15 (by omega) (by omega)) h14 h15 rfl rfl ?_
 intro w3 hd3
 rw[← hn]
 have F0:=Aside0.mk ((hd3.below.block _ (Array.getElem?_eq_some_iff.1 H0.out).1).trans H0.out)
 have o0:=Aside0.mk (zac E0.out hd3.below)
 have HN:=Aside0.mk hn
 clear hd3 hn H0 E0
 simp only[Act.put,zaq,zbj,zbk]
 go_wp2
 refine impl_LineOf.r7 k cx ch cw cb xs lh lw lb lr ad Ah Aw Ab n due route hn0 hn3 hxm (fun w_ hb=>by have h_:=cell_u8 (zbc (zbc HX.out o0.out) hb) 0 (by omega) (by omega);exact h_) (fun w_ hb=>cell_u8 (zbc (zbc HX.out o0.out) hb) 9 (by omega) (by omega)) h0 h9 KKh.out (Mh.out _ (zbc HX.out o0.out)) hlh GH.out KKw.out (Mw.out _ (zbc HX.out o0.out)) hlw GW.out KKb.out (Mb.out _ (zbc HX.out o0.out)) hlb GC.out rfl rfl rfl ?_
 intro w7 g A c hb7 hg7 hblk hr7
 have HB7:=Aside0.mk (zac o0.out hb7)
 have I0:=Aside0.mk ((hb7.block _ (Array.getElem?_eq_some_iff.1 F0.out).1).trans F0.out)
 have HGN:=Aside0.mk (show gb<g from zch (Array.getElem?_eq_some_iff.1 F0.out).1 hg7)
 have HGW:=Aside0.mk (zcv o0.out.size hg7)
 have J0:=Aside0.mk (zax hr7 o0.out.size)
 have BG7:=Aside0.mk hblk
 clear hb7 hg7 hr7 o0 F0
 have hq0:w7.cell? ⟨g,0,none⟩=some (.int .i64 (rd xs 0)):=(zbi hblk 0).trans rfl
 clear hblk
 simp only[Act.put,zaq,zbj,zbk]
 by_cases hk3:rd xs 0=3
 ·have ER2:Aside0 (rt=⟨#[]⟩):=⟨by rw[ERT.out,if_pos hk3]⟩
  have GL2:Aside0 (impl_LineBytes.f k (rd xs 0) (⟨#[]⟩:ByteArray) (rd xs 9) due lr=some bb):=⟨by rw[← ER2.out];exact GL.out⟩
  rw[hk3] at hq0
  clear hk3
  go_wp2_with (first | ((with_reducible refine zet (t:=9) (p:=62) rfl ?_);refine put_part 9 48 rfl rfl (.tmp 62) (.const (.string (⟨#[]⟩:ByteArray))) rfl [.string (⟨#[]⟩:ByteArray)] [.int .i64 (rd xs 0), .string (⟨#[]⟩:ByteArray), .int .i64 (rd xs 9), .int .i64 due, .slice A lr.length c] (.string (⟨#[]⟩:ByteArray)) rfl rfl BG7.out rfl (by simp) rfl (by kernel_rfl) (by intro u hu;rw[List.mem_singleton.1 hu];rfl) ?_;intro w8 hg_ hw_;have BG8:=Aside0.mk hw_;have B0:=Aside0.mk ((hg_.block _ (Array.getElem?_eq_some_iff.1 I0.out).1 (fun e_=>by injection e_ with e_;have:=HGN.out;omega)).trans I0.out);have HR8:=Aside0.mk (Kd.R_grown1 J0.out rfl hg_ (zgk J0.out BG7.out (by decide)));have C0:=Aside0.mk (zcw HB7.out (some g) HB7.out.size hg_ (fun k_ e_=>by injection e_ with e_;rw[← e_];exact HGW.out));clear hg_ hw_))
  refine impl_LineOf.r11 k cx c g ce xs lr le bb ad A Ae n (rd xs 0) (rd xs 9) due (⟨#[]⟩) false hn0 hn3 hxm BG8.out (zbp HR8.out).2.2 (zbp HR8.out).2.1 GL2.out KKe.out (Me.out _ (zbc HX.out C0.out)) hle GS.out rfl rfl rfl rfl ?_
  intro w10 v67 hb10
  have D0:=Aside0.mk (zac C0.out hb10)
  have K0:=Aside0.mk ((hb10.block _ (Array.getElem?_eq_some_iff.1 B0.out).1).trans B0.out)
  have L0:=Aside0.mk (zdb HR8.out hb10)
  clear hb10 hq0
  simp only[Act.put,zaq,zbj,zbk]
  go_wp2_with (first | ((with_reducible refine zet (t:=48) (p:=4) rfl ?_);refine put_whole 48 rfl rfl (.tmp 4) (.tmp 73) rfl [.int .i64 0, .string (⟨#[]⟩:ByteArray), .int .i64 0, .int .i64 0, .slice none 0 0] (.agg #[.int .i64 0, .string (⟨#[]⟩:ByteArray), .int .i64 0, .int .i64 0, .slice none 0 0]) rfl rfl K0.out rfl rfl (by kernel_rfl) (by intro u hu;simp only[zdr,zct,zfu] at hu;rcases hu with rfl | rfl | rfl | rfl | rfl <;> rfl) (by simp) ?_;intro w12 hg_ hbw;have BW:=Aside0.mk hbw;have HB2:=Aside0.mk (zcw D0.out (some gb) D0.out.size hg_ (fun k_ e_=>by injection e_ with e_;rw[← e_];exact HG.out));have GR:=Aside0.mk hg_;clear hg_ hbw))
  refine zdp (zft rfl _ _ gb 48 [.int .i64 0, .string (⟨#[]⟩:ByteArray), .int .i64 0, .int .i64 0, .slice none 0 0].toArray (0,0) _ rfl BW.out Try.underlying48 rfl (by kernel_rfl)) rfl ?_
  exact⟨.slice none 0 0,rfl,zgo _ _ _ _ _,HB2.out⟩
 have ER2:Aside0 (rt=route):=⟨by rw[ERT.out,if_neg hk3]⟩
 have GL2:Aside0 (impl_LineBytes.f k (rd xs 0) (route:ByteArray) (rd xs 9) due lr=some bb):=⟨by rw[← ER2.out];exact GL.out⟩
 have d3:(rd xs 0==3)=false:=by rw[zau];exact hk3
 clear hk3
 have BG8:=BG7
 have B0:=I0
 have HR8:=J0
 have C0:=HB7
 go_wp2
 refine impl_LineOf.r11 k cx c g ce xs lr le bb ad A Ae n (rd xs 0) (rd xs 9) due (route) false hn0 hn3 hxm BG8.out (zbp HR8.out).2.2 (zbp HR8.out).2.1 GL2.out KKe.out (Me.out _ (zbc HX.out C0.out)) hle GS.out rfl rfl rfl rfl ?_
 intro w10 v67 hb10
 have D0:=Aside0.mk (zac C0.out hb10)
 have K0:=Aside0.mk ((hb10.block _ (Array.getElem?_eq_some_iff.1 B0.out).1).trans B0.out)
 have L0:=Aside0.mk (zdb HR8.out hb10)
 clear hb10 hq0
 simp only[Act.put,zaq,zbj,zbk]
 go_wp2_with (first | ((with_reducible refine zet (t:=48) (p:=4) rfl ?_);refine put_whole 48 rfl rfl (.tmp 4) (.tmp 73) rfl [.int .i64 0, .string (⟨#[]⟩:ByteArray), .int .i64 0, .int .i64 0, .slice none 0 0] (.agg #[.int .i64 0, .string (⟨#[]⟩:ByteArray), .int .i64 0, .int .i64 0, .slice none 0 0]) rfl rfl K0.out rfl rfl (by kernel_rfl) (by intro u hu;simp only[zdr,zct,zfu] at hu;rcases hu with rfl | rfl | rfl | rfl | rfl <;> rfl) (by simp) ?_;intro w12 hg_ hbw;have BW:=Aside0.mk hbw;have HB2:=Aside0.mk (zcw D0.out (some gb) D0.out.size hg_ (fun k_ e_=>by injection e_ with e_;rw[← e_];exact HG.out));have GR:=Aside0.mk hg_;clear hg_ hbw))
 refine zdp (zft rfl _ _ gb 48 [.int .i64 0, .string (⟨#[]⟩:ByteArray), .int .i64 0, .int .i64 0, .slice none 0 0].toArray (0,0) _ rfl BW.out Try.underlying48 rfl (by kernel_rfl)) rfl ?_
 exact⟨.slice none 0 0,rfl,zgo _ _ _ _ _,HB2.out⟩
theorem impl_LineOf.calls (k:Nat) (A0:Option Addr) (c0:Nat) (l0:List Int) (a1:Int) (r1:Int) (r2:ByteArray) (r3:Int) (r4:Int) (r5:List Int) (r6:Int) (r7:Bool) (w:World) (hr0:Kd.C (Kd.int .u8) w A0 l0.length l0) (hc0:l0.length≤c0) (h:impl_LineOf.f k l0 a1=some (r1,r2,r3,r4,r5,r6,r7)):
  Calls Try.prog 56 #[.slice A0 l0.length c0, .int .i64 a1] w fun e w'=>∃ v4_:Value,e= .returned (.tuple #[.agg #[.int .i64 r1, .string r2, .int .i64 r3, .int .i64 r4,v4_], .int .i64 r6, .bool r7])∧Kd.R (Kd.int .u8) 5 w' w.heap.size (fun _=>True) v4_ r5∧Below w.heap.size w w':=by
 have nope:some ((0:Int),(⟨#[]⟩:ByteArray),(0:Int),(0:Int),([]:List Int),(0:Int),false)=some (r1,r2,r3,r4,r5,r6,r7)→0=r1∧(⟨#[]⟩:ByteArray)=r2∧0=r3∧0=r4∧[]=r5∧0=r6∧false=r7:=by
  intro h
  simpa only[zaz,zbn] using h
 unfold impl_LineOf.f at h
 by_cases c1:(l0.length:Int)≤140737488355232
 ·rw[if_pos c1] at h
  obtain⟨b,hi,h⟩:=zcq.1 h
  cases b with
  | false=>
   rw[if_neg (by decide)] at h
   obtain⟨rfl,rfl,rfl,rfl,rfl,rfl,rfl⟩:=nope h
   exact impl_LineOf.out A0 c0 l0 a1 c1 hi w
  | true=>
   rw[if_pos rfl] at h
   by_cases c2:0≤a1∧a1+18≤(l0.length:Int)
   ·rw[if_pos c2] at h
    obtain⟨xs,exs⟩:∃ xs,xs=l0.drop a1.toNat:=⟨_,rfl⟩
    rw[← exs] at h
    unfold impl_LineOf.g at h
    by_cases c3:(0≤rd xs 0∧rd xs 0≤255)∧(0≤rd xs 9∧rd xs 9≤255)∧(0≤rd xs 14∧rd xs 14≤255)∧(0≤rd xs 15∧rd xs 15≤255)
    ·rw[if_pos c3] at h
     obtain⟨b0,b9,b14,b15⟩:=c3
     by_cases c4:18+(256*rd xs 14+rd xs 15)≤(xs.length:Int)
     ·rw[if_pos c4] at h
      obtain⟨route,ht,h⟩:=zcq.1 h
      obtain⟨due,hd,h⟩:=zcq.1 h
      obtain⟨lr,hc,h⟩:=zcq.1 h
      obtain⟨bb,hb,h⟩:=zcq.1 h
      obtain⟨s,hs,h⟩:=zcq.1 h
      cases s with
      | true=>
       rw[if_pos rfl] at h
       simp only[zaz,zbn] at h
       obtain⟨rfl,rfl,rfl,rfl,rfl,rfl,rfl⟩:=h
       exact impl_LineOf.yes k A0 c0 l0 a1 c1 c2.1 c2.2 hi xs exs b14 b15 _ rfl b0 b9 c4 _ _ _ _ lr bb due route _ rfl rfl rfl rfl rfl ht hd hc hb hs w hr0 hc0
      | false=>
       rw[if_neg (by decide)] at h
       obtain⟨rfl,rfl,rfl,rfl,rfl,rfl,rfl⟩:=nope h
       exact impl_LineOf.no k A0 c0 l0 a1 c1 c2.1 c2.2 hi xs exs b14 b15 _ rfl b0 b9 c4 _ _ _ _ lr bb due route _ rfl rfl rfl rfl rfl ht hd hc hb hs w hr0 hc0
     rw[if_neg c4] at h
     obtain⟨rfl,rfl,rfl,rfl,rfl,rfl,rfl⟩:=nope h
     exact impl_LineOf.long A0 c0 l0 a1 c1 c2.1 c2.2 hi xs exs b14 b15 _ rfl (by omega) w hr0 hc0
    rw[if_neg c3] at h
    cases h
   rw[if_neg c2] at h
   cases h
 rw[if_neg c1] at h
 cases h
end Go.Proofs.Ytlalkldjpniakaa.P
