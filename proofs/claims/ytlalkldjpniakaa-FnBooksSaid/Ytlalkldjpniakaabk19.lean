import Derived.IntWalk
import Derived.Test.Ytlalkldjpniakaabk14
import Derived.Test.Ytlalkldjpniakaabk17
import Derived.Test.Ytlalkldjpniakaabk18
namespace Go.Proofs.Ytlalkldjpniakaa.P
open Go.RowKit Go.Proofs.YtlalkldjpniakaaW.PrintWords Go.Proofs.YtlalkldjpniakaaW.PrintLast Go.Proofs.YtlalkldjpniakaaW.PrintMore
attribute [local go_sem] zck zcl zdl zdm zbz zca zcm zcn -- for this text's walks alone
set_option linter.unusedVariables false
set_option linter.unusedSimpArgs false
set_option maxHeartbeats 8000000
set_option maxRecDepth 100000

set_option maxHeartbeats 4000000 in
theorem spec_LineOf.r3 {Q:Exit→Act→World→Prop} {a0:Act} {W:World} (A0:Option Addr) (c0:Nat) (l0:List Int) (ad:Addr) (x:Int) (hx:0≤x) (hx2:x+18≤(l0.length:Int)) (hl:(l0.length:Int)≤9223372036854775807) (hc14:∀ w_:World,Drawn0 W w_→w_.cell? (ad.add (x+14).toNat)=some (.int .u8 (rd l0 (x+14)))) (hc15:∀ w_:World,Drawn0 W w_→w_.cell? (ad.add (x+15).toNat)=some (.int .u8 (rd l0 (x+15)))) (hb14:0≤rd l0 (x+14)∧rd l0 (x+14)≤255) (hb15:0≤rd l0 (x+15)∧rd l0 (x+15)≤255) (hsz:a0.tmps.size=102) (h0:a0.tmps[0]? =some (.slice (some ad) l0.length c0)) (h1:a0.tmps[1]? =some (.int .i64 x))
  (hend:∀ w',Drawn0 W w'→Q .normal (((((((((((((((a0.put (some 20) (.slice (some ad) l0.length c0)).put (some 21) (.int .i64 x)).put (some 22) (.int .i64 (x+14))).put (some 23) (.pointer (some (ad.add (x+14).toNat)))).put (some 24) (.int .u8 (rd l0 (x+14)))).put (some 25) (.int .i64 (rd l0 (x+14)))).put (some 26) (.int .i64 (256*rd l0 (x+14)))).put (some 27) (.slice (some ad) l0.length c0)).put (some 28) (.int .i64 x)).put (some 29) (.int .i64 (x+15))).put (some 30) (.pointer (some (ad.add (x+15).toNat)))).put (some 31) (.int .u8 (rd l0 (x+15)))).put (some 32) (.int .i64 (rd l0 (x+15)))).put (some 33) (.int .i64 (256*rd l0 (x+14)+rd l0 (x+15)))).put (some 7) (.int .i64 (256*rd l0 (x+14)+rd l0 (x+15)))) w'):(Code.region 3 (opsOf Try.f54 3) true).wp Try.prog Q a0 W:=by
 have hn:(opsOf Try.f54 3).size=15:=by kernel_rfl
 have hk:regOk (opsOf Try.f54 3) a0.tmps.size=true:=by rw[hsz];kernel_rfl
 have hst:jSta (fun j=>([fun vals w_=>vals 0= .slice (some ad) l0.length c0,fun vals w_=>vals 1= .int .i64 x,fun vals w_=>vals 2= .int .i64 (x+14),fun vals w_=>vals 3= .pointer (some (ad.add (x+14).toNat)),fun vals w_=>vals 4= .int .u8 (rd l0 (x+14)),fun vals w_=>vals 5= .int .i64 (rd l0 (x+14)),fun vals w_=>vals 6= .int .i64 (256*rd l0 (x+14)),fun vals w_=>vals 7= .slice (some ad) l0.length c0,fun vals w_=>vals 8= .int .i64 x,fun vals w_=>vals 9= .int .i64 (x+15),fun vals w_=>vals 10= .pointer (some (ad.add (x+15).toNat)),fun vals w_=>vals 11= .int .u8 (rd l0 (x+15)),fun vals w_=>vals 12= .int .i64 (rd l0 (x+15)),fun vals w_=>vals 13= .int .i64 (256*rd l0 (x+14)+rd l0 (x+15)),fun vals w_=>vals 14= .int .i64 (256*rd l0 (x+14)+rd l0 (x+15))]:List ((Nat→Value)→World→Prop)).getD j (fun _ _=>True)):=by
  intro vals w_ w1 hb j h
  match j,h with
  | 0,h=>exact h
  | 1,h=>exact h
  | 2,h=>exact h
  | 3,h=>exact h
  | 4,h=>exact h
  | 5,h=>exact h
  | 6,h=>exact h
  | 7,h=>exact h
  | 8,h=>exact h
  | 9,h=>exact h
  | 10,h=>exact h
  | 11,h=>exact h
  | 12,h=>exact h
  | 13,h=>exact h
  | 14,h=>exact h
  | k+15,_=>exact trivial
 refine region_inv (by kernel_rfl) (jV hst) (fun w_=>Drawn0 W w_) (fun j=>(opsOf Try.f54 3).size) hk ?_ ?_ ?_ ?_
 ·intro j vals vals' w_ h0 h1 h
  match j,h0,h1,h with
  | 0,h0,h1,h=>exact h0.symm.trans h
  | 1,h0,h1,h=>exact h0.symm.trans h
  | 2,h0,h1,h=>exact h0.symm.trans h
  | 3,h0,h1,h=>exact h0.symm.trans h
  | 4,h0,h1,h=>exact h0.symm.trans h
  | 5,h0,h1,h=>exact h0.symm.trans h
  | 6,h0,h1,h=>exact h0.symm.trans h
  | 7,h0,h1,h=>exact h0.symm.trans h
  | 8,h0,h1,h=>exact h0.symm.trans h
  | 9,h0,h1,h=>exact h0.symm.trans h
  | 10,h0,h1,h=>exact h0.symm.trans h
  | 11,h0,h1,h=>exact h0.symm.trans h
  | 12,h0,h1,h=>exact h0.symm.trans h
  | 13,h0,h1,h=>exact h0.symm.trans h
  | 14,h0,h1,h=>exact h0.symm.trans h
  | k+15,_,_,_=>exact trivial
 ·exact⟨⟨1,rfl⟩⟩
 ·intro i o ho a w vals hfr hdp hG K hK
  match i,ho,hdp,hK with
  | 0,ho,hdp,hK=>
   obtain⟨hop,hds,hgd⟩:=jro (Op.move (Operand.tmp 0)) 20 ho
   have x1_:a.eval (.tmp 0)= .slice (some ad) l0.length c0:=jfr (hfr 0) h0
   exact jrx ho hgd hK hG (.slice (some ad) l0.length c0)
  | 1,ho,hdp,hK=>
   obtain⟨hop,hds,hgd⟩:=jro (Op.move (Operand.tmp 1)) 21 ho
   have x1_:a.eval (.tmp 1)= .int .i64 x:=jfr (hfr 1) h1
   exact jrx ho hgd hK hG (.int .i64 x)
  | 2,ho,hdp,hK=>
   obtain⟨hop,hds,hgd⟩:=jro (Op.binOp BinOp.add 3 (Operand.tmp 21) (Operand.const (Value.int IntKind.i64 14)) 3) 22 ho
   have x1_:a.eval (.tmp 21)= .int .i64 x:=jdv (hdp 1)
   have q_:IntKind.i64.wrap (x+14)=x+14:=zdy _ (by omega)
   exact jrx ho hgd hK hG (.int .i64 (x+14))
  | 3,ho,hdp,hK=>
   obtain⟨hop,hds,hgd⟩:=jro (Op.indexAddr 29 (Operand.tmp 20) (Operand.tmp 22)) 23 ho
   have x1_:a.eval (.tmp 20)= .slice (some ad) l0.length c0:=jdv (hdp 0)
   have x2_:a.eval (.tmp 22)= .int .i64 (x+14):=jdv (hdp 2)
   have p_:(0≤x+14)=True:=zbr (by omega);have q_:(x+14<(l0.length:Int))=True:=zbr (by omega)
   exact jrx ho hgd hK hG (.pointer (some (ad.add (x+14).toNat)))
  | 4,ho,hdp,hK=>
   obtain⟨hop,hds,hgd⟩:=jro (Op.load 5 (Operand.tmp 23)) 24 ho
   have x1_:a.eval (.tmp 23)= .pointer (some (ad.add (x+14).toNat)):=jdv (hdp 3)
   have q_:=hc14 w hG
   exact jrx ho hgd hK hG (.int .u8 (rd l0 (x+14)))
  | 5,ho,hdp,hK=>
   obtain⟨hop,hds,hgd⟩:=jro (Op.convert 5 3 (Operand.tmp 24)) 25 ho
   have x1_:a.eval (.tmp 24)= .int .u8 (rd l0 (x+14)):=jdv (hdp 4)
   have q_:IntKind.i64.wrap (rd l0 (x+14))=rd l0 (x+14):=zdy _ (by omega)
   exact jrx ho hgd hK hG (.int .i64 (rd l0 (x+14)))
  | 6,ho,hdp,hK=>
   obtain⟨hop,hds,hgd⟩:=jro (Op.binOp BinOp.mul 3 (Operand.const (Value.int IntKind.i64 256)) (Operand.tmp 25) 3) 26 ho
   have x1_:a.eval (.tmp 25)= .int .i64 (rd l0 (x+14)):=jdv (hdp 5)
   have q_:IntKind.i64.wrap (256*rd l0 (x+14))=256*rd l0 (x+14):=zdy _ (by omega)
   exact jrx ho hgd hK hG (.int .i64 (256*rd l0 (x+14)))
  | 7,ho,hdp,hK=>
   obtain⟨hop,hds,hgd⟩:=jro (Op.move (Operand.tmp 0)) 27 ho
   have x1_:a.eval (.tmp 0)= .slice (some ad) l0.length c0:=jfr (hfr 0) h0
   exact jrx ho hgd hK hG (.slice (some ad) l0.length c0)
  | 8,ho,hdp,hK=>
   obtain⟨hop,hds,hgd⟩:=jro (Op.move (Operand.tmp 1)) 28 ho
   have x1_:a.eval (.tmp 1)= .int .i64 x:=jfr (hfr 1) h1
   exact jrx ho hgd hK hG (.int .i64 x)
  | 9,ho,hdp,hK=>
   obtain⟨hop,hds,hgd⟩:=jro (Op.binOp BinOp.add 3 (Operand.tmp 28) (Operand.const (Value.int IntKind.i64 15)) 3) 29 ho
   have x1_:a.eval (.tmp 28)= .int .i64 x:=jdv (hdp 8)
   have q_:IntKind.i64.wrap (x+15)=x+15:=zdy _ (by omega)
   exact jrx ho hgd hK hG (.int .i64 (x+15))
  | 10,ho,hdp,hK=>
   obtain⟨hop,hds,hgd⟩:=jro (Op.indexAddr 29 (Operand.tmp 27) (Operand.tmp 29)) 30 ho
   have x1_:a.eval (.tmp 27)= .slice (some ad) l0.length c0:=jdv (hdp 7)
   have x2_:a.eval (.tmp 29)= .int .i64 (x+15):=jdv (hdp 9)
   have p_:(0≤x+15)=True:=zbr (by omega);have q_:(x+15<(l0.length:Int))=True:=zbr (by omega)
   exact jrx ho hgd hK hG (.pointer (some (ad.add (x+15).toNat)))
  | 11,ho,hdp,hK=>
   obtain⟨hop,hds,hgd⟩:=jro (Op.load 5 (Operand.tmp 30)) 31 ho
   have x1_:a.eval (.tmp 30)= .pointer (some (ad.add (x+15).toNat)):=jdv (hdp 10)
   have q_:=hc15 w hG
   exact jrx ho hgd hK hG (.int .u8 (rd l0 (x+15)))
  | 12,ho,hdp,hK=>
   obtain⟨hop,hds,hgd⟩:=jro (Op.convert 5 3 (Operand.tmp 31)) 32 ho
   have x1_:a.eval (.tmp 31)= .int .u8 (rd l0 (x+15)):=jdv (hdp 11)
   have q_:IntKind.i64.wrap (rd l0 (x+15))=rd l0 (x+15):=zdy _ (by omega)
   exact jrx ho hgd hK hG (.int .i64 (rd l0 (x+15)))
  | 13,ho,hdp,hK=>
   obtain⟨hop,hds,hgd⟩:=jro (Op.binOp BinOp.add 3 (Operand.tmp 26) (Operand.tmp 32) 3) 33 ho
   have x1_:a.eval (.tmp 26)= .int .i64 (256*rd l0 (x+14)):=jdv (hdp 6)
   have x2_:a.eval (.tmp 32)= .int .i64 (rd l0 (x+15)):=jdv (hdp 12)
   have q_:IntKind.i64.wrap (256*rd l0 (x+14)+rd l0 (x+15))=256*rd l0 (x+14)+rd l0 (x+15):=zdy _ (by omega)
   exact jrx ho hgd hK hG (.int .i64 (256*rd l0 (x+14)+rd l0 (x+15)))
  | 14,ho,hdp,hK=>
   obtain⟨hop,hds,hgd⟩:=jro (Op.assign (Operand.tmp 33)) 7 ho
   have x1_:a.eval (.tmp 33)= .int .i64 (256*rd l0 (x+14)+rd l0 (x+15)):=jdv (hdp 13)
   exact jrx ho hgd hK hG (.int .i64 (256*rd l0 (x+14)+rd l0 (x+15)))
  | k+15,ho,_,_=>exact absurd (Array.getElem?_eq_some_iff.1 ho).1 (by rw[hn];omega)
 intro a w' vals hd hs hf hv hV hG
 have ha:=region_act hk hd hs hf hv
 have hN:∀ j,j<15→j<(opsOf Try.f54 3).size:=fun j h=>by rw[hn];exact h
 replace ha:a=(((((((((((((((a0.put (some 20) (vals 0)).put (some 21) (vals 1)).put (some 22) (vals 2)).put (some 23) (vals 3)).put (some 24) (vals 4)).put (some 25) (vals 5)).put (some 26) (vals 6)).put (some 27) (vals 7)).put (some 28) (vals 8)).put (some 29) (vals 9)).put (some 30) (vals 10)).put (some 31) (vals 11)).put (some 32) (vals 12)).put (some 33) (vals 13)).put (some 7) (vals 14)):=ha.trans (by rw[hn];rfl)
 rw[ha]
 rw[(hV 0 (hN 0 (by omega)) (zaf _):vals 0=_),(hV 1 (hN 1 (by omega)) (zaf _):vals 1=_),(hV 2 (hN 2 (by omega)) (zaf _):vals 2=_),(hV 3 (hN 3 (by omega)) (zaf _):vals 3=_),(hV 4 (hN 4 (by omega)) (zaf _):vals 4=_),(hV 5 (hN 5 (by omega)) (zaf _):vals 5=_),(hV 6 (hN 6 (by omega)) (zaf _):vals 6=_),(hV 7 (hN 7 (by omega)) (zaf _):vals 7=_),(hV 8 (hN 8 (by omega)) (zaf _):vals 8=_),(hV 9 (hN 9 (by omega)) (zaf _):vals 9=_),(hV 10 (hN 10 (by omega)) (zaf _):vals 10=_),(hV 11 (hN 11 (by omega)) (zaf _):vals 11=_),(hV 12 (hN 12 (by omega)) (zaf _):vals 12=_),(hV 13 (hN 13 (by omega)) (zaf _):vals 13=_),(hV 14 (hN 14 (by omega)) (zaf _):vals 14=_)]
 exact hend w' hG
set_option maxHeartbeats 4000000 in
theorem spec_LineOf.r7 {Q:Exit→Act→World→Prop} {a0:Act} {W:World} (k:Nat) (c0 cd ch cb:Nat) (l0 due lh lb:List Int) (ad dd:Addr) (Ah Ab:Option Addr) (x n:Int) (route:ByteArray) (hx:0≤x) (hn0:0≤n) (hx2:x+18+n≤(l0.length:Int)) (hl:(l0.length:Int)≤140737488355232)
  (hc0:∀ w_:World,Below W.heap.size W w_→w_.cell? (ad.add x.toNat)=some (.int .u8 (rd l0 x))) (hc9:∀ w_:World,Below W.heap.size W w_→w_.cell? (ad.add (x+9).toNat)=some (.int .u8 (rd l0 (x+9)))) (hb0:0≤rd l0 x∧rd l0 x≤255) (hb9:0≤rd l0 (x+9)∧rd l0 (x+9)≤255)
  (hd:0<due.length) (hcd:∀ w_:World,Below W.heap.size W w_→w_.cell? dd=some (.int .i64 (rd due 0)))
  (hcut1:∀ W:World,(Instr.slice 29 (.slice (some ad) l0.length c0) (some (.int .i64 (x+1))) (some (.int .i64 (x+9))) none).run Try.prog W= .ok (.slice Ah lh.length ch) W) (hCh:Kd.C (Kd.int .u8) W Ah lh.length lh) (hlh:lh.length≤ch) (FH:spec_Hex.f k lh=some route)
  (hcut2:∀ W:World,(Instr.slice 29 (.slice (some ad) l0.length c0) (some (.int .i64 (x+16))) (some (.int .i64 (x+16+n))) none).run Try.prog W= .ok (.slice Ab lb.length cb) W) (hCb:Kd.C (Kd.int .u8) W Ab lb.length lb) (hlb:lb.length≤cb) (L0:lb.length≤l0.length) (hsz:a0.tmps.size=102) (h0:a0.tmps[0]? =some (.slice (some ad) l0.length c0)) (h1:a0.tmps[1]? =some (.int .i64 x)) (h7:a0.tmps[7]? =some (.int .i64 n)) (h8:a0.tmps[8]? =some (.slice (some dd) due.length cd))
  (hend:∀ (w':World) (g:Nat) (A:Option Addr) (c:Nat) (v70:Value),Below W.heap.size W w'→W.heap.size≤g→w'.heap[g]? =some (.cells [.int .i64 (rd l0 x), .string route, .int .i64 (rd l0 (x+9)), .int .i64 (rd due 0), .slice A lb.length c].toArray 48 (0,0))→Kd.R (Kd.int .u8) 5 w' W.heap.size (fun _=>True) (.slice A lb.length c) lb→Q .normal (((((((((((((((((((((((((((((((((a0.put (some 49) (.slice (some ad) l0.length c0)).put (some 50) (.int .i64 x)).put (some 51) (.pointer (some (ad.add x.toNat)))).put (some 52) (.int .u8 (rd l0 x))).put (some 53) (.int .i64 (rd l0 x))).put (some 54) (.slice (some ad) l0.length c0)).put (some 55) (.int .i64 x)).put (some 56) (.int .i64 (x+1))).put (some 57) (.int .i64 x)).put (some 58) (.int .i64 (x+9))).put (some 59) (.slice Ah lh.length ch)).put (some 60) (.string route)).put (some 61) (.slice (some ad) l0.length c0)).put (some 62) (.int .i64 x)).put (some 63) (.int .i64 (x+9))).put (some 64) (.pointer (some (ad.add (x+9).toNat)))).put (some 65) (.int .u8 (rd l0 (x+9)))).put (some 66) (.int .i64 (rd l0 (x+9)))).put (some 67) (.slice (some dd) due.length cd)).put (some 68) (.pointer (some dd))).put (some 69) (.int .i64 (rd due 0))).put (some 70) (v70)).put (some 71) (.slice (some ad) l0.length c0)).put (some 72) (.int .i64 x)).put (some 73) (.int .i64 (x+16))).put (some 74) (.int .i64 x)).put (some 75) (.int .i64 (x+16))).put (some 76) (.int .i64 n)).put (some 77) (.int .i64 (x+16+n))).put (some 78) (.slice Ab lb.length cb)).put (some 79) (.slice A lb.length c)).put (some 80) (.agg #[.int .i64 (rd l0 x), .string route, .int .i64 (rd l0 (x+9)), .int .i64 (rd due 0), .slice A lb.length c])).put (some 9) (.pointer (some ⟨g,0,none⟩))) w'):(Code.region 7 (opsOf Try.f54 7) true).wp Try.prog Q a0 W:=by
 have hn:(opsOf Try.f54 7).size=34:=by kernel_rfl
 have hk:regOk (opsOf Try.f54 7) a0.tmps.size=true:=by rw[hsz];kernel_rfl
 have hst:jSta (fun j=>([fun vals w_=>vals 0= .slice (some ad) l0.length c0,fun vals w_=>vals 1= .int .i64 x,fun vals w_=>vals 2= .pointer (some (ad.add x.toNat)),fun vals w_=>vals 3= .int .u8 (rd l0 x),fun vals w_=>vals 4= .int .i64 (rd l0 x),fun vals w_=>vals 5= .slice (some ad) l0.length c0,fun vals w_=>vals 6= .int .i64 x,fun vals w_=>vals 7= .int .i64 (x+1),fun vals w_=>vals 8= .int .i64 x,fun vals w_=>vals 9= .int .i64 (x+9),fun vals w_=>vals 10= .slice Ah lh.length ch,fun vals w_=>vals 11= .string route,fun vals w_=>vals 12= .slice (some ad) l0.length c0,fun vals w_=>vals 13= .int .i64 x,fun vals w_=>vals 14= .int .i64 (x+9),fun vals w_=>vals 15= .pointer (some (ad.add (x+9).toNat)),fun vals w_=>vals 16= .int .u8 (rd l0 (x+9)),fun vals w_=>vals 17= .int .i64 (rd l0 (x+9)),fun vals w_=>vals 18= .slice (some dd) due.length cd,fun vals w_=>vals 19= .pointer (some dd),fun vals w_=>vals 20= .int .i64 (rd due 0),fun vals w_=>∃ A,vals 21= .slice A 0 0∧Kd.R (Kd.int .u8) 5 w_ W.heap.size (fun _=>True) (.slice A 0 0) [],fun vals w_=>vals 22= .slice (some ad) l0.length c0,fun vals w_=>vals 23= .int .i64 x,fun vals w_=>vals 24= .int .i64 (x+16),fun vals w_=>vals 25= .int .i64 x,fun vals w_=>vals 26= .int .i64 (x+16),fun vals w_=>vals 27= .int .i64 n,fun vals w_=>vals 28= .int .i64 (x+16+n),fun vals w_=>vals 29= .slice Ab lb.length cb,fun vals w_=>Kd.R (Kd.int .u8) 5 w_ W.heap.size (fun _=>True) (vals 30) lb,fun vals w_=>∃ A c,vals 30= .slice A lb.length c∧vals 31= .agg #[.int .i64 (rd l0 x), .string route, .int .i64 (rd l0 (x+9)), .int .i64 (rd due 0), .slice A lb.length c],fun vals w_=>∃ g,vals 32= .pointer (some ⟨g,0,none⟩)∧W.heap.size≤g∧w_.heap[g]? =some (.cells [.int .i64 0, .string (⟨#[]⟩:ByteArray), .int .i64 0, .int .i64 0, .slice none 0 0].toArray 48 (0,0)),fun vals w_=>∃ g A c,vals 32= .pointer (some ⟨g,0,none⟩)∧W.heap.size≤g∧vals 31= .agg #[.int .i64 (rd l0 x), .string route, .int .i64 (rd l0 (x+9)), .int .i64 (rd due 0), .slice A lb.length c]∧w_.heap[g]? =some (.cells [.int .i64 (rd l0 x), .string route, .int .i64 (rd l0 (x+9)), .int .i64 (rd due 0), .slice A lb.length c].toArray 48 (0,0))]:List ((Nat→Value)→World→Prop)).getD j (fun _ _=>True)):=by
  intro vals w_ w1 hb j h
  match j,h with
  | 0,h=>exact h
  | 1,h=>exact h
  | 2,h=>exact h
  | 3,h=>exact h
  | 4,h=>exact h
  | 5,h=>exact h
  | 6,h=>exact h
  | 7,h=>exact h
  | 8,h=>exact h
  | 9,h=>exact h
  | 10,h=>exact h
  | 11,h=>exact h
  | 12,h=>exact h
  | 13,h=>exact h
  | 14,h=>exact h
  | 15,h=>exact h
  | 16,h=>exact h
  | 17,h=>exact h
  | 18,h=>exact h
  | 19,h=>exact h
  | 20,h=>exact h
  | 21,h=>exact by obtain⟨A,h2,h3⟩:=h;exact⟨A,h2,zdb h3 hb⟩
  | 22,h=>exact h
  | 23,h=>exact h
  | 24,h=>exact h
  | 25,h=>exact h
  | 26,h=>exact h
  | 27,h=>exact h
  | 28,h=>exact h
  | 29,h=>exact h
  | 30,h=>exact zdb h hb
  | 31,h=>exact h
  | 32,h=>exact by obtain⟨g,h2,h3,h4⟩:=h;exact⟨g,h2,h3,(hb.block _ (Array.getElem?_eq_some_iff.1 h4).1).trans h4⟩
  | 33,h=>exact by obtain⟨g,A,c,h2,h3,h4,h5⟩:=h;exact⟨g,A,c,h2,h3,h4,(hb.block _ (Array.getElem?_eq_some_iff.1 h5).1).trans h5⟩
  | k+34,_=>exact trivial
 refine region_inv (by kernel_rfl) (jV hst) (fun w_=>Below W.heap.size W w_) (fun j=>if j=32 then 33 else(opsOf Try.f54 7).size) hk ?_ ?_ ?_ ?_
 ·intro j vals vals' w_ h0 h1 h
  match j,h0,h1,h with
  | 0,h0,h1,h=>exact h0.symm.trans h
  | 1,h0,h1,h=>exact h0.symm.trans h
  | 2,h0,h1,h=>exact h0.symm.trans h
  | 3,h0,h1,h=>exact h0.symm.trans h
  | 4,h0,h1,h=>exact h0.symm.trans h
  | 5,h0,h1,h=>exact h0.symm.trans h
  | 6,h0,h1,h=>exact h0.symm.trans h
  | 7,h0,h1,h=>exact h0.symm.trans h
  | 8,h0,h1,h=>exact h0.symm.trans h
  | 9,h0,h1,h=>exact h0.symm.trans h
  | 10,h0,h1,h=>exact h0.symm.trans h
  | 11,h0,h1,h=>exact h0.symm.trans h
  | 12,h0,h1,h=>exact h0.symm.trans h
  | 13,h0,h1,h=>exact h0.symm.trans h
  | 14,h0,h1,h=>exact h0.symm.trans h
  | 15,h0,h1,h=>exact h0.symm.trans h
  | 16,h0,h1,h=>exact h0.symm.trans h
  | 17,h0,h1,h=>exact h0.symm.trans h
  | 18,h0,h1,h=>exact h0.symm.trans h
  | 19,h0,h1,h=>exact h0.symm.trans h
  | 20,h0,h1,h=>exact h0.symm.trans h
  | 21,h0,h1,h=>exact by obtain⟨A,h2,h3⟩:=h;exact⟨A,h0.symm.trans h2,h3⟩
  | 22,h0,h1,h=>exact h0.symm.trans h
  | 23,h0,h1,h=>exact h0.symm.trans h
  | 24,h0,h1,h=>exact h0.symm.trans h
  | 25,h0,h1,h=>exact h0.symm.trans h
  | 26,h0,h1,h=>exact h0.symm.trans h
  | 27,h0,h1,h=>exact h0.symm.trans h
  | 28,h0,h1,h=>exact h0.symm.trans h
  | 29,h0,h1,h=>exact h0.symm.trans h
  | 30,h0,h1,h=>exact by show Kd.R (Kd.int .u8) 5 w_ W.heap.size (fun _=>True) (vals' 30) lb;rw[← h0];exact h
  | 31,h0,h1,h=>exact by obtain⟨A,c,h2,h3⟩:=h;exact⟨A,c,(h1 30 (dep_of (by kernel_rfl))).symm.trans h2,h0.symm.trans h3⟩
  | 32,h0,h1,h=>exact by obtain⟨g,h2,h3,h4⟩:=h;exact⟨g,h0.symm.trans h2,h3,h4⟩
  | 33,h0,h1,h=>exact by obtain⟨g,A,c,h2,h3,h4,h5⟩:=h;exact⟨g,A,c,(h1 32 (dep_of (by kernel_rfl))).symm.trans h2,h3,(h1 31 (dep_of (by kernel_rfl))).symm.trans h4,h5⟩
  | k+34,_,_,_=>exact trivial
 ·exact below_drew (zbo _ _)
 ·intro i o ho a w vals hfr hdp hG K hK
  match i,ho,hdp,hK with
  | 0,ho,hdp,hK=>
   obtain⟨hop,hds,hgd⟩:=jro (Op.move (Operand.tmp 0)) 49 ho
   have x1_:a.eval (.tmp 0)= .slice (some ad) l0.length c0:=jfr (hfr 0) h0
   exact jrx ho hgd hK hG (.slice (some ad) l0.length c0)
  | 1,ho,hdp,hK=>
   obtain⟨hop,hds,hgd⟩:=jro (Op.move (Operand.tmp 1)) 50 ho
   have x1_:a.eval (.tmp 1)= .int .i64 x:=jfr (hfr 1) h1
   exact jrx ho hgd hK hG (.int .i64 x)
  | 2,ho,hdp,hK=>
   obtain⟨hop,hds,hgd⟩:=jro (Op.indexAddr 29 (Operand.tmp 49) (Operand.tmp 50)) 51 ho
   have x1_:a.eval (.tmp 49)= .slice (some ad) l0.length c0:=jdv (hdp 0)
   have x2_:a.eval (.tmp 50)= .int .i64 x:=jdv (hdp 1)
   have p_:(0≤x)=True:=zbr (by omega);have q_:(x<(l0.length:Int))=True:=zbr (by omega)
   exact jrx ho hgd hK hG (.pointer (some (ad.add x.toNat)))
  | 3,ho,hdp,hK=>
   obtain⟨hop,hds,hgd⟩:=jro (Op.load 5 (Operand.tmp 51)) 52 ho
   have x1_:a.eval (.tmp 51)= .pointer (some (ad.add x.toNat)):=jdv (hdp 2)
   have q_:=hc0 w hG
   exact jrx ho hgd hK hG (.int .u8 (rd l0 x))
  | 4,ho,hdp,hK=>
   obtain⟨hop,hds,hgd⟩:=jro (Op.convert 5 3 (Operand.tmp 52)) 53 ho
   have x1_:a.eval (.tmp 52)= .int .u8 (rd l0 x):=jdv (hdp 3)
   have q_:IntKind.i64.wrap (rd l0 x)=rd l0 x:=zdy _ (by omega)
   exact jrx ho hgd hK hG (.int .i64 (rd l0 x))
  | 5,ho,hdp,hK=>
   obtain⟨hop,hds,hgd⟩:=jro (Op.move (Operand.tmp 0)) 54 ho
   have x1_:a.eval (.tmp 0)= .slice (some ad) l0.length c0:=jfr (hfr 0) h0
   exact jrx ho hgd hK hG (.slice (some ad) l0.length c0)
  | 6,ho,hdp,hK=>
   obtain⟨hop,hds,hgd⟩:=jro (Op.move (Operand.tmp 1)) 55 ho
   have x1_:a.eval (.tmp 1)= .int .i64 x:=jfr (hfr 1) h1
   exact jrx ho hgd hK hG (.int .i64 x)
  | 7,ho,hdp,hK=>
   obtain⟨hop,hds,hgd⟩:=jro (Op.binOp BinOp.add 3 (Operand.tmp 55) (Operand.const (Value.int IntKind.i64 1)) 3) 56 ho
   have x1_:a.eval (.tmp 55)= .int .i64 x:=jdv (hdp 6)
   have q_:IntKind.i64.wrap (x+1)=x+1:=zdy _ (by omega)
   exact jrx ho hgd hK hG (.int .i64 (x+1))
  | 8,ho,hdp,hK=>
   obtain⟨hop,hds,hgd⟩:=jro (Op.move (Operand.tmp 1)) 57 ho
   have x1_:a.eval (.tmp 1)= .int .i64 x:=jfr (hfr 1) h1
   exact jrx ho hgd hK hG (.int .i64 x)
  | 9,ho,hdp,hK=>
   obtain⟨hop,hds,hgd⟩:=jro (Op.binOp BinOp.add 3 (Operand.tmp 57) (Operand.const (Value.int IntKind.i64 9)) 3) 58 ho
   have x1_:a.eval (.tmp 57)= .int .i64 x:=jdv (hdp 8)
   have q_:IntKind.i64.wrap (x+9)=x+9:=zdy _ (by omega)
   exact jrx ho hgd hK hG (.int .i64 (x+9))
  | 10,ho,hdp,hK=>
   obtain⟨hop,hds,hgd⟩:=jro (Op.slice 29 (Operand.tmp 54) (some (Operand.tmp 56)) (some (Operand.tmp 58)) none) 59 ho
   have M0:a.eval (.tmp 54)= .slice (some ad) l0.length c0:=jdv (hdp 5)
   have D0:a.eval (.tmp 56)= .int .i64 (x+1):=jdv (hdp 7)
   have E0:a.eval (.tmp 58)= .int .i64 (x+9):=jdv (hdp 9)
   refine reg_val (w1:=w) ho hgd (.slice Ah lh.length ch) (by unfold execOp;simp only[hop,M0,D0,E0];simp only[Option.map_some,Option.map_none,D0,E0];go_simp) ?_
   exact hK _ _ (upd_same _ _ _) hG (fun _ _ _ h=>h)
  | 11,ho,hdp,hK=>
   obtain⟨hop,hds,hgd⟩:=jro (Op.call {callee:=Callee.value (Operand.func 112),args:= #[(Operand.tmp 59)],argTypes:= #[29]}) 60 ho
   have N0:a.eval (.tmp 59)= .slice Ah lh.length ch:=jdv (hdp 10)
   refine reg_call ho hgd (f:=112) Try.func112 (by kernel_rfl) rfl #[.slice Ah lh.length ch] hop (by simp only[zek,zfb,zfl,N0]) ?_
   refine(spec_Hex.calls k _ _ lh route w (zbc hCh hG) hlh FH).mono ?_
   rintro e w1 ⟨rfl,hb⟩
   exact⟨_,rfl,hK _ _ (upd_same _ _ _) (zac hG hb) (fun j _ _ h=>hst vals w w1 hb j h)⟩
  | 12,ho,hdp,hK=>
   obtain⟨hop,hds,hgd⟩:=jro (Op.move (Operand.tmp 0)) 61 ho
   have x1_:a.eval (.tmp 0)= .slice (some ad) l0.length c0:=jfr (hfr 0) h0
   exact jrx ho hgd hK hG (.slice (some ad) l0.length c0)
  | 13,ho,hdp,hK=>
   obtain⟨hop,hds,hgd⟩:=jro (Op.move (Operand.tmp 1)) 62 ho
   have x1_:a.eval (.tmp 1)= .int .i64 x:=jfr (hfr 1) h1
   exact jrx ho hgd hK hG (.int .i64 x)
  | 14,ho,hdp,hK=>
   obtain⟨hop,hds,hgd⟩:=jro (Op.binOp BinOp.add 3 (Operand.tmp 62) (Operand.const (Value.int IntKind.i64 9)) 3) 63 ho
   have x1_:a.eval (.tmp 62)= .int .i64 x:=jdv (hdp 13)
   have q_:IntKind.i64.wrap (x+9)=x+9:=zdy _ (by omega)
   exact jrx ho hgd hK hG (.int .i64 (x+9))
  | 15,ho,hdp,hK=>
   obtain⟨hop,hds,hgd⟩:=jro (Op.indexAddr 29 (Operand.tmp 61) (Operand.tmp 63)) 64 ho
   have x1_:a.eval (.tmp 61)= .slice (some ad) l0.length c0:=jdv (hdp 12)
   have x2_:a.eval (.tmp 63)= .int .i64 (x+9):=jdv (hdp 14)
   have p_:(0≤(x+9))=True:=zbr (by omega);have q_:((x+9)<(l0.length:Int))=True:=zbr (by omega)
   exact jrx ho hgd hK hG (.pointer (some (ad.add (x+9).toNat)))
  | 16,ho,hdp,hK=>
   obtain⟨hop,hds,hgd⟩:=jro (Op.load 5 (Operand.tmp 64)) 65 ho
   have x1_:a.eval (.tmp 64)= .pointer (some (ad.add (x+9).toNat)):=jdv (hdp 15)
   have q_:=hc9 w hG
   exact jrx ho hgd hK hG (.int .u8 (rd l0 (x+9)))
  | 17,ho,hdp,hK=>
   obtain⟨hop,hds,hgd⟩:=jro (Op.convert 5 3 (Operand.tmp 65)) 66 ho
   have x1_:a.eval (.tmp 65)= .int .u8 (rd l0 (x+9)):=jdv (hdp 16)
   have q_:IntKind.i64.wrap (rd l0 (x+9))=rd l0 (x+9):=zdy _ (by omega)
   exact jrx ho hgd hK hG (.int .i64 (rd l0 (x+9)))
  | 18,ho,hdp,hK=>
   obtain⟨hop,hds,hgd⟩:=jro (Op.move (Operand.tmp 8)) 67 ho
   have x1_:a.eval (.tmp 8)= .slice (some dd) due.length cd:=jfr (hfr 8) h8
   exact jrx ho hgd hK hG (.slice (some dd) due.length cd)
  | 19,ho,hdp,hK=>
   obtain⟨hop,hds,hgd⟩:=jro (Op.indexAddr 110 (Operand.tmp 67) (Operand.const (Value.int IntKind.i64 0))) 68 ho
   have x1_:a.eval (.tmp 67)= .slice (some dd) due.length cd:=jdv (hdp 18)
   have q_:((0:Int)<(due.length:Int))=True:=zbr (by omega)
   exact jrx ho hgd hK hG (.pointer (some dd))
  | 20,ho,hdp,hK=>
   obtain⟨hop,hds,hgd⟩:=jro (Op.load 3 (Operand.tmp 68)) 69 ho
   have x1_:a.eval (.tmp 68)= .pointer (some dd):=jdv (hdp 19)
   have q_:=hcd w hG
   exact jrx ho hgd hK hG (.int .i64 (rd due 0))
  | 21,ho,hdp,hK=>
   obtain⟨hop,hds,hgd⟩:=jro (Op.buildSlice 29 0 #[]) 70 ho
   refine reg_lit0 ho hgd 5 (by unfold execOp;simp only[hop];go_simp;done) W.heap.size hG.size ?_
   intro A w1 hr hb
   exact hK _ _ ⟨A,upd_same _ _ _,hr⟩ (zac hG hb) (fun j _ _ h=>hst vals w w1 hb j h)
  | 22,ho,hdp,hK=>
   obtain⟨hop,hds,hgd⟩:=jro (Op.move (Operand.tmp 0)) 71 ho
   have x1_:a.eval (.tmp 0)= .slice (some ad) l0.length c0:=jfr (hfr 0) h0
   exact jrx ho hgd hK hG (.slice (some ad) l0.length c0)
  | 23,ho,hdp,hK=>
   obtain⟨hop,hds,hgd⟩:=jro (Op.move (Operand.tmp 1)) 72 ho
   have x1_:a.eval (.tmp 1)= .int .i64 x:=jfr (hfr 1) h1
   exact jrx ho hgd hK hG (.int .i64 x)
  | 24,ho,hdp,hK=>
   obtain⟨hop,hds,hgd⟩:=jro (Op.binOp BinOp.add 3 (Operand.tmp 72) (Operand.const (Value.int IntKind.i64 16)) 3) 73 ho
   have x1_:a.eval (.tmp 72)= .int .i64 x:=jdv (hdp 23)
   have q_:IntKind.i64.wrap (x+16)=x+16:=zdy _ (by omega)
   exact jrx ho hgd hK hG (.int .i64 (x+16))
  | 25,ho,hdp,hK=>
   obtain⟨hop,hds,hgd⟩:=jro (Op.move (Operand.tmp 1)) 74 ho
   have x1_:a.eval (.tmp 1)= .int .i64 x:=jfr (hfr 1) h1
   exact jrx ho hgd hK hG (.int .i64 x)
  | 26,ho,hdp,hK=>
   obtain⟨hop,hds,hgd⟩:=jro (Op.binOp BinOp.add 3 (Operand.tmp 74) (Operand.const (Value.int IntKind.i64 16)) 3) 75 ho
   have x1_:a.eval (.tmp 74)= .int .i64 x:=jdv (hdp 25)
   have q_:IntKind.i64.wrap (x+16)=x+16:=zdy _ (by omega)
   exact jrx ho hgd hK hG (.int .i64 (x+16))
  | 27,ho,hdp,hK=>
   obtain⟨hop,hds,hgd⟩:=jro (Op.move (Operand.tmp 7)) 76 ho
   have x1_:a.eval (.tmp 7)= .int .i64 n:=jfr (hfr 7) h7
   exact jrx ho hgd hK hG (.int .i64 n)
  | 28,ho,hdp,hK=>
   obtain⟨hop,hds,hgd⟩:=jro (Op.binOp BinOp.add 3 (Operand.tmp 75) (Operand.tmp 76) 3) 77 ho
   have x1_:a.eval (.tmp 75)= .int .i64 (x+16):=jdv (hdp 26)
   have x2_:a.eval (.tmp 76)= .int .i64 n:=jdv (hdp 27)
   have q_:IntKind.i64.wrap (x+16+n)=x+16+n:=zdy _ (by omega)
   exact jrx ho hgd hK hG (.int .i64 (x+16+n))
  | 29,ho,hdp,hK=>
   obtain⟨hop,hds,hgd⟩:=jro (Op.slice 29 (Operand.tmp 71) (some (Operand.tmp 73)) (some (Operand.tmp 77)) none) 78 ho
   have O0:a.eval (.tmp 71)= .slice (some ad) l0.length c0:=jdv (hdp 22)
   have F0:a.eval (.tmp 73)= .int .i64 (x+16):=jdv (hdp 24)
   have G0:a.eval (.tmp 77)= .int .i64 (x+16+n):=jdv (hdp 28)
   refine reg_val (w1:=w) ho hgd (.slice Ab lb.length cb) (by unfold execOp;simp only[hop,O0,F0,G0];simp only[Option.map_some,Option.map_none,F0,G0];go_simp) ?_
   exact hK _ _ (upd_same _ _ _) hG (fun _ _ _ h=>h)
  | 30,ho,hdp,hK=>
   obtain⟨hop,hds,hgd⟩:=jro (Op.call {callee:=Callee.builtin Builtin.append,args:= #[(Operand.tmp 70),(Operand.tmp 78)],argTypes:= #[29,29]}) 79 ho
   have o0:a.eval (.tmp 70)=vals 21:=eval_tmp ((hdp 21 (dep_of (by kernel_rfl))).1 70 rfl)
   have fs_:=(hdp 21 (dep_of (by kernel_rfl))).2 (.inr (zaf _))
   obtain⟨A,f1,f2⟩:=fs_
   replace o0:=o0.trans f1
   have P0:a.eval (.tmp 78)= .slice Ab lb.length cb:=jdv (hdp 29)
   refine reg_app0 ho hgd (.tmp 70) (.tmp 78) 29 5 hop Try.underlying29 info5 W.heap.size hG.size o0 f2 P0 (zbc hCb hG) (by omega) ?_
   intro v1 w1 hr hb
   exact hK _ _ (show Kd.R (Kd.int .u8) 5 w1 W.heap.size (fun _=>True) (upd vals 30 v1 30) lb from by rw[upd_same];exact hr) (zac hG hb) (fun j _ _ h=>hst vals w w1 hb j h)
  | 31,ho,hdp,hK=>
   obtain⟨hop,hds,hgd⟩:=jro (Op.build 48 #[(0,(Operand.tmp 53)),(1,(Operand.tmp 60)),(2,(Operand.tmp 66)),(3,(Operand.tmp 69)),(4,(Operand.tmp 79))]) 80 ho
   have Q0:a.eval (.tmp 53)= .int .i64 (rd l0 x):=jdv (hdp 4)
   have R0:a.eval (.tmp 60)= .string route:=jdv (hdp 11)
   have S0:a.eval (.tmp 66)= .int .i64 (rd l0 (x+9)):=jdv (hdp 17)
   have T0:a.eval (.tmp 69)= .int .i64 (rd due 0):=jdv (hdp 20)
   have B0:a.eval (.tmp 79)=vals 30:=eval_tmp ((hdp 30 (dep_of (by kernel_rfl))).1 79 rfl)
   have fx_:=(hdp 30 (dep_of (by kernel_rfl))).2 (.inr (zaf _))
   obtain⟨A,c,f1⟩:=zbd fx_
   replace B0:=B0.trans f1
   refine reg_val (w1:=w) ho hgd (.agg #[.int .i64 (rd l0 x), .string route, .int .i64 (rd l0 (x+9)), .int .i64 (rd due 0), .slice A lb.length c]) (by unfold execOp;simp only[hop];simp only[zek,zfb,zfl,Q0,R0,S0,T0,B0];go_simp) ?_
   exact hK _ _ ⟨A,c,(upd_ne vals _ (by omega)).trans f1,upd_same _ _ _⟩ hG (fun _ _ _ h=>h)
  | 32,ho,hdp,hK=>
   obtain⟨hop,hds,hgd⟩:=jro (Op.alloc 48) 9 ho
   refine reg_if ho (box_step (N:=9) (reg_wanted hgd) hds (cs:=[.int .i64 0, .string (⟨#[]⟩:ByteArray), .int .i64 0, .int .i64 0, .slice none 0 0].toArray) (t:=48) (by unfold execOp;simp only[hop];go_simp;done) ?_)
   intro g hg w1 hx1 hb
   exact hK _ _ ⟨g,upd_same _ _ _,by rw[hg];exact hG.size,hx1⟩ (zac hG hb) (fun j _ _ h=>hst vals w w1 hb j h)
  | 33,ho,hdp,hK=>
   obtain⟨hop,hds,hgd⟩:=reg_op (op:=Op.store 48 (Operand.tmp 9) (Operand.tmp 80)) (d:=none) (g:=none) (by kernel_rfl) ho
   have e9:a.eval (.tmp 9)=vals 32:=eval_tmp ((hdp 32 (dep_of (by kernel_rfl))).1 9 rfl)
   have fp_:=(hdp 32 (dep_of (by kernel_rfl))).2 (.inl rfl)
   obtain⟨g,f1,f2,f3⟩:=fp_
   replace e9:=e9.trans f1
   have C0:a.eval (.tmp 80)=vals 31:=eval_tmp ((hdp 31 (dep_of (by kernel_rfl))).1 80 rfl)
   have fx_:=(hdp 31 (dep_of (by kernel_rfl))).2 (.inr (zaf _))
   obtain⟨A,c,f4,f5⟩:=fx_
   replace C0:=C0.trans f5
   obtain⟨w1,s1,s2,s3⟩:=store_whole (P:=Try.prog) (v:= .agg #[.int .i64 (rd l0 x), .string route, .int .i64 (rd l0 (x+9)), .int .i64 (rd due 0), .slice A lb.length c]) (new:=[.int .i64 (rd l0 x), .string route, .int .i64 (rd l0 (x+9)), .int .i64 (rd due 0), .slice A lb.length c]) f3 rfl rfl (by kernel_rfl) (by intro u hu;simp only[zdr,zct,zfu] at hu;rcases hu with rfl | rfl | rfl | rfl | rfl <;> rfl) (by simp)
   refine reg_skip (w1:=w1) ho hgd (by unfold execOp;simp only[hop,e9,C0,s1,Result.andThen_ok,Sem.run_bind,Sem.run_pure]) ?_
   refine hK _ w1 ⟨g,A,c,(upd_ne vals _ (by omega)).trans f1,f2,(upd_ne vals _ (by omega)).trans f5,s3⟩ (zcw hG (some g) hG.size s2 (fun k_ e_=>by injection e_ with e_;omega)) (fun j hj hcj h=>?_)
   match j,hj,hcj,h with
   | 0,hj,hcj,h=>exact h
   | 1,hj,hcj,h=>exact h
   | 2,hj,hcj,h=>exact h
   | 3,hj,hcj,h=>exact h
   | 4,hj,hcj,h=>exact h
   | 5,hj,hcj,h=>exact h
   | 6,hj,hcj,h=>exact h
   | 7,hj,hcj,h=>exact h
   | 8,hj,hcj,h=>exact h
   | 9,hj,hcj,h=>exact h
   | 10,hj,hcj,h=>exact h
   | 11,hj,hcj,h=>exact h
   | 12,hj,hcj,h=>exact h
   | 13,hj,hcj,h=>exact h
   | 14,hj,hcj,h=>exact h
   | 15,hj,hcj,h=>exact h
   | 16,hj,hcj,h=>exact h
   | 17,hj,hcj,h=>exact h
   | 18,hj,hcj,h=>exact h
   | 19,hj,hcj,h=>exact h
   | 20,hj,hcj,h=>exact h
   | 21,hj,hcj,h=>exact by obtain⟨A,h2,h3⟩:=h;exact⟨A,h2,Kd.R_grown1 h3 rfl s2 (zgk h3 f3 (by decide))⟩
   | 22,hj,hcj,h=>exact h
   | 23,hj,hcj,h=>exact h
   | 24,hj,hcj,h=>exact h
   | 25,hj,hcj,h=>exact h
   | 26,hj,hcj,h=>exact h
   | 27,hj,hcj,h=>exact h
   | 28,hj,hcj,h=>exact h
   | 29,hj,hcj,h=>exact h
   | 30,hj,hcj,h=>exact Kd.R_grown1 h rfl s2 (zgk h f3 (by decide))
   | 31,hj,hcj,h=>exact h
   | 32,hj,hcj,h=>exact absurd rfl hcj
   | 33,hj,hcj,h=>exact absurd rfl hj
   | k+34,_,_,_=>exact trivial
  | k+34,ho,_,_=>exact absurd (Array.getElem?_eq_some_iff.1 ho).1 (by rw[hn];omega)
 intro a w' vals hd hs hf hv hV hG
 have ha:=region_act hk hd hs hf hv
 have hN:∀ j,j<34→j<(opsOf Try.f54 7).size:=fun j h=>by rw[hn];exact h
 replace ha:a=((((((((((((((((((((((((((((((((((a0.put (some 49) (vals 0)).put (some 50) (vals 1)).put (some 51) (vals 2)).put (some 52) (vals 3)).put (some 53) (vals 4)).put (some 54) (vals 5)).put (some 55) (vals 6)).put (some 56) (vals 7)).put (some 57) (vals 8)).put (some 58) (vals 9)).put (some 59) (vals 10)).put (some 60) (vals 11)).put (some 61) (vals 12)).put (some 62) (vals 13)).put (some 63) (vals 14)).put (some 64) (vals 15)).put (some 65) (vals 16)).put (some 66) (vals 17)).put (some 67) (vals 18)).put (some 68) (vals 19)).put (some 69) (vals 20)).put (some 70) (vals 21)).put (some 71) (vals 22)).put (some 72) (vals 23)).put (some 73) (vals 24)).put (some 74) (vals 25)).put (some 75) (vals 26)).put (some 76) (vals 27)).put (some 77) (vals 28)).put (some 78) (vals 29)).put (some 79) (vals 30)).put (some 80) (vals 31)).put (some 9) (vals 32)).put none (vals 33)):=ha.trans (by rw[hn];rfl)
 rw[ha]
 obtain⟨A,c,H0,I0⟩:=hV 31 (hN 31 (by omega)) (zaf _)
 obtain⟨g,A',c',U0,V0,W0,X0⟩:=hV 33 (hN 33 (by omega)) (zaf _)
 have J0:=I0.symm.trans W0
 simp only[Value.agg.injEq,Array.mk.injEq,List.cons.injEq,Value.slice.injEq,true_and,and_true] at J0
 obtain⟨rfl,rfl⟩:=J0
 have Y0:=hV 30 (hN 30 (by omega)) (zaf _)
 have K0:Kd.R (Kd.int .u8) 5 w' W.heap.size (fun _=>True) (vals 30) lb:=Y0
 rw[H0] at K0
 rw[(hV 0 (hN 0 (by omega)) (zaf _):vals 0=_),(hV 1 (hN 1 (by omega)) (zaf _):vals 1=_),(hV 2 (hN 2 (by omega)) (zaf _):vals 2=_),(hV 3 (hN 3 (by omega)) (zaf _):vals 3=_),(hV 4 (hN 4 (by omega)) (zaf _):vals 4=_),(hV 5 (hN 5 (by omega)) (zaf _):vals 5=_),(hV 6 (hN 6 (by omega)) (zaf _):vals 6=_),(hV 7 (hN 7 (by omega)) (zaf _):vals 7=_),(hV 8 (hN 8 (by omega)) (zaf _):vals 8=_),(hV 9 (hN 9 (by omega)) (zaf _):vals 9=_),(hV 10 (hN 10 (by omega)) (zaf _):vals 10=_),(hV 11 (hN 11 (by omega)) (zaf _):vals 11=_),(hV 12 (hN 12 (by omega)) (zaf _):vals 12=_),(hV 13 (hN 13 (by omega)) (zaf _):vals 13=_),(hV 14 (hN 14 (by omega)) (zaf _):vals 14=_),(hV 15 (hN 15 (by omega)) (zaf _):vals 15=_),(hV 16 (hN 16 (by omega)) (zaf _):vals 16=_),(hV 17 (hN 17 (by omega)) (zaf _):vals 17=_),(hV 18 (hN 18 (by omega)) (zaf _):vals 18=_),(hV 19 (hN 19 (by omega)) (zaf _):vals 19=_),(hV 20 (hN 20 (by omega)) (zaf _):vals 20=_),(hV 22 (hN 22 (by omega)) (zaf _):vals 22=_),(hV 23 (hN 23 (by omega)) (zaf _):vals 23=_),(hV 24 (hN 24 (by omega)) (zaf _):vals 24=_),(hV 25 (hN 25 (by omega)) (zaf _):vals 25=_),(hV 26 (hN 26 (by omega)) (zaf _):vals 26=_),(hV 27 (hN 27 (by omega)) (zaf _):vals 27=_),(hV 28 (hN 28 (by omega)) (zaf _):vals 28=_),(hV 29 (hN 29 (by omega)) (zaf _):vals 29=_),H0,I0,U0]
 rw[put_none]
 exact hend w' g A c (vals 21) hG V0 X0 K0
set_option maxHeartbeats 4000000 in
theorem spec_LineOf.r10 {Q:Exit→Act→World→Prop} {a0:Act} {W:World} (k:Nat) (c0 c g cx:Nat) (l0 lb lx bb:List Int) (ad:Addr) (A Ax:Option Addr) (x n r1 r3 r4:Int) (r2:ByteArray) (s:Bool) (hx:0≤x) (hn0:0≤n) (hx2:x+18+n≤(l0.length:Int)) (hl:(l0.length:Int)≤140737488355232)
  (hblk:W.heap[g]? =some (.cells [.int .i64 r1, .string r2, .int .i64 r3, .int .i64 r4, .slice A lb.length c].toArray 48 (0,0))) (hCb:Kd.C (Kd.int .u8) W A lb.length lb) (hlb:lb.length≤c) (FL:spec_LineBytes.f k r1 r2 r3 r4 lb=some bb)
  (hcut:∀ W:World,(Instr.slice 29 (.slice (some ad) l0.length c0) (some (.int .i64 x)) (some (.int .i64 (x+18+n))) none).run Try.prog W= .ok (.slice Ax lx.length cx) W) (hCx:Kd.C (Kd.int .u8) W Ax lx.length lx) (hlx:lx.length≤cx) (FS:spec_Same.f bb lx=some s) (hsz:a0.tmps.size=102) (h0:a0.tmps[0]? =some (.slice (some ad) l0.length c0)) (h1:a0.tmps[1]? =some (.int .i64 x)) (h7:a0.tmps[7]? =some (.int .i64 n)) (h9:a0.tmps[9]? =some (.pointer (some ⟨g,0,none⟩)))
  (hend:∀ (w':World) (v86:Value),Below W.heap.size W w'→Q .normal (((((((((((a0.put (some 85) (.agg #[.int .i64 r1, .string r2, .int .i64 r3, .int .i64 r4, .slice A lb.length c])).put (some 86) (v86)).put (some 87) (.slice (some ad) l0.length c0)).put (some 88) (.int .i64 x)).put (some 89) (.int .i64 x)).put (some 90) (.int .i64 (x+18))).put (some 91) (.int .i64 n)).put (some 92) (.int .i64 (x+18+n))).put (some 93) (.slice Ax lx.length cx)).put (some 94) (.bool s)).put (some 95) (.bool (!s))) w'):(Code.region 10 (opsOf Try.f54 10) true).wp Try.prog Q a0 W:=by
 have hn:(opsOf Try.f54 10).size=11:=by kernel_rfl
 have hk:regOk (opsOf Try.f54 10) a0.tmps.size=true:=by rw[hsz];kernel_rfl
 have hst:jSta (fun j=>([fun vals w_=>vals 0= .agg #[.int .i64 r1, .string r2, .int .i64 r3, .int .i64 r4, .slice A lb.length c],fun vals w_=>Kd.R (Kd.int .u8) 5 w_ W.heap.size (fun _=>True) (vals 1) bb,fun vals w_=>vals 2= .slice (some ad) l0.length c0,fun vals w_=>vals 3= .int .i64 x,fun vals w_=>vals 4= .int .i64 x,fun vals w_=>vals 5= .int .i64 (x+18),fun vals w_=>vals 6= .int .i64 n,fun vals w_=>vals 7= .int .i64 (x+18+n),fun vals w_=>vals 8= .slice Ax lx.length cx,fun vals w_=>vals 9= .bool s,fun vals w_=>vals 10= .bool (!s)]:List ((Nat→Value)→World→Prop)).getD j (fun _ _=>True)):=by
  intro vals w_ w1 hb j h
  match j,h with
  | 0,h=>exact h
  | 1,h=>exact zdb h hb
  | 2,h=>exact h
  | 3,h=>exact h
  | 4,h=>exact h
  | 5,h=>exact h
  | 6,h=>exact h
  | 7,h=>exact h
  | 8,h=>exact h
  | 9,h=>exact h
  | 10,h=>exact h
  | k+11,_=>exact trivial
 refine region_inv (by kernel_rfl) (jV hst) (fun w_=>Below W.heap.size W w_) (fun j=>(opsOf Try.f54 10).size) hk ?_ ?_ ?_ ?_
 ·intro j vals vals' w_ h0 h1 h
  match j,h0,h1,h with
  | 0,h0,h1,h=>exact h0.symm.trans h
  | 1,h0,h1,h=>exact by show Kd.R (Kd.int .u8) 5 w_ W.heap.size (fun _=>True) (vals' 1) bb;rw[← h0];exact h
  | 2,h0,h1,h=>exact h0.symm.trans h
  | 3,h0,h1,h=>exact h0.symm.trans h
  | 4,h0,h1,h=>exact h0.symm.trans h
  | 5,h0,h1,h=>exact h0.symm.trans h
  | 6,h0,h1,h=>exact h0.symm.trans h
  | 7,h0,h1,h=>exact h0.symm.trans h
  | 8,h0,h1,h=>exact h0.symm.trans h
  | 9,h0,h1,h=>exact h0.symm.trans h
  | 10,h0,h1,h=>exact h0.symm.trans h
  | k+11,_,_,_=>exact trivial
 ·exact below_drew (zbo _ _)
 ·intro i o ho a w vals hfr hdp hG K hK
  match i,ho,hdp,hK with
  | 0,ho,hdp,hK=>
   obtain⟨hop,hds,hgd⟩:=jro (Op.load 48 (Operand.tmp 9)) 85 ho
   have e9:a.eval (.tmp 9)= .pointer (some ⟨g,0,none⟩):=jfr (hfr 9) h9
   have hblk_:=(hG.block _ (Array.getElem?_eq_some_iff.1 hblk).1).trans hblk;have hq0_:w.cell? ⟨g,0,none⟩=some (.int .i64 r1):=(zbi hblk_ 0).trans rfl;have hq1_:w.cell? ⟨g,1,none⟩=some (.string r2):=(zbi hblk_ 1).trans rfl;have hq2_:w.cell? ⟨g,2,none⟩=some (.int .i64 r3):=(zbi hblk_ 2).trans rfl;have hq3_:w.cell? ⟨g,3,none⟩=some (.int .i64 r4):=(zbi hblk_ 3).trans rfl;have hq4_:w.cell? ⟨g,4,none⟩=some (.slice A lb.length c):=(zbi hblk_ 4).trans rfl;have hu48:=Try.underlying48
   refine reg_val (w1:=w) ho hgd (.agg #[.int .i64 r1, .string r2, .int .i64 r3, .int .i64 r4, .slice A lb.length c]) (by unfold execOp;simp only[hop,e9];go_simp) ?_
   exact hK _ _ (upd_same _ _ _) hG (fun _ _ _ h=>h)
  | 1,ho,hdp,hK=>
   obtain⟨hop,hds,hgd⟩:=jro (Op.call {callee:=Callee.value (Operand.func 48),args:= #[(Operand.tmp 85)],argTypes:= #[48]}) 86 ho
   have D0:a.eval (.tmp 85)= .agg #[.int .i64 r1, .string r2, .int .i64 r3, .int .i64 r4, .slice A lb.length c]:=jdv (hdp 0)
   refine reg_call ho hgd (f:=48) Try.func48 (by kernel_rfl) rfl #[.agg #[.int .i64 r1, .string r2, .int .i64 r3, .int .i64 r4, .slice A lb.length c]] hop (by simp only[zek,zfb,zfl,D0]) ?_
   refine(spec_LineBytes.calls k r1 r2 r3 r4 _ _ lb bb w (zbc hCb hG) hlb FL).mono ?_
   rintro e w1 ⟨v,rfl,hr,hb⟩
   exact⟨_,rfl,hK _ _ (show Kd.R (Kd.int .u8) 5 w1 W.heap.size (fun _=>True) (upd vals 1 v 1) bb from by rw[upd_same];exact zax hr hG.size) (zac hG hb) (fun j _ _ h=>hst vals w w1 hb j h)⟩
  | 2,ho,hdp,hK=>
   obtain⟨hop,hds,hgd⟩:=jro (Op.move (Operand.tmp 0)) 87 ho
   have x1_:a.eval (.tmp 0)= .slice (some ad) l0.length c0:=jfr (hfr 0) h0
   exact jrx ho hgd hK hG (.slice (some ad) l0.length c0)
  | 3,ho,hdp,hK=>
   obtain⟨hop,hds,hgd⟩:=jro (Op.move (Operand.tmp 1)) 88 ho
   have x1_:a.eval (.tmp 1)= .int .i64 x:=jfr (hfr 1) h1
   exact jrx ho hgd hK hG (.int .i64 x)
  | 4,ho,hdp,hK=>
   obtain⟨hop,hds,hgd⟩:=jro (Op.move (Operand.tmp 1)) 89 ho
   have x1_:a.eval (.tmp 1)= .int .i64 x:=jfr (hfr 1) h1
   exact jrx ho hgd hK hG (.int .i64 x)
  | 5,ho,hdp,hK=>
   obtain⟨hop,hds,hgd⟩:=jro (Op.binOp BinOp.add 3 (Operand.tmp 89) (Operand.const (Value.int IntKind.i64 18)) 3) 90 ho
   have x1_:a.eval (.tmp 89)= .int .i64 x:=jdv (hdp 4)
   have q_:IntKind.i64.wrap (x+18)=x+18:=zdy _ (by omega)
   exact jrx ho hgd hK hG (.int .i64 (x+18))
  | 6,ho,hdp,hK=>
   obtain⟨hop,hds,hgd⟩:=jro (Op.move (Operand.tmp 7)) 91 ho
   have x1_:a.eval (.tmp 7)= .int .i64 n:=jfr (hfr 7) h7
   exact jrx ho hgd hK hG (.int .i64 n)
  | 7,ho,hdp,hK=>
   obtain⟨hop,hds,hgd⟩:=jro (Op.binOp BinOp.add 3 (Operand.tmp 90) (Operand.tmp 91) 3) 92 ho
   have x1_:a.eval (.tmp 90)= .int .i64 (x+18):=jdv (hdp 5)
   have x2_:a.eval (.tmp 91)= .int .i64 n:=jdv (hdp 6)
   have q_:IntKind.i64.wrap (x+18+n)=x+18+n:=zdy _ (by omega)
   exact jrx ho hgd hK hG (.int .i64 (x+18+n))
  | 8,ho,hdp,hK=>
   obtain⟨hop,hds,hgd⟩:=jro (Op.slice 29 (Operand.tmp 87) (some (Operand.tmp 88)) (some (Operand.tmp 92)) none) 93 ho
   have E0:a.eval (.tmp 87)= .slice (some ad) l0.length c0:=jdv (hdp 2)
   have B0:a.eval (.tmp 88)= .int .i64 x:=jdv (hdp 3)
   have C0:a.eval (.tmp 92)= .int .i64 (x+18+n):=jdv (hdp 7)
   refine reg_val (w1:=w) ho hgd (.slice Ax lx.length cx) (by unfold execOp;simp only[hop,E0,B0,C0];simp only[Option.map_some,Option.map_none,B0,C0];go_simp) ?_
   exact hK _ _ (upd_same _ _ _) hG (fun _ _ _ h=>h)
  | 9,ho,hdp,hK=>
   obtain⟨hop,hds,hgd⟩:=jro (Op.call {callee:=Callee.value (Operand.func 113),args:= #[(Operand.tmp 86),(Operand.tmp 93)],argTypes:= #[29,29]}) 94 ho
   have o0:a.eval (.tmp 86)=vals 1:=eval_tmp ((hdp 1 (dep_of (by kernel_rfl))).1 86 rfl)
   have fb_:=(hdp 1 (dep_of (by kernel_rfl))).2 (.inr (zaf _))
   obtain⟨Ay,cy,f1⟩:=zbd fb_
   replace o0:=o0.trans f1
   have fb2:Kd.R (Kd.int .u8) 5 w W.heap.size (fun _=>True) (vals 1) bb:=fb_
   rw[f1] at fb2
   have F0:a.eval (.tmp 93)= .slice Ax lx.length cx:=jdv (hdp 8)
   refine reg_call ho hgd (f:=113) Try.func113 (by kernel_rfl) rfl #[.slice Ay bb.length cy, .slice Ax lx.length cx] hop (by simp only[zek,zfb,zfl,o0,F0]) ?_
   refine(spec_Same.calls _ _ bb _ _ lx s w (zbp fb2).2.2 (zbp fb2).2.1 (zbc hCx hG) hlx FS).mono ?_
   rintro e w1 ⟨rfl,hb⟩
   replace hb:=Drawn0.below hb
   exact⟨_,rfl,hK _ _ (upd_same _ _ _) (zac hG hb) (fun j _ _ h=>hst vals w w1 hb j h)⟩
  | 10,ho,hdp,hK=>
   obtain⟨hop,hds,hgd⟩:=jro (Op.unOp UnOp.not 4 (Operand.tmp 94)) 95 ho
   have x1_:a.eval (.tmp 94)= .bool s:=jdv (hdp 9)
   exact jrx ho hgd hK hG (.bool (!s))
  | k+11,ho,_,_=>exact absurd (Array.getElem?_eq_some_iff.1 ho).1 (by rw[hn];omega)
 intro a w' vals hd hs hf hv hV hG
 have ha:=region_act hk hd hs hf hv
 have hN:∀ j,j<11→j<(opsOf Try.f54 10).size:=fun j h=>by rw[hn];exact h
 replace ha:a=(((((((((((a0.put (some 85) (vals 0)).put (some 86) (vals 1)).put (some 87) (vals 2)).put (some 88) (vals 3)).put (some 89) (vals 4)).put (some 90) (vals 5)).put (some 91) (vals 6)).put (some 92) (vals 7)).put (some 93) (vals 8)).put (some 94) (vals 9)).put (some 95) (vals 10)):=ha.trans (by rw[hn];rfl)
 rw[ha]
 rw[(hV 0 (hN 0 (by omega)) (zaf _):vals 0=_),(hV 2 (hN 2 (by omega)) (zaf _):vals 2=_),(hV 3 (hN 3 (by omega)) (zaf _):vals 3=_),(hV 4 (hN 4 (by omega)) (zaf _):vals 4=_),(hV 5 (hN 5 (by omega)) (zaf _):vals 5=_),(hV 6 (hN 6 (by omega)) (zaf _):vals 6=_),(hV 7 (hN 7 (by omega)) (zaf _):vals 7=_),(hV 8 (hN 8 (by omega)) (zaf _):vals 8=_),(hV 9 (hN 9 (by omega)) (zaf _):vals 9=_),(hV 10 (hN 10 (by omega)) (zaf _):vals 10=_)]
 exact hend w' (vals 1) hG
def spec_LineOf.f (k:Nat) (l0:List Int) (x:Int):Option (Int×ByteArray×Int×Int×List Int×Int×Bool):=
 if(l0.length:Int)≤140737488355232 then(if 0≤x∧x+18≤(l0.length:Int) then(if(0≤rd l0 x∧rd l0 x≤255)∧(0≤rd l0 (x+9)∧rd l0 (x+9)≤255)∧(0≤rd l0 (x+14)∧rd l0 (x+14)≤255)∧(0≤rd l0 (x+15)∧rd l0 (x+15)≤255) then
  (if x+18+(256*rd l0 (x+14)+rd l0 (x+15))≤(l0.length:Int) then(spec_Words.f k ((l0.take (x+14).toNat).drop (x+10).toNat) true).bind fun due=>if 0<due.length then(spec_Hex.f k ((l0.take (x+9).toNat).drop (x+1).toNat)).bind fun route=>
   (spec_LineBytes.f k (rd l0 x) (if rd l0 x=3 then⟨#[]⟩ else route) (rd l0 (x+9)) (rd due 0) ((l0.take (x+16+(256*rd l0 (x+14)+rd l0 (x+15))).toNat).drop (x+16).toNat)).bind fun b=>(spec_Same.f b ((l0.take (x+18+(256*rd l0 (x+14)+rd l0 (x+15))).toNat).drop x.toNat)).bind fun s=>
   if s=true then some (rd l0 x,(if rd l0 x=3 then⟨#[]⟩ else route),rd l0 (x+9),rd due 0,(l0.take (x+16+(256*rd l0 (x+14)+rd l0 (x+15))).toNat).drop (x+16).toNat,x+18+(256*rd l0 (x+14)+rd l0 (x+15)),true) else some (0,⟨#[]⟩,0,0,[],0,false) else none
  else some (0,⟨#[]⟩,0,0,[],0,false)) else none) else some (0,⟨#[]⟩,0,0,[],0,false)) else none
theorem spec_LineOf.mono:∀ a0 a1 k,LeO (spec_LineOf.f k a0 a1) (spec_LineOf.f (k+1) a0 a1):=by
 intro a0 a1 k
 unfold spec_LineOf.f
 have m0:=@spec_Words.mono
 have m1:=@spec_Hex.mono
 have m2:=@spec_LineBytes.mono
 exact mt
set_option maxHeartbeats 4000000 in
theorem spec_LineOf.low (A0:Option Addr) (c0:Nat) (l0:List Int) (x:Int) (hx:x<0) (w:World):Calls Try.prog 54 #[.slice A0 l0.length c0, .int .i64 x] w fun e w'=>∃ v4_:Value,e= .returned (.tuple #[.agg #[.int .i64 0, .string (⟨#[]⟩:ByteArray), .int .i64 0, .int .i64 0,v4_], .int .i64 0, .bool false])∧Kd.R (Kd.int .u8) 5 w' w.heap.size (fun _=>True) v4_ []∧Below w.heap.size w w':=by
 have d0:decide (x<0)=true:=zae hx
 go_enter Try.func54,Try.ntmps54
 go_wp2_with (first | (refine jgd 4 ?_;refine bx 4 ([.int .i64 0, .string (⟨#[]⟩:ByteArray), .int .i64 0, .int .i64 0, .slice none 0 0].toArray) 48 ?_;intro gb hgb w1 hbox hb;have BK:=Aside0.mk hbox;have HB:=Aside0.mk hb;have HG:=Aside0.mk (zev hgb.symm);clear hbox hb hgb) | ((with_reducible refine zet (t:=48) (p:=4) rfl ?_);refine put_whole 48 rfl rfl (.tmp 4) (.tmp 19) rfl [.int .i64 0, .string (⟨#[]⟩:ByteArray), .int .i64 0, .int .i64 0, .slice none 0 0] (.agg #[.int .i64 0, .string (⟨#[]⟩:ByteArray), .int .i64 0, .int .i64 0, .slice none 0 0]) rfl rfl BK.out rfl rfl (by kernel_rfl) (by intro u hu;simp only[zdr,zct,zfu] at hu;rcases hu with rfl | rfl | rfl | rfl | rfl <;> rfl) (by simp) ?_;intro w2 hg_ hbw;have BW:=Aside0.mk hbw;have HB2:=Aside0.mk (zcw HB.out (some gb) HB.out.size hg_ (fun k_ e_=>by injection e_ with e_;rw[← e_];exact HG.out));have GR:=Aside0.mk hg_;clear hg_ hbw))
 refine zdp (zft rfl _ _ gb 48 [.int .i64 0, .string (⟨#[]⟩:ByteArray), .int .i64 0, .int .i64 0, .slice none 0 0].toArray (0,0) _ rfl BW.out Try.underlying48 rfl (by kernel_rfl)) rfl ?_
 exact⟨.slice none 0 0,rfl,zgo _ _ _ _ _,HB2.out⟩
set_option maxHeartbeats 4000000 in
theorem spec_LineOf.high (A0:Option Addr) (c0:Nat) (l0:List Int) (x:Int) (hx:0≤x) (hx2:(l0.length:Int)<x+18) (hl:(l0.length:Int)≤140737488355232) (w:World):Calls Try.prog 54 #[.slice A0 l0.length c0, .int .i64 x] w fun e w'=>∃ v4_:Value,e= .returned (.tuple #[.agg #[.int .i64 0, .string (⟨#[]⟩:ByteArray), .int .i64 0, .int .i64 0,v4_], .int .i64 0, .bool false])∧Kd.R (Kd.int .u8) 5 w' w.heap.size (fun _=>True) v4_ []∧Below w.heap.size w w':=by
 have d0:decide (x<0)=false:=zbf (by omega)
 have d1:decide (x>(l0.length:Int) - 18)=true:=zae (by omega)
 go_enter Try.func54,Try.ntmps54
 go_wp2_with (first | (refine jgd 4 ?_;refine bx 4 ([.int .i64 0, .string (⟨#[]⟩:ByteArray), .int .i64 0, .int .i64 0, .slice none 0 0].toArray) 48 ?_;intro gb hgb w1 hbox hb;have BK:=Aside0.mk hbox;have HB:=Aside0.mk hb;have HG:=Aside0.mk (zev hgb.symm);clear hbox hb hgb) | ((with_reducible refine zet (t:=48) (p:=4) rfl ?_);refine put_whole 48 rfl rfl (.tmp 4) (.tmp 19) rfl [.int .i64 0, .string (⟨#[]⟩:ByteArray), .int .i64 0, .int .i64 0, .slice none 0 0] (.agg #[.int .i64 0, .string (⟨#[]⟩:ByteArray), .int .i64 0, .int .i64 0, .slice none 0 0]) rfl rfl BK.out rfl rfl (by kernel_rfl) (by intro u hu;simp only[zdr,zct,zfu] at hu;rcases hu with rfl | rfl | rfl | rfl | rfl <;> rfl) (by simp) ?_;intro w2 hg_ hbw;have BW:=Aside0.mk hbw;have HB2:=Aside0.mk (zcw HB.out (some gb) HB.out.size hg_ (fun k_ e_=>by injection e_ with e_;rw[← e_];exact HG.out));have GR:=Aside0.mk hg_;clear hg_ hbw))
 refine zdp (zft rfl _ _ gb 48 [.int .i64 0, .string (⟨#[]⟩:ByteArray), .int .i64 0, .int .i64 0, .slice none 0 0].toArray (0,0) _ rfl BW.out Try.underlying48 rfl (by kernel_rfl)) rfl ?_
 exact⟨.slice none 0 0,rfl,zgo _ _ _ _ _,HB2.out⟩
set_option maxHeartbeats 4000000 in
theorem spec_LineOf.long (A0:Option Addr) (c0:Nat) (l0:List Int) (x:Int) (hx:0≤x) (hx2:x+18≤(l0.length:Int)) (hl:(l0.length:Int)≤140737488355232) (h14:0≤rd l0 (x+14)∧rd l0 (x+14)≤255) (h15:0≤rd l0 (x+15)∧rd l0 (x+15)≤255) (hn3:(l0.length:Int)<x+18+(256*rd l0 (x+14)+rd l0 (x+15))) (w:World) (hr0:Kd.C (Kd.int .u8) w A0 l0.length l0):Calls Try.prog 54 #[.slice A0 l0.length c0, .int .i64 x] w fun e w'=>∃ v4_:Value,e= .returned (.tuple #[.agg #[.int .i64 0, .string (⟨#[]⟩:ByteArray), .int .i64 0, .int .i64 0,v4_], .int .i64 0, .bool false])∧Kd.R (Kd.int .u8) 5 w' w.heap.size (fun _=>True) v4_ []∧Below w.heap.size w w':=by
 have d0:decide (x<0)=false:=zbf (by omega)
 have d1:decide (x>(l0.length:Int) - 18)=false:=zbf (by omega)
 obtain⟨ad,rfl,_⟩:=hr0.2.2 (by omega)
 have HC:=Aside0.mk hr0
 clear hr0
 obtain⟨n,hn⟩:∃ n,n=256*rd l0 (x+14)+rd l0 (x+15):=⟨_,rfl⟩
 have d2:decide (n>(l0.length:Int) - x - 18)=true:=zae (by omega)
 have hn0:0≤n:=by omega
 have hn4:n≤65535:=by omega
 go_enter Try.func54,Try.ntmps54
 go_wp2_with (first | (refine jgd 4 ?_;refine bx 4 ([.int .i64 0, .string (⟨#[]⟩:ByteArray), .int .i64 0, .int .i64 0, .slice none 0 0].toArray) 48 ?_;intro gb hgb w1 hbox hb;have BK:=Aside0.mk hbox;have HB:=Aside0.mk hb;have HG:=Aside0.mk (zev hgb.symm);clear hbox hb hgb))
 refine spec_LineOf.r3 (some ad) c0 l0 ad x hx hx2 (by omega) (fun w_ hd=>cell_u8 (zbc (zbc HC.out HB.out) hd.below) (x+14) (by omega) (by omega)) (fun w_ hd=>cell_u8 (zbc (zbc HC.out HB.out) hd.below) (x+15) (by omega) (by omega)) h14 h15 rfl rfl rfl ?_
 intro w3 hd3
 rw[← hn]
 have B0:=Aside0.mk ((hd3.below.block _ (Array.getElem?_eq_some_iff.1 BK.out).1).trans BK.out)
 have o0:=Aside0.mk (zac HB.out hd3.below)
 have HN:=Aside0.mk hn
 clear hd3 hn BK HB
 simp only[Act.put,zaq,zbj,zbk]
 go_wp2_with (first | ((with_reducible refine zet (t:=48) (p:=4) rfl ?_);refine put_whole 48 rfl rfl (.tmp 4) (.tmp 41) rfl [.int .i64 0, .string (⟨#[]⟩:ByteArray), .int .i64 0, .int .i64 0, .slice none 0 0] (.agg #[.int .i64 0, .string (⟨#[]⟩:ByteArray), .int .i64 0, .int .i64 0, .slice none 0 0]) rfl rfl B0.out rfl rfl (by kernel_rfl) (by intro u hu;simp only[zdr,zct,zfu] at hu;rcases hu with rfl | rfl | rfl | rfl | rfl <;> rfl) (by simp) ?_;intro w4 hg_ hbw;have BW:=Aside0.mk hbw;have HB2:=Aside0.mk (zcw o0.out (some gb) o0.out.size hg_ (fun k_ e_=>by injection e_ with e_;rw[← e_];exact HG.out));have GR:=Aside0.mk hg_;clear hg_ hbw))
 refine zdp (zft rfl _ _ gb 48 [.int .i64 0, .string (⟨#[]⟩:ByteArray), .int .i64 0, .int .i64 0, .slice none 0 0].toArray (0,0) _ rfl BW.out Try.underlying48 rfl (by kernel_rfl)) rfl ?_
 exact⟨.slice none 0 0,rfl,zgo _ _ _ _ _,HB2.out⟩
set_option maxHeartbeats 4000000 in
theorem spec_LineOf.yes (k:Nat) (A0:Option Addr) (c0:Nat) (l0:List Int) (x:Int) (hx:0≤x) (hx2:x+18≤(l0.length:Int)) (hl:(l0.length:Int)≤140737488355232) (h14:0≤rd l0 (x+14)∧rd l0 (x+14)≤255) (h15:0≤rd l0 (x+15)∧rd l0 (x+15)≤255) (h0:0≤rd l0 x∧rd l0 x≤255) (h9:0≤rd l0 (x+9)∧rd l0 (x+9)≤255) (n:Int) (hn:n=256*rd l0 (x+14)+rd l0 (x+15)) (hn3:x+18+n≤(l0.length:Int)) (due ld lh lb lx bb:List Int) (route rt:ByteArray) (ert:rt=if rd l0 x=3 then⟨#[]⟩ else route)
  (eld:ld=(l0.take (x+14).toNat).drop (x+10).toNat) (elh:lh=(l0.take (x+9).toNat).drop (x+1).toNat) (elb:lb=(l0.take (x+16+n).toNat).drop (x+16).toNat) (elx:lx=(l0.take (x+18+n).toNat).drop x.toNat)
  (FD:spec_Words.f k ld true=some due) (hdue:0<due.length) (FH:spec_Hex.f k lh=some route) (FL:spec_LineBytes.f k (rd l0 x) rt (rd l0 (x+9)) (rd due 0) lb=some bb) (FS:spec_Same.f bb lx=some true) (w:World) (hr0:Kd.C (Kd.int .u8) w A0 l0.length l0) (hc0:l0.length≤c0):Calls Try.prog 54 #[.slice A0 l0.length c0, .int .i64 x] w fun e w'=>∃ v4_:Value,e= .returned (.tuple #[.agg #[.int .i64 (rd l0 x), .string rt, .int .i64 (rd l0 (x+9)), .int .i64 (rd due 0),v4_], .int .i64 (x+18+n), .bool true])∧Kd.R (Kd.int .u8) 5 w' w.heap.size (fun _=>True) v4_ lb∧Below w.heap.size w w':=by
 have d0:decide (x<0)=false:=zbf (by omega)
 have d1:decide (x>(l0.length:Int) - 18)=false:=zbf (by omega)
 obtain⟨ad,rfl,_⟩:=hr0.2.2 (by omega)
 have HC:=Aside0.mk hr0
 clear hr0
 have d2:decide (n>(l0.length:Int) - x - 18)=false:=zbf (by omega)
 have hn0:0≤n:=by omega
 have hn4:n≤65535:=by omega
 obtain⟨Ad,cd,hcutd,hld,hCd⟩:=cut_u8 (P:=Try.prog) 29 5 Try.underlying29 info5 (some ad) c0 l0 (x+10) (x+14) (by omega) (by omega) (by omega) hc0
 obtain⟨Ah,ch,hcuth,hlh,hCh⟩:=cut_u8 (P:=Try.prog) 29 5 Try.underlying29 info5 (some ad) c0 l0 (x+1) (x+9) (by omega) (by omega) (by omega) hc0
 obtain⟨Ab,cb,hcutb,hlb,hCb⟩:=cut_u8 (P:=Try.prog) 29 5 Try.underlying29 info5 (some ad) c0 l0 (x+16) (x+16+n) (by omega) (by omega) (by omega) hc0
 obtain⟨Ax,cx,hcutx,hlx,hCx⟩:=cut_u8 (P:=Try.prog) 29 5 Try.underlying29 info5 (some ad) c0 l0 (x) (x+18+n) (by omega) (by omega) (by omega) hc0
 rw[← eld] at hcutd hld hCd
 rw[← elh] at hcuth hlh hCh
 rw[← elb] at hcutb hlb hCb
 rw[← elx] at hcutx hlx hCx
 have H0:lb.length≤l0.length:=by rw[elb,zhi,List.length_take];omega
 have KKd:=Aside0.mk hcutd
 have Md:=Aside0.mk hCd
 clear hCd
 have KKh:=Aside0.mk hcuth
 have Mh:=Aside0.mk hCh
 clear hCh
 have KKb:=Aside0.mk hcutb
 have Mb:=Aside0.mk hCb
 clear hCb
 have KKx:=Aside0.mk hcutx
 have Mx:=Aside0.mk hCx
 clear hCx
 clear hcuth hcutb hcutx eld elh elb elx
 have ERT:=Aside0.mk ert
 clear ert
 have GD:=Aside0.mk FD
 clear FD
 have GH:=Aside0.mk FH
 clear FH
 have GL:=Aside0.mk FL
 clear FL
 have GS:=Aside0.mk FS
 clear FS
 go_enter Try.func54,Try.ntmps54
 go_wp2_with (first | (refine jgd 4 ?_;refine bx 4 ([.int .i64 0, .string (⟨#[]⟩:ByteArray), .int .i64 0, .int .i64 0, .slice none 0 0].toArray) 48 ?_;intro gb hgb w1 hbox hb;have BK:=Aside0.mk hbox;have HB:=Aside0.mk hb;have HG:=Aside0.mk (zev hgb.symm);clear hbox hb hgb))
 refine spec_LineOf.r3 (some ad) c0 l0 ad x hx hx2 (by omega) (fun w_ hd=>cell_u8 (zbc (zbc HC.out HB.out) hd.below) (x+14) (by omega) (by omega)) (fun w_ hd=>cell_u8 (zbc (zbc HC.out HB.out) hd.below) (x+15) (by omega) (by omega)) h14 h15 rfl rfl rfl ?_
 intro w3 hd3
 rw[← hn]
 have I0:=Aside0.mk ((hd3.below.block _ (Array.getElem?_eq_some_iff.1 BK.out).1).trans BK.out)
 have J0:=Aside0.mk (zac HB.out hd3.below)
 have HN:=Aside0.mk hn
 clear hd3 hn BK HB
 simp only[Act.put,zaq,zbj,zbk]
 go_wp2_with (first | (refine jgc 111 ?_;refine jgs 48 Try.func111 #[.slice Ad ld.length cd, .bool true] ?_;(with_reducible refine(spec_Words.calls k _ _ ld true due _ (Md.out _ (zbc HC.out J0.out)) hld GD.out).mono ?_);rintro e w6 ⟨v,rfl,hr,hb⟩;refine⟨_,rfl,?_⟩;have HD:=Aside0.mk hr;have o0:=Aside0.mk (zac J0.out hb);have G0:=Aside0.mk ((hb.block _ (Array.getElem?_eq_some_iff.1 I0.out).1).trans I0.out);clear hr hb J0 I0;obtain⟨gd,cdd,e_,_⟩:=Kd.R_form HD.out hdue;subst e_))
 have hdc:w6.cell? ⟨gd,0,none⟩=some (.int .i64 (rd due 0)):=by
  have h1:=(Kd.R_celln 0 HD.out 0 (by omega) (by omega)).1
  exact h1
 clear hcutd
 refine spec_LineOf.r7 k c0 cdd ch cb l0 due lh lb ad ⟨gd,0,none⟩ Ah Ab x n route hx hn0 hn3 hl (fun w_ hb=>cell_u8 (zbc (zbc HC.out o0.out) hb) x hx (by omega)) (fun w_ hb=>cell_u8 (zbc (zbc HC.out o0.out) hb) (x+9) (by omega) (by omega)) h0 h9 hdue (fun w_ hb=>zbv hb hdc) KKh.out (Mh.out _ (zbc HC.out o0.out)) hlh GH.out KKb.out (Mb.out _ (zbc HC.out o0.out)) hlb H0 rfl rfl rfl rfl rfl ?_
 intro w7 g A c v70 hb7 hg7 hblk hr7
 have HB7:=Aside0.mk (zac o0.out hb7)
 have K0:=Aside0.mk ((hb7.block _ (Array.getElem?_eq_some_iff.1 G0.out).1).trans G0.out)
 have HGN:=Aside0.mk (show gb<g from zch (Array.getElem?_eq_some_iff.1 G0.out).1 hg7)
 have HGW:=Aside0.mk (zcv o0.out.size hg7)
 have L0:=Aside0.mk (zax hr7 o0.out.size)
 have BG7:=Aside0.mk hblk
 clear hb7 hg7 hr7 hdc HD o0 G0
 have hq0:w7.cell? ⟨g,0,none⟩=some (.int .i64 (rd l0 x)):=(zbi hblk 0).trans rfl
 clear hblk
 simp only[Act.put,zaq,zbj,zbk]
 by_cases hk3:rd l0 x=3
 ·have ER2:Aside0 (rt=⟨#[]⟩):=⟨by rw[ERT.out,if_pos hk3]⟩
  have GL2:Aside0 (spec_LineBytes.f k (rd l0 x) (⟨#[]⟩:ByteArray) (rd l0 (x+9)) (rd due 0) lb=some bb):=⟨by rw[← ER2.out];exact GL.out⟩
  rw[hk3] at hq0
  clear hk3
  go_wp2_with (first | ((with_reducible refine zet (t:=9) (p:=84) rfl ?_);refine put_part 9 48 rfl rfl (.tmp 84) (.const (.string (⟨#[]⟩:ByteArray))) rfl [.string (⟨#[]⟩:ByteArray)] [.int .i64 (rd l0 x), .string (⟨#[]⟩:ByteArray), .int .i64 (rd l0 (x+9)), .int .i64 (rd due 0), .slice A lb.length c] (.string (⟨#[]⟩:ByteArray)) rfl rfl BG7.out rfl (by simp) rfl (by kernel_rfl) (by intro u hu;rw[List.mem_singleton.1 hu];rfl) ?_;intro w8 hg_ hw_;have BG8:=Aside0.mk hw_;have B0:=Aside0.mk ((hg_.block _ (Array.getElem?_eq_some_iff.1 K0.out).1 (fun e_=>by injection e_ with e_;have:=HGN.out;omega)).trans K0.out);have HR8:=Aside0.mk (Kd.R_grown1 L0.out rfl hg_ (zgk L0.out BG7.out (by decide)));have C0:=Aside0.mk (zcw HB7.out (some g) HB7.out.size hg_ (fun k_ e_=>by injection e_ with e_;rw[← e_];exact HGW.out));clear hg_ hw_))
  refine spec_LineOf.r10 k c0 c g cx l0 lb lx bb ad A Ax x n (rd l0 x) (rd l0 (x+9)) (rd due 0) (⟨#[]⟩) true hx hn0 hn3 hl BG8.out (zbp HR8.out).2.2 (zbp HR8.out).2.1 GL2.out KKx.out (Mx.out _ (zbc HC.out C0.out)) hlx GS.out rfl rfl rfl rfl rfl ?_
  intro w10 v86 hb10
  have D0:=Aside0.mk (zac C0.out hb10)
  have E0:=Aside0.mk ((hb10.block _ (Array.getElem?_eq_some_iff.1 B0.out).1).trans B0.out)
  have F0:=Aside0.mk (zdb HR8.out hb10)
  have BG9:=(hb10.block _ (Array.getElem?_eq_some_iff.1 BG8.out).1).trans BG8.out
  have hz0:w10.cell? ⟨g,0,none⟩=some (.int .i64 (rd l0 x)):=(zbi BG9 0).trans rfl
  have hz1:w10.cell? ⟨g,1,none⟩=some (.string (⟨#[]⟩:ByteArray)):=(zbi BG9 1).trans rfl
  have hz2:w10.cell? ⟨g,2,none⟩=some (.int .i64 (rd l0 (x+9))):=(zbi BG9 2).trans rfl
  have hz3:w10.cell? ⟨g,3,none⟩=some (.int .i64 (rd due 0)):=(zbi BG9 3).trans rfl
  have hz4:w10.cell? ⟨g,4,none⟩=some (.slice A lb.length c):=(zbi BG9 4).trans rfl
  have M0:=Aside0.mk BG9
  clear BG9 hb10 hq0
  have hu48:=Try.underlying48
  simp only[Act.put,zaq,zbj,zbk]
  go_wp2_with (first | ((with_reducible refine zet (t:=48) (p:=4) rfl ?_);refine put_whole 48 rfl rfl (.tmp 4) (.tmp 97) rfl [.int .i64 (rd l0 x), .string (⟨#[]⟩:ByteArray), .int .i64 (rd l0 (x+9)), .int .i64 (rd due 0), .slice A lb.length c] (.agg #[.int .i64 (rd l0 x), .string (⟨#[]⟩:ByteArray), .int .i64 (rd l0 (x+9)), .int .i64 (rd due 0), .slice A lb.length c]) rfl rfl E0.out rfl rfl (by kernel_rfl) (by intro u hu;simp only[zdr,zct,zfu] at hu;rcases hu with rfl | rfl | rfl | rfl | rfl <;> rfl) (by simp) ?_;intro w12 hg_ hbw;have BW:=Aside0.mk hbw;have HB2:=Aside0.mk (zcw D0.out (some gb) D0.out.size hg_ (fun k_ e_=>by injection e_ with e_;rw[← e_];exact HG.out));have GR:=Aside0.mk hg_;clear hg_ hbw))
  refine zdp (zft rfl _ _ gb 48 [.int .i64 (rd l0 x), .string (⟨#[]⟩:ByteArray), .int .i64 (rd l0 (x+9)), .int .i64 (rd due 0), .slice A lb.length c].toArray (0,0) _ rfl BW.out Try.underlying48 rfl (by kernel_rfl)) rfl ?_
  exact⟨.slice A lb.length c,by rw[ER2.out];rfl,Kd.R_grown1 F0.out rfl GR.out (zgk F0.out E0.out (by decide)),HB2.out⟩
 have ER2:Aside0 (rt=route):=⟨by rw[ERT.out,if_neg hk3]⟩
 have GL2:Aside0 (spec_LineBytes.f k (rd l0 x) (route:ByteArray) (rd l0 (x+9)) (rd due 0) lb=some bb):=⟨by rw[← ER2.out];exact GL.out⟩
 have d3:(rd l0 x==3)=false:=by rw[zau];exact hk3
 clear hk3
 have BG8:=BG7
 have B0:=K0
 have HR8:=L0
 have C0:=HB7
 go_wp2
 refine spec_LineOf.r10 k c0 c g cx l0 lb lx bb ad A Ax x n (rd l0 x) (rd l0 (x+9)) (rd due 0) (route) true hx hn0 hn3 hl BG8.out (zbp HR8.out).2.2 (zbp HR8.out).2.1 GL2.out KKx.out (Mx.out _ (zbc HC.out C0.out)) hlx GS.out rfl rfl rfl rfl rfl ?_
 intro w10 v86 hb10
 have D0:=Aside0.mk (zac C0.out hb10)
 have E0:=Aside0.mk ((hb10.block _ (Array.getElem?_eq_some_iff.1 B0.out).1).trans B0.out)
 have F0:=Aside0.mk (zdb HR8.out hb10)
 have BG9:=(hb10.block _ (Array.getElem?_eq_some_iff.1 BG8.out).1).trans BG8.out
 have hz0:w10.cell? ⟨g,0,none⟩=some (.int .i64 (rd l0 x)):=(zbi BG9 0).trans rfl
 have hz1:w10.cell? ⟨g,1,none⟩=some (.string (route:ByteArray)):=(zbi BG9 1).trans rfl
 have hz2:w10.cell? ⟨g,2,none⟩=some (.int .i64 (rd l0 (x+9))):=(zbi BG9 2).trans rfl
 have hz3:w10.cell? ⟨g,3,none⟩=some (.int .i64 (rd due 0)):=(zbi BG9 3).trans rfl
 have hz4:w10.cell? ⟨g,4,none⟩=some (.slice A lb.length c):=(zbi BG9 4).trans rfl
 have M0:=Aside0.mk BG9
 clear BG9 hb10 hq0
 have hu48:=Try.underlying48
 simp only[Act.put,zaq,zbj,zbk]
 go_wp2_with (first | ((with_reducible refine zet (t:=48) (p:=4) rfl ?_);refine put_whole 48 rfl rfl (.tmp 4) (.tmp 97) rfl [.int .i64 (rd l0 x), .string (route:ByteArray), .int .i64 (rd l0 (x+9)), .int .i64 (rd due 0), .slice A lb.length c] (.agg #[.int .i64 (rd l0 x), .string (route:ByteArray), .int .i64 (rd l0 (x+9)), .int .i64 (rd due 0), .slice A lb.length c]) rfl rfl E0.out rfl rfl (by kernel_rfl) (by intro u hu;simp only[zdr,zct,zfu] at hu;rcases hu with rfl | rfl | rfl | rfl | rfl <;> rfl) (by simp) ?_;intro w12 hg_ hbw;have BW:=Aside0.mk hbw;have HB2:=Aside0.mk (zcw D0.out (some gb) D0.out.size hg_ (fun k_ e_=>by injection e_ with e_;rw[← e_];exact HG.out));have GR:=Aside0.mk hg_;clear hg_ hbw))
 refine zdp (zft rfl _ _ gb 48 [.int .i64 (rd l0 x), .string (route:ByteArray), .int .i64 (rd l0 (x+9)), .int .i64 (rd due 0), .slice A lb.length c].toArray (0,0) _ rfl BW.out Try.underlying48 rfl (by kernel_rfl)) rfl ?_
 exact⟨.slice A lb.length c,by rw[ER2.out];rfl,Kd.R_grown1 F0.out rfl GR.out (zgk F0.out E0.out (by decide)),HB2.out⟩
set_option maxHeartbeats 4000000 in
theorem spec_LineOf.no (k:Nat) (A0:Option Addr) (c0:Nat) (l0:List Int) (x:Int) (hx:0≤x) (hx2:x+18≤(l0.length:Int)) (hl:(l0.length:Int)≤140737488355232) (h14:0≤rd l0 (x+14)∧rd l0 (x+14)≤255) (h15:0≤rd l0 (x+15)∧rd l0 (x+15)≤255) (h0:0≤rd l0 x∧rd l0 x≤255) (h9:0≤rd l0 (x+9)∧rd l0 (x+9)≤255) (n:Int) (hn:n=256*rd l0 (x+14)+rd l0 (x+15)) (hn3:x+18+n≤(l0.length:Int)) (due ld lh lb lx bb:List Int) (route rt:ByteArray) (ert:rt=if rd l0 x=3 then⟨#[]⟩ else route)
  (eld:ld=(l0.take (x+14).toNat).drop (x+10).toNat) (elh:lh=(l0.take (x+9).toNat).drop (x+1).toNat) (elb:lb=(l0.take (x+16+n).toNat).drop (x+16).toNat) (elx:lx=(l0.take (x+18+n).toNat).drop x.toNat)
  (FD:spec_Words.f k ld true=some due) (hdue:0<due.length) (FH:spec_Hex.f k lh=some route) (FL:spec_LineBytes.f k (rd l0 x) rt (rd l0 (x+9)) (rd due 0) lb=some bb) (FS:spec_Same.f bb lx=some false) (w:World) (hr0:Kd.C (Kd.int .u8) w A0 l0.length l0) (hc0:l0.length≤c0):Calls Try.prog 54 #[.slice A0 l0.length c0, .int .i64 x] w fun e w'=>∃ v4_:Value,e= .returned (.tuple #[.agg #[.int .i64 0, .string (⟨#[]⟩:ByteArray), .int .i64 0, .int .i64 0,v4_], .int .i64 0, .bool false])∧Kd.R (Kd.int .u8) 5 w' w.heap.size (fun _=>True) v4_ []∧Below w.heap.size w w':=by
 have d0:decide (x<0)=false:=zbf (by omega)
 have d1:decide (x>(l0.length:Int) - 18)=false:=zbf (by omega)
 obtain⟨ad,rfl,_⟩:=hr0.2.2 (by omega)
 have HC:=Aside0.mk hr0
 clear hr0
 have d2:decide (n>(l0.length:Int) - x - 18)=false:=zbf (by omega)
 have hn0:0≤n:=by omega
 have hn4:n≤65535:=by omega
 obtain⟨Ad,cd,hcutd,hld,hCd⟩:=cut_u8 (P:=Try.prog) 29 5 Try.underlying29 info5 (some ad) c0 l0 (x+10) (x+14) (by omega) (by omega) (by omega) hc0
 obtain⟨Ah,ch,hcuth,hlh,hCh⟩:=cut_u8 (P:=Try.prog) 29 5 Try.underlying29 info5 (some ad) c0 l0 (x+1) (x+9) (by omega) (by omega) (by omega) hc0
 obtain⟨Ab,cb,hcutb,hlb,hCb⟩:=cut_u8 (P:=Try.prog) 29 5 Try.underlying29 info5 (some ad) c0 l0 (x+16) (x+16+n) (by omega) (by omega) (by omega) hc0
 obtain⟨Ax,cx,hcutx,hlx,hCx⟩:=cut_u8 (P:=Try.prog) 29 5 Try.underlying29 info5 (some ad) c0 l0 (x) (x+18+n) (by omega) (by omega) (by omega) hc0
 rw[← eld] at hcutd hld hCd
 rw[← elh] at hcuth hlh hCh
 rw[← elb] at hcutb hlb hCb
 rw[← elx] at hcutx hlx hCx
 have F0:lb.length≤l0.length:=by rw[elb,zhi,List.length_take];omega
 have KKd:=Aside0.mk hcutd
 have Md:=Aside0.mk hCd
 clear hCd
 have KKh:=Aside0.mk hcuth
 have Mh:=Aside0.mk hCh
 clear hCh
 have KKb:=Aside0.mk hcutb
 have Mb:=Aside0.mk hCb
 clear hCb
 have KKx:=Aside0.mk hcutx
 have Mx:=Aside0.mk hCx
 clear hCx
 clear hcuth hcutb hcutx eld elh elb elx
 have ERT:=Aside0.mk ert
 clear ert
 have GD:=Aside0.mk FD
 clear FD
 have GH:=Aside0.mk FH
 clear FH
 have GL:=Aside0.mk FL
 clear FL
 have GS:=Aside0.mk FS
 clear FS
 go_enter Try.func54,Try.ntmps54
 go_wp2_with (first | (refine jgd 4 ?_;refine bx 4 ([.int .i64 0, .string (⟨#[]⟩:ByteArray), .int .i64 0, .int .i64 0, .slice none 0 0].toArray) 48 ?_;intro gb hgb w1 hbox hb;have BK:=Aside0.mk hbox;have HB:=Aside0.mk hb;have HG:=Aside0.mk (zev hgb.symm);clear hbox hb hgb))
 refine spec_LineOf.r3 (some ad) c0 l0 ad x hx hx2 (by omega) (fun w_ hd=>cell_u8 (zbc (zbc HC.out HB.out) hd.below) (x+14) (by omega) (by omega)) (fun w_ hd=>cell_u8 (zbc (zbc HC.out HB.out) hd.below) (x+15) (by omega) (by omega)) h14 h15 rfl rfl rfl ?_
 intro w3 hd3
 rw[← hn]
 have G0:=Aside0.mk ((hd3.below.block _ (Array.getElem?_eq_some_iff.1 BK.out).1).trans BK.out)
 have H0:=Aside0.mk (zac HB.out hd3.below)
 have HN:=Aside0.mk hn
 clear hd3 hn BK HB
 simp only[Act.put,zaq,zbj,zbk]
 go_wp2_with (first | (refine jgc 111 ?_;refine jgs 48 Try.func111 #[.slice Ad ld.length cd, .bool true] ?_;(with_reducible refine(spec_Words.calls k _ _ ld true due _ (Md.out _ (zbc HC.out H0.out)) hld GD.out).mono ?_);rintro e w6 ⟨v,rfl,hr,hb⟩;refine⟨_,rfl,?_⟩;have HD:=Aside0.mk hr;have o0:=Aside0.mk (zac H0.out hb);have E0:=Aside0.mk ((hb.block _ (Array.getElem?_eq_some_iff.1 G0.out).1).trans G0.out);clear hr hb H0 G0;obtain⟨gd,cdd,e_,_⟩:=Kd.R_form HD.out hdue;subst e_))
 have hdc:w6.cell? ⟨gd,0,none⟩=some (.int .i64 (rd due 0)):=by
  have h1:=(Kd.R_celln 0 HD.out 0 (by omega) (by omega)).1
  exact h1
 clear hcutd
 refine spec_LineOf.r7 k c0 cdd ch cb l0 due lh lb ad ⟨gd,0,none⟩ Ah Ab x n route hx hn0 hn3 hl (fun w_ hb=>cell_u8 (zbc (zbc HC.out o0.out) hb) x hx (by omega)) (fun w_ hb=>cell_u8 (zbc (zbc HC.out o0.out) hb) (x+9) (by omega) (by omega)) h0 h9 hdue (fun w_ hb=>zbv hb hdc) KKh.out (Mh.out _ (zbc HC.out o0.out)) hlh GH.out KKb.out (Mb.out _ (zbc HC.out o0.out)) hlb F0 rfl rfl rfl rfl rfl ?_
 intro w7 g A c v70 hb7 hg7 hblk hr7
 have HB7:=Aside0.mk (zac o0.out hb7)
 have I0:=Aside0.mk ((hb7.block _ (Array.getElem?_eq_some_iff.1 E0.out).1).trans E0.out)
 have HGN:=Aside0.mk (show gb<g from zch (Array.getElem?_eq_some_iff.1 E0.out).1 hg7)
 have HGW:=Aside0.mk (zcv o0.out.size hg7)
 have J0:=Aside0.mk (zax hr7 o0.out.size)
 have BG7:=Aside0.mk hblk
 clear hb7 hg7 hr7 hdc HD o0 E0
 have hq0:w7.cell? ⟨g,0,none⟩=some (.int .i64 (rd l0 x)):=(zbi hblk 0).trans rfl
 clear hblk
 simp only[Act.put,zaq,zbj,zbk]
 by_cases hk3:rd l0 x=3
 ·have ER2:Aside0 (rt=⟨#[]⟩):=⟨by rw[ERT.out,if_pos hk3]⟩
  have GL2:Aside0 (spec_LineBytes.f k (rd l0 x) (⟨#[]⟩:ByteArray) (rd l0 (x+9)) (rd due 0) lb=some bb):=⟨by rw[← ER2.out];exact GL.out⟩
  rw[hk3] at hq0
  clear hk3
  go_wp2_with (first | ((with_reducible refine zet (t:=9) (p:=84) rfl ?_);refine put_part 9 48 rfl rfl (.tmp 84) (.const (.string (⟨#[]⟩:ByteArray))) rfl [.string (⟨#[]⟩:ByteArray)] [.int .i64 (rd l0 x), .string (⟨#[]⟩:ByteArray), .int .i64 (rd l0 (x+9)), .int .i64 (rd due 0), .slice A lb.length c] (.string (⟨#[]⟩:ByteArray)) rfl rfl BG7.out rfl (by simp) rfl (by kernel_rfl) (by intro u hu;rw[List.mem_singleton.1 hu];rfl) ?_;intro w8 hg_ hw_;have BG8:=Aside0.mk hw_;have B0:=Aside0.mk ((hg_.block _ (Array.getElem?_eq_some_iff.1 I0.out).1 (fun e_=>by injection e_ with e_;have:=HGN.out;omega)).trans I0.out);have HR8:=Aside0.mk (Kd.R_grown1 J0.out rfl hg_ (zgk J0.out BG7.out (by decide)));have C0:=Aside0.mk (zcw HB7.out (some g) HB7.out.size hg_ (fun k_ e_=>by injection e_ with e_;rw[← e_];exact HGW.out));clear hg_ hw_))
  refine spec_LineOf.r10 k c0 c g cx l0 lb lx bb ad A Ax x n (rd l0 x) (rd l0 (x+9)) (rd due 0) (⟨#[]⟩) false hx hn0 hn3 hl BG8.out (zbp HR8.out).2.2 (zbp HR8.out).2.1 GL2.out KKx.out (Mx.out _ (zbc HC.out C0.out)) hlx GS.out rfl rfl rfl rfl rfl ?_
  intro w10 v86 hb10
  have D0:=Aside0.mk (zac C0.out hb10)
  have K0:=Aside0.mk ((hb10.block _ (Array.getElem?_eq_some_iff.1 B0.out).1).trans B0.out)
  have L0:=Aside0.mk (zdb HR8.out hb10)
  clear hb10 hq0
  simp only[Act.put,zaq,zbj,zbk]
  go_wp2_with (first | ((with_reducible refine zet (t:=48) (p:=4) rfl ?_);refine put_whole 48 rfl rfl (.tmp 4) (.tmp 96) rfl [.int .i64 0, .string (⟨#[]⟩:ByteArray), .int .i64 0, .int .i64 0, .slice none 0 0] (.agg #[.int .i64 0, .string (⟨#[]⟩:ByteArray), .int .i64 0, .int .i64 0, .slice none 0 0]) rfl rfl K0.out rfl rfl (by kernel_rfl) (by intro u hu;simp only[zdr,zct,zfu] at hu;rcases hu with rfl | rfl | rfl | rfl | rfl <;> rfl) (by simp) ?_;intro w12 hg_ hbw;have BW:=Aside0.mk hbw;have HB2:=Aside0.mk (zcw D0.out (some gb) D0.out.size hg_ (fun k_ e_=>by injection e_ with e_;rw[← e_];exact HG.out));have GR:=Aside0.mk hg_;clear hg_ hbw))
  refine zdp (zft rfl _ _ gb 48 [.int .i64 0, .string (⟨#[]⟩:ByteArray), .int .i64 0, .int .i64 0, .slice none 0 0].toArray (0,0) _ rfl BW.out Try.underlying48 rfl (by kernel_rfl)) rfl ?_
  exact⟨.slice none 0 0,rfl,zgo _ _ _ _ _,HB2.out⟩
 have ER2:Aside0 (rt=route):=⟨by rw[ERT.out,if_neg hk3]⟩
 have GL2:Aside0 (spec_LineBytes.f k (rd l0 x) (route:ByteArray) (rd l0 (x+9)) (rd due 0) lb=some bb):=⟨by rw[← ER2.out];exact GL.out⟩
 have d3:(rd l0 x==3)=false:=by rw[zau];exact hk3
 clear hk3
 have BG8:=BG7
 have B0:=I0
 have HR8:=J0
 have C0:=HB7
 go_wp2
 refine spec_LineOf.r10 k c0 c g cx l0 lb lx bb ad A Ax x n (rd l0 x) (rd l0 (x+9)) (rd due 0) (route) false hx hn0 hn3 hl BG8.out (zbp HR8.out).2.2 (zbp HR8.out).2.1 GL2.out KKx.out (Mx.out _ (zbc HC.out C0.out)) hlx GS.out rfl rfl rfl rfl rfl ?_
 intro w10 v86 hb10
 have D0:=Aside0.mk (zac C0.out hb10)
 have K0:=Aside0.mk ((hb10.block _ (Array.getElem?_eq_some_iff.1 B0.out).1).trans B0.out)
 have L0:=Aside0.mk (zdb HR8.out hb10)
 clear hb10 hq0
 simp only[Act.put,zaq,zbj,zbk]
 go_wp2_with (first | ((with_reducible refine zet (t:=48) (p:=4) rfl ?_);refine put_whole 48 rfl rfl (.tmp 4) (.tmp 96) rfl [.int .i64 0, .string (⟨#[]⟩:ByteArray), .int .i64 0, .int .i64 0, .slice none 0 0] (.agg #[.int .i64 0, .string (⟨#[]⟩:ByteArray), .int .i64 0, .int .i64 0, .slice none 0 0]) rfl rfl K0.out rfl rfl (by kernel_rfl) (by intro u hu;simp only[zdr,zct,zfu] at hu;rcases hu with rfl | rfl | rfl | rfl | rfl <;> rfl) (by simp) ?_;intro w12 hg_ hbw;have BW:=Aside0.mk hbw;have HB2:=Aside0.mk (zcw D0.out (some gb) D0.out.size hg_ (fun k_ e_=>by injection e_ with e_;rw[← e_];exact HG.out));have GR:=Aside0.mk hg_;clear hg_ hbw))
 refine zdp (zft rfl _ _ gb 48 [.int .i64 0, .string (⟨#[]⟩:ByteArray), .int .i64 0, .int .i64 0, .slice none 0 0].toArray (0,0) _ rfl BW.out Try.underlying48 rfl (by kernel_rfl)) rfl ?_
 exact⟨.slice none 0 0,rfl,zgo _ _ _ _ _,HB2.out⟩
theorem spec_LineOf.calls (k:Nat) (A0:Option Addr) (c0:Nat) (l0:List Int) (a1:Int) (r1:Int) (r2:ByteArray) (r3:Int) (r4:Int) (r5:List Int) (r6:Int) (r7:Bool) (w:World) (hr0:Kd.C (Kd.int .u8) w A0 l0.length l0) (hc0:l0.length≤c0) (h:spec_LineOf.f k l0 a1=some (r1,r2,r3,r4,r5,r6,r7)):
  Calls Try.prog 54 #[.slice A0 l0.length c0, .int .i64 a1] w fun e w'=>∃ v4_:Value,e= .returned (.tuple #[.agg #[.int .i64 r1, .string r2, .int .i64 r3, .int .i64 r4,v4_], .int .i64 r6, .bool r7])∧Kd.R (Kd.int .u8) 5 w' w.heap.size (fun _=>True) v4_ r5∧Below w.heap.size w w':=by
 have nope:some ((0:Int),(⟨#[]⟩:ByteArray),(0:Int),(0:Int),([]:List Int),(0:Int),false)=some (r1,r2,r3,r4,r5,r6,r7)→0=r1∧(⟨#[]⟩:ByteArray)=r2∧0=r3∧0=r4∧[]=r5∧0=r6∧false=r7:=by
  intro h
  simpa only[zaz,zbn] using h
 unfold spec_LineOf.f at h
 by_cases c1:(l0.length:Int)≤140737488355232
 ·rw[if_pos c1] at h
  by_cases c2:0≤a1∧a1+18≤(l0.length:Int)
  ·rw[if_pos c2] at h
   by_cases c3:(0≤rd l0 a1∧rd l0 a1≤255)∧(0≤rd l0 (a1+9)∧rd l0 (a1+9)≤255)∧(0≤rd l0 (a1+14)∧rd l0 (a1+14)≤255)∧(0≤rd l0 (a1+15)∧rd l0 (a1+15)≤255)
   ·rw[if_pos c3] at h
    obtain⟨b0,b9,b14,b15⟩:=c3
    by_cases c4:a1+18+(256*rd l0 (a1+14)+rd l0 (a1+15))≤(l0.length:Int)
    ·rw[if_pos c4] at h
     obtain⟨due,hd,h⟩:=zcq.1 h
     by_cases c5:0<due.length
     ·rw[if_pos c5] at h
      obtain⟨route,ht,h⟩:=zcq.1 h
      obtain⟨bb,hb,h⟩:=zcq.1 h
      obtain⟨s,hs,h⟩:=zcq.1 h
      cases s with
      | true=>
       rw[if_pos rfl] at h
       simp only[zaz,zbn] at h
       obtain⟨rfl,rfl,rfl,rfl,rfl,rfl,rfl⟩:=h
       exact spec_LineOf.yes k A0 c0 l0 a1 c2.1 c2.2 c1 b14 b15 b0 b9 _ rfl c4 due _ _ _ _ bb route _ rfl rfl rfl rfl rfl hd c5 ht hb hs w hr0 hc0
      | false=>
       rw[if_neg (by decide)] at h
       obtain⟨rfl,rfl,rfl,rfl,rfl,rfl,rfl⟩:=nope h
       exact spec_LineOf.no k A0 c0 l0 a1 c2.1 c2.2 c1 b14 b15 b0 b9 _ rfl c4 due _ _ _ _ bb route _ rfl rfl rfl rfl rfl hd c5 ht hb hs w hr0 hc0
     rw[if_neg c5] at h
     cases h
    rw[if_neg c4] at h
    obtain⟨rfl,rfl,rfl,rfl,rfl,rfl,rfl⟩:=nope h
    exact spec_LineOf.long A0 c0 l0 a1 c2.1 c2.2 c1 b14 b15 (by omega) w hr0
   rw[if_neg c3] at h
   cases h
  rw[if_neg c2] at h
  obtain⟨rfl,rfl,rfl,rfl,rfl,rfl,rfl⟩:=nope h
  by_cases c3:a1<0
  ·exact spec_LineOf.low A0 c0 l0 a1 c3 w
  exact spec_LineOf.high A0 c0 l0 a1 (by omega) (by omega) c1 w
 rw[if_neg c1] at h
 cases h
end Go.Proofs.Ytlalkldjpniakaa.P
