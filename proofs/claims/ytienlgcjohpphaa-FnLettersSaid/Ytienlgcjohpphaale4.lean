import Derived.Test.YtienlgcjohpphaaProg
import Derived.Lib.Bytealg
import Derived.Lib.SliceRun
import Derived.Lib.SlBuf
import Derived.Lib.MakeNoZero
import Derived.Test.Ytienlgcjohpphaale3
namespace Go.Proofs.Ytienlgcjohpphaa.P
open Go.RowKit Go.Proofs.YtienlgcjohpphaaW.PrintWords Go.Proofs.YtienlgcjohpphaaW.PrintLast Go.Proofs.YtienlgcjohpphaaW.PrintMore
attribute [local go_sem] max2_int min2_int max_two min_two max_three min_three max_four min_four -- for this text's walks alone
set_option linter.unusedVariables false
set_option linter.unusedSimpArgs false



def errW:Option Int→Value
 | none=> .nilIface
 | some c=> .iface 0 (.int .i64 c)
theorem errW_none:errW none= .nilIface:=rfl
theorem errW_some (c:Int):errW (some c)= .iface 0 (.int .i64 c):=rfl

theorem info3:(Try.prog.info? 3).map (fun i=>(i.zero,i.size,i.bytes))=some (some (.int .i64 0),1,8):=by kernel_rfl
theorem info5:(Try.prog.info? 5).map (fun i=>(i.zero,i.size,i.bytes))=some (some (.int .u8 0),1,1):=by kernel_rfl
theorem info23:(Try.prog.info? 23).map (fun i=>(i.zero,i.size,i.bytes))=some (some (.slice none 0 0),1,24):=by kernel_rfl
-- the values' own types
def rd_L2 (xs:List (List Int)) (i:Int):(List Int):=xs.getD i.toNat ([]:List Int)
theorem at_L2 {w:World} {A:Option Addr} {n:Nat} {xs:List (List Int)} (h:Kd.C (Kd.slice 3 (Kd.int .i64)) w A n xs) (i:Int) (h0:0≤i) (h1:i<n):∃ ad A0 c0,A=some ad∧w.cell? (ad.add i.toNat)=some (.slice A0 (rd_L2 xs i).length c0)∧(rd_L2 xs i).length≤c0∧(Kd.int .i64).C w A0 (rd_L2 xs i).length (rd_L2 xs i):=by
 obtain⟨ad,c,e,_,hK,hc0⟩:=Kd.C_get h ([]:List Int) i h0 h1
 have hc:∀ j u,c[j]? =some u→w.cell? (ad.add (i.toNat*1+j))=some u:=hc0
 obtain⟨A0,c0,rfl,l0,g0⟩:=hK
 exact⟨ad,A0,c0,e,by have hq:=hc 0 _ rfl;rwa [Nat.mul_one,Nat.add_zero] at hq,l0,g0⟩

def rd_L3 (xs:List (List Int)) (i:Int):(List Int):=xs.getD i.toNat ([]:List Int)
theorem at_L3 {w:World} {A:Option Addr} {n:Nat} {xs:List (List Int)} (h:Kd.C (Kd.slice 5 (Kd.int .u8)) w A n xs) (i:Int) (h0:0≤i) (h1:i<n):∃ ad A0 c0,A=some ad∧w.cell? (ad.add i.toNat)=some (.slice A0 (rd_L3 xs i).length c0)∧(rd_L3 xs i).length≤c0∧(Kd.int .u8).C w A0 (rd_L3 xs i).length (rd_L3 xs i):=by
 obtain⟨ad,c,e,_,hK,hc0⟩:=Kd.C_get h ([]:List Int) i h0 h1
 have hc:∀ j u,c[j]? =some u→w.cell? (ad.add (i.toNat*1+j))=some u:=hc0
 obtain⟨A0,c0,rfl,l0,g0⟩:=hK
 exact⟨ad,A0,c0,e,by have hq:=hc 0 _ rfl;rwa [Nat.mul_one,Nat.add_zero] at hq,l0,g0⟩

def rd_L4 (xs:List (List (List Int))) (i:Int):(List (List Int)):=xs.getD i.toNat ([]:List (List Int))
theorem at_L4 {w:World} {A:Option Addr} {n:Nat} {xs:List (List (List Int))} (h:Kd.C (Kd.slice 23 (Kd.slice 5 (Kd.int .u8))) w A n xs) (i:Int) (h0:0≤i) (h1:i<n):∃ ad A0 c0,A=some ad∧w.cell? (ad.add i.toNat)=some (.slice A0 (rd_L4 xs i).length c0)∧(rd_L4 xs i).length≤c0∧(Kd.slice 5 (Kd.int .u8)).C w A0 (rd_L4 xs i).length (rd_L4 xs i):=by
 obtain⟨ad,c,e,_,hK,hc0⟩:=Kd.C_get h ([]:List (List Int)) i h0 h1
 have hc:∀ j u,c[j]? =some u→w.cell? (ad.add (i.toNat*1+j))=some u:=hc0
 obtain⟨A0,c0,rfl,l0,g0⟩:=hK
 exact⟨ad,A0,c0,e,by have hq:=hc 0 _ rfl;rwa [Nat.mul_one,Nat.add_zero] at hq,l0,g0⟩

structure S55 where
 f0:Int
 f1:(List Int)
 f2:(List Int)
def z55:S55:=⟨(0:Int),([]:List Int),([]:List Int)⟩
def k55:Kd S55:=Kd.iso (Kd.pair (Kd.int .i64) (Kd.pair (Kd.slice 5 (Kd.int .u8)) (Kd.slice 5 (Kd.int .u8)))) (fun x:S55=>(x.f0,x.f1,x.f2))
theorem k55_heap:Kd.Heap k55:=Kd.heap_iso _ (Kd.heap_pair (Kd.heap_int .i64) (Kd.heap_pair (Kd.heap_slice 5 (Kd.heap_int .u8)) (Kd.heap_slice 5 (Kd.heap_int .u8))))
theorem k55_open {w:World} {x:S55} {cs:List Value} (h:k55.K w x cs):∃ A1 c1 A2 c2,cs=[.int .i64 x.f0, .slice A1 x.f1.length c1, .slice A2 x.f2.length c2]∧x.f1.length≤c1∧(Kd.int .u8).C w A1 x.f1.length x.f1∧x.f2.length≤c2∧(Kd.int .u8).C w A2 x.f2.length x.f2:=by
 obtain⟨_,_,rfl,rfl,⟨_,_,rfl,⟨A1,c1,rfl,l1,g1⟩,⟨A2,c2,rfl,l2,g2⟩⟩⟩:=h
 exact⟨A1,c1,A2,c2,rfl,l1,g1,l2,g2⟩
theorem k55_openM {w:World} {base:Nat} {ok:Nat→Prop} {x:S55} {cs:List Value} (h:k55.M w base ok x cs):∃ v1 v2,cs=[.int .i64 x.f0,v1,v2]∧(Kd.int .u8).R 5 w base ok v1 x.f1∧(Kd.int .u8).R 5 w base ok v2 x.f2:=by
 obtain⟨_,_,rfl,rfl,⟨_,_,rfl,⟨v1,rfl,g1⟩,⟨v2,rfl,g2⟩⟩⟩:=h
 exact⟨v1,v2,rfl,g1,g2⟩
theorem k55_mk (w:World) (x:S55) {A1:Option Addr} {c1:Nat} (l1:x.f1.length≤c1) (g1:(Kd.int .u8).C w A1 x.f1.length x.f1) {A2:Option Addr} {c2:Nat} (l2:x.f2.length≤c2) (g2:(Kd.int .u8).C w A2 x.f2.length x.f2):k55.K w x [.int .i64 x.f0, .slice A1 x.f1.length c1, .slice A2 x.f2.length c2]:=⟨[.int .i64 x.f0],[.slice A1 x.f1.length c1, .slice A2 x.f2.length c2],rfl,rfl,⟨[.slice A1 x.f1.length c1],[.slice A2 x.f2.length c2],rfl,⟨A1,c1,rfl,l1,g1⟩,⟨A2,c2,rfl,l2,g2⟩⟩⟩
theorem k55_mkM (w:World) (base:Nat) (ok:Nat→Prop) (x:S55) {v1:Value} (g1:(Kd.int .u8).R 5 w base ok v1 x.f1) {v2:Value} (g2:(Kd.int .u8).R 5 w base ok v2 x.f2):k55.M w base ok x [.int .i64 x.f0,v1,v2]:=⟨[.int .i64 x.f0],[v1,v2],rfl,rfl,⟨[v1],[v2],rfl,⟨v1,rfl,g1⟩,⟨v2,rfl,g2⟩⟩⟩
theorem k55_openF {W:World} {ok:Nat→Prop} {x:S55} {cs:List Value} (h:Kd.FK k55 W ok x cs):∃ A1 c1 A2 c2,cs=[.int .i64 x.f0, .slice A1 x.f1.length c1, .slice A2 x.f2.length c2]∧x.f1.length≤c1∧Kd.F (Kd.int .u8) W ok A1 x.f1.length x.f1∧x.f2.length≤c2∧Kd.F (Kd.int .u8) W ok A2 x.f2.length x.f2:=by
 obtain⟨A1,c1,A2,c2,rfl,l1,_,l2,_⟩:=k55_open (Kd.FK_now h)
 exact⟨A1,c1,A2,c2,rfl,l1,(fun W' hW=>by obtain⟨A1_,c1_,A2_,c2_,he,l1_,g1_,l2_,g2_⟩:=k55_open (h W' hW);injection (Option.some.inj (show some (Value.slice A1 x.f1.length c1)=some (Value.slice A1_ x.f1.length c1_) from congrArg (fun l=>l[1]?) he)) with ha_ _ _;rw[ha_];exact g1_),l2,(fun W' hW=>by obtain⟨A1_,c1_,A2_,c2_,he,l1_,g1_,l2_,g2_⟩:=k55_open (h W' hW);injection (Option.some.inj (show some (Value.slice A2 x.f2.length c2)=some (Value.slice A2_ x.f2.length c2_) from congrArg (fun l=>l[2]?) he)) with ha_ _ _;rw[ha_];exact g2_)⟩
theorem k55_mkF (W:World) (ok:Nat→Prop) (x:S55) {A1:Option Addr} {c1:Nat} (l1:x.f1.length≤c1) (g1:Kd.F (Kd.int .u8) W ok A1 x.f1.length x.f1) {A2:Option Addr} {c2:Nat} (l2:x.f2.length≤c2) (g2:Kd.F (Kd.int .u8) W ok A2 x.f2.length x.f2):Kd.FK k55 W ok x [.int .i64 x.f0, .slice A1 x.f1.length c1, .slice A2 x.f2.length c2]:=fun W2 hW=>k55_mk W2 x l1 (g1 W2 hW) l2 (g2 W2 hW)
def rd_T55 (xs:List S55) (i:Int):S55:=xs.getD i.toNat z55
theorem at_T55 {w:World} {A:Option Addr} {n:Nat} {xs:List S55} (h:Kd.C k55 w A n xs) (i:Int) (h0:0≤i) (h1:i<n):∃ ad A1 c1 A2 c2,A=some ad∧w.cell? (ad.add (i.toNat*3))=some (.int .i64 (rd_T55 xs i).f0)∧w.cell? ⟨(ad.add (i.toNat*3)).block,(ad.add (i.toNat*3)).off+1,none⟩=some (.slice A1 (rd_T55 xs i).f1.length c1)∧w.cell? ⟨(ad.add (i.toNat*3)).block,(ad.add (i.toNat*3)).off+2,none⟩=some (.slice A2 (rd_T55 xs i).f2.length c2)∧(rd_T55 xs i).f1.length≤c1∧(Kd.int .u8).C w A1 (rd_T55 xs i).f1.length (rd_T55 xs i).f1∧(rd_T55 xs i).f2.length≤c2∧(Kd.int .u8).C w A2 (rd_T55 xs i).f2.length (rd_T55 xs i).f2:=by
 obtain⟨ad,c,e,_,hK,hc0⟩:=Kd.C_get h z55 i h0 h1
 have hc:∀ j u,c[j]? =some u→w.cell? (ad.add (i.toNat*3+j))=some u:=hc0
 obtain⟨A1,c1,A2,c2,rfl,l1,g1,l2,g2⟩:=k55_open hK
 exact⟨ad,A1,c1,A2,c2,e,hc 0 _ rfl,by rw[← add_field _ _ 1 (by omega)];exact hc 1 _ rfl,by rw[← add_field _ _ 2 (by omega)];exact hc 2 _ rfl,l1,g1,l2,g2⟩
end Go.Proofs.Ytienlgcjohpphaa.P
/- Short names for theorems that the texts name often; they state what the long ones state. -/
namespace Go.Proofs.Ytienlgcjohpphaa.P
open Go.RowKit Go.Proofs.YtienlgcjohpphaaW.PrintWords Go.Proofs.YtienlgcjohpphaaW.PrintLast Go.Proofs.YtienlgcjohpphaaW.PrintMore
theorem bind_ofs {α β:Type} {a:α} {f:α→Option β} {r:Option β} (H:(some a).bind f=r):f a=r:=H
theorem Kd.R_ofs {α:Type} {d:Kd α} {e:Nat} {W w1:World} {base:Nat} {ok:Nat→Prop} {v:Value} {xs:List α} (h:Kd.R d e W base ok v xs) (_:Below W.heap.size W w1):Kd.R d e W base ok v xs:=h
theorem below_ofs {B:Nat} {w W w1:World} (h:Below B w W) (_:Below W.heap.size W w1):Below B w W:=h
theorem bq {P:Prop} (h:P:=by repeat(first | (with_reducible first | exact HB.out | apply below_alloc | apply pw_below_drewN | apply below_drew1) | exact HB.out)):P:=h
theorem bs1 {P A:Prop} (a:A) (h:A→P:=by intro a_;repeat(first | (with_reducible first | exact HB.out | apply below_alloc | apply pw_below_drewN | apply below_drew1 | refine below_set ?_ a_) | exact HB.out)):P:=h a
theorem bs2 {P A B:Prop} (a:A) (b:B) (h:A→B→P:=by intro a_ b_;repeat(first | (with_reducible first | exact HB.out | apply below_alloc | apply pw_below_drewN | apply below_drew1 | refine below_set ?_ a_ | refine below_set ?_ b_) | exact HB.out)):P:=h a b
theorem bs3 {P A B C:Prop} (a:A) (b:B) (c:C) (h:A→B→C→P:=by intro a_ b_ c_;repeat(first | (with_reducible first | exact HB.out | apply below_alloc | apply pw_below_drewN | apply below_drew1 | refine below_set ?_ a_ | refine below_set ?_ b_ | refine below_set ?_ c_) | exact HB.out)):P:=h a b c
theorem jk {P:Prop} (h:P:=by repeat(first | (with_reducible first | exact HK.out | apply KeepBut.set_ | apply keep_drewN | apply keep_drew | apply keep_alloc) | exact HK.out)):P:=h
theorem jks1 {P A:Prop} (a:A) (h:A→P:=by intro a_;repeat(first | (with_reducible first | exact HK.out | apply KeepBut.set_ | apply keep_drewN | apply keep_drew | apply keep_alloc | refine keep_far ?_ a_ _) | exact HK.out)):P:=h a
theorem jks2 {P A B:Prop} (a:A) (b:B) (h:A→B→P:=by intro a_ b_;repeat(first | (with_reducible first | exact HK.out | apply KeepBut.set_ | apply keep_drewN | apply keep_drew | apply keep_alloc | refine keep_far ?_ a_ _ | refine keep_far ?_ b_ _) | exact HK.out)):P:=h a b
theorem pR {P A:Prop} (a:A) (h:A→P:=by intro a_;(with_reducible repeat(first | apply Kd.R_alloc | apply Kd.R_drewN | apply Kd.R_drew));exact a_):P:=h a
theorem pN {P A:Prop} (a:A) (h:A→P:=by intro a_;(with_reducible repeat(first | apply Kd.N_alloc | apply Kd.N_drewN | apply Kd.N_drew));exact a_):P:=h a
theorem pV {P A:Prop} (a:A) (h:A→P:=by intro a_;(with_reducible repeat(first | apply Kd.V_alloc | apply Kd.V_drewN | apply Kd.V_drew));exact a_):P:=h a
theorem pB {P A:Prop} (a:A) (h:A→P:=by intro a_;(with_reducible repeat(first | refine blk_drewN ?_ _ | refine blk_drew ?_ | refine blk_alloc ?_ _));exact a_):P:=h a
theorem jbb {w w1 w2:World} {g:Nat} {o:Obj} (a:w.heap[g]? =some o) (hb:Below w1.heap.size w1 w2) (h:w.heap[g]? =some o→w1.heap[g]? =some o:=by intro a_;(with_reducible repeat(first | refine blk_drewN ?_ _ | refine blk_drew ?_ | refine blk_alloc ?_ _));exact a_):w2.heap[g]? =some o:=blk_below (h a) hb
theorem jcs {P A:Prop} (a:A) (h:A→P:=by intro a_;repeat(first | exact(Kd.C_below a_ HB.out) | (with_reducible first | apply Kd.C_alloc | apply Kd.C_drewN | apply Kd.C_drew))):P:=h a
theorem jab {P:Prop} (h:P:=by first | (with_reducible assumption) | assumption):P:=h
theorem jex {P:Prop} (h:P:=by first | rfl | (simp [errW_none,errW_some] <;> rfl) | (simp [*,errW_none,errW_some] <;> rfl)):P:=h
theorem jer {P:Prop} (h:P:=by first | rfl | (simp;done) | (simp [*];done)):P:=h
theorem jhl {P:Prop} (h:P:=by(try simp only[List.map_toArray,List.map_cons,List.map_nil]);first | done | rfl | (simp only[List.length_drop,List.length_take];rfl) | (simp only[List.length_drop,List.length_take];rw[Nat.min_eq_left (Int.toNat_le.mpr (of_eq_true (by assumption)))])):P:=h
theorem bto {α β:Type} {y a:α} {f:α→Option β} {r:Option β} (h:y=a) (H:(some a).bind f=r):f y=r:=h ▸ H
theorem jcB {w w':World} {a:Addr} {v:Value} (b:Below w.heap.size w w') (h:w.cell? a=some v):w'.cell? a=some v:=(b.cell (World.block_lt_of_cell? w _ h)).trans h
theorem beqT {α:Type} [BEq α] [LawfulBEq α] {a b:α} (h:a=b):(a==b)=true:=beq_iff_eq.mpr h
theorem ge0 {w w':World} {g:Nat} (hg:g=w'.heap.size) (b:Below w.heap.size w w'):w.heap.size≤g:=hg ▸ below_size b
theorem nl {w:World} {g g':Nat} {o:Obj} (hg:g'=w.heap.size) (h:w.heap[g]? =some o):g≠g':=hg ▸ Nat.ne_of_lt (blk_lt h)
theorem ng {w:World} {g g':Nat} {o:Obj} (hg:g'=w.heap.size) (h:w.heap[g]? =some o):g'≠g:=hg ▸ Nat.ne_of_gt (blk_lt h)
section
variable {P:Program} {ops:Array Oper} {Q:Exit→Act→World→Prop} {rest:List Oper} {o:Oper} {a:Act} {W:World}
theorem bx (N:Tmp) (cs:Array Value) (t:TypeId) (h:∀ g,g=W.heap.size→∀ w1,w1.heap[g]? =some (.cells cs t (0,0))→Below W.heap.size W w1→wpList P ops Q rest (a.put o.dst (.pointer (some ⟨g,0,none⟩))) w1) (hd:o.dst=some N:=by rfl) (hgd:o.guard=none:=by rfl)
    (hrun:(execOp a.eval o).run P W= .ok (.value (.pointer (some ⟨W.heap.size,0,none⟩))) (W.alloc (.cells cs t (0,0))):=by first | (go_simp;done) | (go_simp;rfl)):wpList P ops Q (o :: rest) a W:=box_event hgd hd hrun h
end
section
variable {P:Program} {ops:Array Oper} {Q:Exit→Act→World→Prop} {rest:List Oper} {o:Oper} {a:Act} {W:World}
theorem jgd (N:Tmp) (h:wpList P ops Q (o :: rest) a W) (_hN:o.dst=some N:=by with_reducible rfl):wpList P ops Q (o :: rest) a W:=h
end
theorem jA2 {p0 p1:Prop} (x0:p0) (x1:p1):Aside0 p0∧Aside0 p1:=⟨⟨x0⟩,⟨x1⟩⟩
theorem jA3 {p0 p1 p2:Prop} (x0:p0) (x1:p1) (x2:p2):Aside0 p0∧Aside0 p1∧Aside0 p2:=⟨⟨x0⟩,⟨x1⟩,⟨x2⟩⟩
theorem jA4 {p0 p1 p2 p3:Prop} (x0:p0) (x1:p1) (x2:p2) (x3:p3):Aside0 p0∧Aside0 p1∧Aside0 p2∧Aside0 p3:=⟨⟨x0⟩,⟨x1⟩,⟨x2⟩,⟨x3⟩⟩
theorem jA5 {p0 p1 p2 p3 p4:Prop} (x0:p0) (x1:p1) (x2:p2) (x3:p3) (x4:p4):Aside0 p0∧Aside0 p1∧Aside0 p2∧Aside0 p3∧Aside0 p4:=⟨⟨x0⟩,⟨x1⟩,⟨x2⟩,⟨x3⟩,⟨x4⟩⟩
theorem jA6 {p0 p1 p2 p3 p4 p5:Prop} (x0:p0) (x1:p1) (x2:p2) (x3:p3) (x4:p4) (x5:p5):Aside0 p0∧Aside0 p1∧Aside0 p2∧Aside0 p3∧Aside0 p4∧Aside0 p5:=⟨⟨x0⟩,⟨x1⟩,⟨x2⟩,⟨x3⟩,⟨x4⟩,⟨x5⟩⟩
theorem jA7 {p0 p1 p2 p3 p4 p5 p6:Prop} (x0:p0) (x1:p1) (x2:p2) (x3:p3) (x4:p4) (x5:p5) (x6:p6):Aside0 p0∧Aside0 p1∧Aside0 p2∧Aside0 p3∧Aside0 p4∧Aside0 p5∧Aside0 p6:=⟨⟨x0⟩,⟨x1⟩,⟨x2⟩,⟨x3⟩,⟨x4⟩,⟨x5⟩,⟨x6⟩⟩
theorem jA8 {p0 p1 p2 p3 p4 p5 p6 p7:Prop} (x0:p0) (x1:p1) (x2:p2) (x3:p3) (x4:p4) (x5:p5) (x6:p6) (x7:p7):Aside0 p0∧Aside0 p1∧Aside0 p2∧Aside0 p3∧Aside0 p4∧Aside0 p5∧Aside0 p6∧Aside0 p7:=⟨⟨x0⟩,⟨x1⟩,⟨x2⟩,⟨x3⟩,⟨x4⟩,⟨x5⟩,⟨x6⟩,⟨x7⟩⟩
theorem jA9 {p0 p1 p2 p3 p4 p5 p6 p7 p8:Prop} (x0:p0) (x1:p1) (x2:p2) (x3:p3) (x4:p4) (x5:p5) (x6:p6) (x7:p7) (x8:p8):Aside0 p0∧Aside0 p1∧Aside0 p2∧Aside0 p3∧Aside0 p4∧Aside0 p5∧Aside0 p6∧Aside0 p7∧Aside0 p8:=⟨⟨x0⟩,⟨x1⟩,⟨x2⟩,⟨x3⟩,⟨x4⟩,⟨x5⟩,⟨x6⟩,⟨x7⟩,⟨x8⟩⟩
theorem jA10 {p0 p1 p2 p3 p4 p5 p6 p7 p8 p9:Prop} (x0:p0) (x1:p1) (x2:p2) (x3:p3) (x4:p4) (x5:p5) (x6:p6) (x7:p7) (x8:p8) (x9:p9):Aside0 p0∧Aside0 p1∧Aside0 p2∧Aside0 p3∧Aside0 p4∧Aside0 p5∧Aside0 p6∧Aside0 p7∧Aside0 p8∧Aside0 p9:=⟨⟨x0⟩,⟨x1⟩,⟨x2⟩,⟨x3⟩,⟨x4⟩,⟨x5⟩,⟨x6⟩,⟨x7⟩,⟨x8⟩,⟨x9⟩⟩
theorem jA11 {p0 p1 p2 p3 p4 p5 p6 p7 p8 p9 p10:Prop} (x0:p0) (x1:p1) (x2:p2) (x3:p3) (x4:p4) (x5:p5) (x6:p6) (x7:p7) (x8:p8) (x9:p9) (x10:p10):Aside0 p0∧Aside0 p1∧Aside0 p2∧Aside0 p3∧Aside0 p4∧Aside0 p5∧Aside0 p6∧Aside0 p7∧Aside0 p8∧Aside0 p9∧Aside0 p10:=⟨⟨x0⟩,⟨x1⟩,⟨x2⟩,⟨x3⟩,⟨x4⟩,⟨x5⟩,⟨x6⟩,⟨x7⟩,⟨x8⟩,⟨x9⟩,⟨x10⟩⟩
theorem jA12 {p0 p1 p2 p3 p4 p5 p6 p7 p8 p9 p10 p11:Prop} (x0:p0) (x1:p1) (x2:p2) (x3:p3) (x4:p4) (x5:p5) (x6:p6) (x7:p7) (x8:p8) (x9:p9) (x10:p10) (x11:p11):Aside0 p0∧Aside0 p1∧Aside0 p2∧Aside0 p3∧Aside0 p4∧Aside0 p5∧Aside0 p6∧Aside0 p7∧Aside0 p8∧Aside0 p9∧Aside0 p10∧Aside0 p11:=⟨⟨x0⟩,⟨x1⟩,⟨x2⟩,⟨x3⟩,⟨x4⟩,⟨x5⟩,⟨x6⟩,⟨x7⟩,⟨x8⟩,⟨x9⟩,⟨x10⟩,⟨x11⟩⟩
theorem jA13 {p0 p1 p2 p3 p4 p5 p6 p7 p8 p9 p10 p11 p12:Prop} (x0:p0) (x1:p1) (x2:p2) (x3:p3) (x4:p4) (x5:p5) (x6:p6) (x7:p7) (x8:p8) (x9:p9) (x10:p10) (x11:p11) (x12:p12):Aside0 p0∧Aside0 p1∧Aside0 p2∧Aside0 p3∧Aside0 p4∧Aside0 p5∧Aside0 p6∧Aside0 p7∧Aside0 p8∧Aside0 p9∧Aside0 p10∧Aside0 p11∧Aside0 p12:=⟨⟨x0⟩,⟨x1⟩,⟨x2⟩,⟨x3⟩,⟨x4⟩,⟨x5⟩,⟨x6⟩,⟨x7⟩,⟨x8⟩,⟨x9⟩,⟨x10⟩,⟨x11⟩,⟨x12⟩⟩
theorem jA14 {p0 p1 p2 p3 p4 p5 p6 p7 p8 p9 p10 p11 p12 p13:Prop} (x0:p0) (x1:p1) (x2:p2) (x3:p3) (x4:p4) (x5:p5) (x6:p6) (x7:p7) (x8:p8) (x9:p9) (x10:p10) (x11:p11) (x12:p12) (x13:p13):Aside0 p0∧Aside0 p1∧Aside0 p2∧Aside0 p3∧Aside0 p4∧Aside0 p5∧Aside0 p6∧Aside0 p7∧Aside0 p8∧Aside0 p9∧Aside0 p10∧Aside0 p11∧Aside0 p12∧Aside0 p13:=⟨⟨x0⟩,⟨x1⟩,⟨x2⟩,⟨x3⟩,⟨x4⟩,⟨x5⟩,⟨x6⟩,⟨x7⟩,⟨x8⟩,⟨x9⟩,⟨x10⟩,⟨x11⟩,⟨x12⟩,⟨x13⟩⟩
section
variable {P:Program} {ops:Array Oper} {Q:Exit→Act→World→Prop} {rest:List Oper} {o:Oper} {a:Act} {W:World}
theorem jgc (f:FuncId) {as_:Array Operand} {ts:Array TypeId} (h:wpList P ops Q (o :: rest) a W) (_ho:o.op= .call {callee:= .value (.func f),args:=as_,argTypes:=ts}:=by with_reducible exact rfl):wpList P ops Q (o :: rest) a W:=h
end
section
variable {P:Program} {ops:Array Oper} {Q:Exit→Act→World→Prop} {rest:List Oper} {o:Oper} {a:Act} {W:World}
theorem jgs (n:Tmp) {f:FuncId} {fn:Func} (hf:P.funcs[f]? =some fn) {as_:Array Operand} {ts:Array TypeId} (args:Array Value) (h:Calls P f args W fun e w'=>∃ v,e= .returned v∧wpList P ops Q rest (a.put (some n) v) w') (hd:o.dst=some n:=by rfl) (hg:o.guard=none:=by rfl) (hname:(fn.name== "runtime.NumGoroutine")=false:=by kernel_rfl) (hb:fn.body.isSome=true:=by rfl)
    (hop:o.op= .call {callee:= .value (.func f),args:=as_,argTypes:=ts}:=by rfl) (hargs:as_.map a.eval=args:=by(try simp only[List.map_toArray,List.map_cons,List.map_nil]);first | done | rfl | (simp only[List.length_drop,List.length_take];rfl) | (simp only[List.length_drop,List.length_take];rw[Nat.min_eq_left (Int.toNat_le.mpr (of_eq_true (by assumption)))])):wpList P ops Q (o :: rest) a W:=goesL_ (some n) hd hg hf hname hb args hop hargs h
end
section
variable {P:Program} {ops:Array Oper} {Q:Exit→Act→World→Prop} {md:Region.Mode} {S:World→Prop} {ds:List Nat} {T:Bool×List (List Nat×List Nat)} {oi:Oper} {v:Value} {fuel:Nat} {l:Array Bool} {a a':Act} {w:World}
theorem andI {A B G:Prop} (h:A→B→G):A∧B→G:=fun x=>h x.1 x.2
end
section
variable {P:Program} {ops:Array Oper} {Q:Exit→Act→World→Prop} {md:Region.Mode} {S:World→Prop} {ds:List Nat} {T:Bool×List (List Nat×List Nat)} {oi:Oper} {v:Value} {fuel:Nat} {l:Array Bool} {a a':Act} {w:World}
theorem pu (i:Nat) (n:Tmp) (hT:rtab md ops=T) (h:wpAnyLast P md ops Q S ds fuel (l.setIfInBounds i true) a' w) (hi:ops[i]? =some oi:=by rfl) (hN:oi.dst=some n:=by rfl) (hc:anyT T l.toList (l.setIfInBounds i true).toList i=true:=by kernel_rfl)
    (hQ:∀ c a w,Q (.panic c) (a.put oi.dst v) w→Q (.panic c) a w:=by exact fun _ _ _ h=>h) (hw:Region.wanted oi (yielded ops a.tmps)=true:=by rfl) (hy:∀ w',(execOp a.eval oi).run P w'= .ok (.value v) w':=by intro w';go_simp;with_reducible rfl) (ha:a.put (some n) v=a':=by simp only[Act.put,List.setIfInBounds_toArray,List.set_cons_zero,List.set_cons_succ,i64_w,i32_w];rfl):wpAnyLast P md ops Q S ds (fuel+1) l a w:=
  pure_ (l.setIfInBounds i true) hi hN (any_of hT hc) hQ (.inl ⟨hw,hy⟩) ha h
end
section
variable {P:Program} {ops:Array Oper} {Q:Exit→Act→World→Prop} {md:Region.Mode} {S:World→Prop} {ds:List Nat} {T:Bool×List (List Nat×List Nat)} {oi:Oper} {v:Value} {fuel:Nat} {l:Array Bool} {a a':Act} {w:World}
theorem tk (i:Nat) (n:Tmp) {B:List Nat} (hT:rtab md ops=T) (hB:waitsOk T.2 B=true) (hS:S w) (h:wpAnyLast P md ops Q S ds fuel (l.setIfInBounds i true) a' w) (hi:ops[i]? =some oi:=by rfl) (hN:oi.dst=some n:=by rfl) (hc:takeW T B ds l.toList (l.setIfInBounds i true).toList i=true:=by kernel_rfl)
    (hQ:∀ c a w,Q (.panic c) (a.put oi.dst v) w→Q (.panic c) a w:=by exact fun _ _ _ h=>h) (hw:Region.wanted oi (yielded ops a.tmps)=true:=by rfl) (hy:∀ w',S w'→(execOp a.eval oi).run P w'= .ok (.value v) w':=by first | (intro w' s_;go_simp;with_reducible rfl) | (intro w';repeat((with_reducible refine andI ?_);intro s_);intro s_;go_simp;with_reducible rfl)) (ha:a.put (some n) v=a':=by simp only[Act.put,List.setIfInBounds_toArray,List.set_cons_zero,List.set_cons_succ,i64_w,i32_w];rfl):wpAnyLast P md ops Q S ds (fuel+1) l a w:=
  take_ (l.setIfInBounds i true) hi hN (take_ofW hT hB hc) hQ (.inl ⟨hw,hy⟩) hS ha h
end
theorem mt {P:Prop} (h:P:=by repeat' first | (with_reducible apply ih0) | (with_reducible apply ih1) | (with_reducible apply ih2) | (with_reducible apply ih3) | (with_reducible apply ih4) | (with_reducible apply ih5) | (with_reducible apply m0) | (with_reducible apply m1) | (with_reducible apply m2) | (with_reducible apply m3) | (with_reducible apply m4) | (with_reducible apply m5) | (with_reducible apply m6) | (with_reducible apply m7) | (with_reducible apply m8) | (with_reducible apply m9) | (with_reducible exact LeO.refl _) | (with_reducible exact LeO.none _) | (with_reducible refine LeO.ite ?_ ?_) | (with_reducible refine LeO.bind ?_ (fun _=>?_)) | exact LeO.none _ | refine LeO.ite ?_ ?_ | refine LeO.bind ?_ (fun _=>?_)):P:=h
theorem bnd {α β:Type} {x:Option α} {f:α→Option β} {r:β} (h:x.bind f=some r):∃ t,Aside0 (x=some t)∧f t=some r:=by
  obtain⟨t,h1,h2⟩:=Option.bind_eq_some_iff.mp h
  exact⟨t,⟨h1⟩,h2⟩
theorem jrw {A B P:Prop} (a:A) (b:B) (h:A→B→P:=by intro a_ H;first | (rw[a_];with_reducible first | exact H | exact bind_ofs H) | (with_reducible first | exact H | exact bind_ofs H) | (rw[a_];exact H) | exact H):P:=h a b
theorem jlt {P:Program} {ops:Array Oper} {rest:List Oper} {o:Oper} {a:Act} {Q:Exit→Act→World→Prop} {α:Type} {W:World} (N:Tmp) (d:Kd α) (e:Nat)
    (h:∀ v1 w1,d.R e w1 W.heap.size (fun _=>True) v1 []→Below W.heap.size W w1→wpList P ops Q rest (a.put o.dst v1) w1) (hd:o.dst=some N:=by rfl) (hgd:o.guard=none:=by rfl) (hrun:(execOp a.eval o).run P W= .ok (.value (.slice (some ⟨W.heap.size,0,none⟩) 0 0)) (W.alloc (.cells #[] e)):=by first | (go_simp;done) | (go_simp;rfl)):wpList P ops Q (o :: rest) a W:=
  Kd.R_lit d _ e hgd hd (xs:=[]) (inner:=[]) (ok:=fun _=>True) (okp:=fun _=>True) hrun (Reps.none _ _) (fun _ hk=>hk) trivial (Below.refl _ _) (Nat.le_refl _) (by simp) (fun v1 w1 h1 h2 _ _=>h v1 w1 h1 h2)
theorem tqR {P A:Prop} (a:A) (h:A→P:=by intro a_;(with_reducible repeat(first | apply Kd.R_alloc | apply Kd.R_drewN | apply Kd.R_drew));exact Kd.R_mono a_ (fun _ hk=>trivial)):P:=h a
theorem rf3 {α:Type} {d:Kd α} {e:Nat} {w:World} {base:Nat} {ok:Nat→Prop} {v:Value} {xs:List α} {g t:Nat} {cells:Array Value} {i j k:Nat} {a b c:Value} (h:d.R e w base ok v xs) (hb:w.heap[g]? =some (Obj.cells cells t (0,0))) (ht:∀ q,q∈e :: d.E→q≠t:=by decide):d.R e (((w.setCell ⟨g,i,none⟩ a).setCell ⟨g,j,none⟩ b).setCell ⟨g,k,none⟩ c) base (fun k=>ok k∧k≠g) v xs:=
  Kd.R_far (p:=⟨g,k,none⟩) (Kd.R_far (p:=⟨g,j,none⟩) (Kd.R_far (p:=⟨g,i,none⟩) (Kd.R_types h hb ht) (fun _ hk=>hk.2) a) (fun _ hk=>hk.2) b) (fun _ hk=>hk.2) c
theorem rf4 {α:Type} {d:Kd α} {e:Nat} {w:World} {base:Nat} {ok:Nat→Prop} {v:Value} {xs:List α} {g t:Nat} {cells:Array Value} {i j k:Nat} {a b c:Value} (h:d.R e w base ok v xs) (hb:w.heap[g]? =some (Obj.cells cells t (0,0))) (ht:∀ q,q∈e :: d.E→q≠t:=by decide):d.R e (((w.setCell ⟨g,i,none⟩ a).setCell ⟨g,j,none⟩ b).setCell ⟨g,k,none⟩ c) base ok v xs:=Kd.R_mono (rf3 h hb ht) (fun _ h_=>h_.1)

theorem zaa:type_of% @List.setIfInBounds_toArray:=@List.setIfInBounds_toArray
theorem zab:type_of% @decide_eq_true:=@decide_eq_true
theorem zad:type_of% @of_decide_eq_true:=@of_decide_eq_true
theorem zae:type_of% @List.set_cons_zero:=@List.set_cons_zero
theorem zaf:type_of% @List.set_cons_succ:=@List.set_cons_succ
theorem zah:type_of% @below_size:=@below_size
theorem zal:type_of% @below_step:=@below_step
theorem zam:type_of% @Kd.R_reads':=@Kd.R_reads'
theorem zan:type_of% @Reps.one:=@Reps.one
theorem zao:type_of% @Kd.R_mono:=@Kd.R_mono
theorem zap:type_of% @pw_below_drewN:=@pw_below_drewN
theorem zaq:type_of% @Kd.R_lower:=@Kd.R_lower
theorem zar:type_of% @Kd.R_drew:=@Kd.R_drew
theorem zas:type_of% @eq_true:=@eq_true
theorem zat:type_of% @Kd.R_alloc:=@Kd.R_alloc
theorem zau:type_of% @Kd.R_drewN:=@Kd.R_drewN
theorem zav:type_of% @Nat.le_refl:=@Nat.le_refl
theorem zaw:type_of% @blk_frozen:=@blk_frozen
theorem zay:type_of% @below_drew1:=@below_drew1
theorem zba:type_of% @Kd.R_base:=@Kd.R_base
theorem zbb:type_of% @Kd.R_slice:=@Kd.R_slice
theorem zbd:type_of% @blk_cell:=@blk_cell
theorem zbe:type_of% @below_alloc:=@below_alloc
theorem zbf:type_of% @below_set:=@below_set
theorem zbh:type_of% @Kd.V_mono:=@Kd.V_mono
theorem zbj:type_of% @decide_eq_false:=@decide_eq_false
theorem zbk:type_of% @Below.refl:=@Below.refl
theorem zbl:type_of% @blk_drewN:=@blk_drewN
theorem zbm:type_of% @blk_alloc:=@blk_alloc
theorem zbn:type_of% @Kd.V_alloc:=@Kd.V_alloc
theorem zbo:type_of% @Kd.V_drewN:=@Kd.V_drewN
theorem zbp:type_of% @Kd.R_elder':=@Kd.R_elder'
theorem zbq:type_of% @KeepBut.trans:=@KeepBut.trans
theorem zbr:type_of% @blk_drew:=@blk_drew
theorem zbs:type_of% @Kd.C_alloc:=@Kd.C_alloc
theorem zbt:type_of% @Kd.C_drewN:=@Kd.C_drewN
theorem zbu:type_of% @Kd.V_drew:=@Kd.V_drew
theorem zbw:type_of% @Kd.V_elder':=@Kd.V_elder'
theorem zbx:type_of% @Kd.V_reads':=@Kd.V_reads'
theorem zby:type_of% @Kd.R_new':=@Kd.R_new'
theorem zca:type_of% @Kd.R_lt:=@Kd.R_lt
theorem zcb:type_of% @Option.some.injEq:=@Option.some.injEq
theorem zcd:type_of% @Kd.at_int:=@Kd.at_int
theorem zce:type_of% @max_three:=@max_three
theorem zcf:type_of% @min_three:=@min_three
theorem zcg:type_of% @Kd.C_drew:=@Kd.C_drew
theorem zcl:type_of% @beq_eq_false_iff_ne:=@beq_eq_false_iff_ne
theorem zcn:type_of% @max2_int:=@max2_int
theorem zco:type_of% @min2_int:=@min2_int
theorem zcp:type_of% @max_four:=@max_four
theorem zcq:type_of% @min_four:=@min_four
theorem zct:type_of% @Nat.lt_of_lt_of_le:=@Nat.lt_of_lt_of_le
theorem zcu:type_of% @Prod.mk.injEq:=@Prod.mk.injEq
theorem zcv:type_of% @Option.bind_eq_some_iff:=@Option.bind_eq_some_iff
theorem zcw:type_of% @Kd.V_below:=@Kd.V_below
theorem zcx:type_of% @World.drewN_drewN:=@World.drewN_drewN
theorem zcy:type_of% @Kd.FK_slice_mk:=@Kd.FK_slice_mk
theorem zdb:type_of% @List.length_drop:=@List.length_drop
theorem zdc:type_of% @List.length_take:=@List.length_take
theorem zde:type_of% @gate_builtin:=@gate_builtin
theorem zdf:type_of% @add_block:=@add_block
theorem zdk:type_of% @max_two:=@max_two
theorem zdl:type_of% @min_two:=@min_two
theorem zdm:type_of% @bne_eq_false_iff_eq:=@bne_eq_false_iff_eq
theorem zdn:type_of% @Kd.R_far:=@Kd.R_far
theorem zdo:type_of% @Nat.le_trans:=@Nat.le_trans
theorem zdp:type_of% @Nat.ne_of_lt:=@Nat.ne_of_lt
theorem zdq:type_of% @Nat.le_of_eq:=@Nat.le_of_eq
theorem zds:type_of% @Bool.eq_false_iff:=@Bool.eq_false_iff
theorem zdt:type_of% @gate_guard:=@gate_guard
theorem zdu:type_of% @Kd.R_after:=@Kd.R_after
theorem zdv:type_of% @Kd.fresh':=@Kd.fresh'
theorem zdw:type_of% @Kd.R_append_rows:=@Kd.R_append_rows
theorem zdx:type_of% @KeepBut.blk:=@KeepBut.blk
theorem zea:type_of% @Kd.N_base:=@Kd.N_base
theorem zeb:type_of% @Reps.none:=@Reps.none
theorem zec:type_of% @Kd.R_keep:=@Kd.R_keep
theorem zed:type_of% @blk_put:=@blk_put
theorem zee:type_of% @Kd.N_reads':=@Kd.N_reads'
theorem zef:type_of% @keep_size:=@keep_size
theorem zei:type_of% @Kd.N_alloc:=@Kd.N_alloc
theorem zej:type_of% @Kd.N_drewN:=@Kd.N_drewN
theorem zem:type_of% @Kd.N_mono:=@Kd.N_mono
theorem zen:type_of% @Kd.R_below:=@Kd.R_below
theorem zep:type_of% @Kd.V_elderB:=@Kd.V_elderB
theorem zeq:type_of% @Kd.R_types:=@Kd.R_types
theorem zes:type_of% @KeepBut.of_below:=@KeepBut.of_below
theorem zet:type_of% @Kd.N_drew:=@Kd.N_drew
theorem zeu:type_of% @KeepBut.set_:=@KeepBut.set_
theorem zew:type_of% @Kd.N_elder':=@Kd.N_elder'
theorem zex:type_of% @List.length_replicate:=@List.length_replicate
theorem zez:type_of% @bne_iff_ne:=@bne_iff_ne
theorem zfb:type_of% @keep_drewN:=@keep_drewN
theorem zfc:type_of% @keep_alloc:=@keep_alloc
theorem zfd:type_of% @Kd.F_mono:=@Kd.F_mono
theorem zfe:type_of% @Kd.N_lower:=@Kd.N_lower
theorem zfm:type_of% @Addr.add_zero':=@Addr.add_zero'
theorem zfn:type_of% @List.length_map:=@List.length_map
theorem zfo:type_of% @List.length_append:=@List.length_append
theorem zfq:type_of% @Nat.add_assoc:=@Nat.add_assoc
theorem zfr:type_of% @Kd.R_append:=@Kd.R_append
theorem zft:type_of% @keep_drew:=@keep_drew
theorem zfw:type_of% @bodyPost_ret:=@bodyPost_ret
theorem zfx:type_of% @Kd.R_newM:=@Kd.R_newM
theorem zga:type_of% @Kd.V_mk:=@Kd.V_mk
theorem zgd:type_of% @Kd.N_lit_step:=@Kd.N_lit_step
theorem zge:type_of% @Kd.N_slice:=@Kd.N_slice
theorem zgf:type_of% @and_imp:=@and_imp
theorem zgg:type_of% @Kd.heap_int:=@Kd.heap_int
theorem zgh:type_of% @with_tabW:=@with_tabW
theorem zgi:type_of% @Nat.sub_le_sub_right:=@Nat.sub_le_sub_right
theorem zgk:type_of% @Kd.freshB:=@Kd.freshB
theorem zgm:type_of% @blk_below:=@blk_below
theorem zgo:type_of% @Option.map_eq_some_iff:=@Option.map_eq_some_iff
theorem zgr:type_of% @List.map_toArray:=@List.map_toArray
theorem zgs:type_of% @Kd.N_below:=@Kd.N_below
end Go.Proofs.Ytienlgcjohpphaa.P
