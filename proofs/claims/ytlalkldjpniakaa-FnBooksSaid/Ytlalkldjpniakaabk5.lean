import Derived.Test.YtlalkldjpniakaaProg
import Derived.Lib.Bytealg
import Derived.Lib.SliceRun
import Derived.Lib.SlBuf
import Derived.Lib.MakeNoZero
import Derived.Test.Ytlalkldjpniakaabk4
namespace Go.Proofs.Ytlalkldjpniakaa.P
open Go.RowKit Go.Proofs.YtlalkldjpniakaaW.PrintWords Go.Proofs.YtlalkldjpniakaaW.PrintLast Go.Proofs.YtlalkldjpniakaaW.PrintMore
attribute [local go_sem] max2_int min2_int max_two min_two max_three min_three max_four min_four -- for this text's walks alone
set_option linter.unusedVariables false
set_option linter.unusedSimpArgs false



def errW:Option Int→Value
 | none=> .nilIface
 | some c=> .iface 0 (.int .i64 c)
theorem errW_none:errW none= .nilIface:=rfl
theorem errW_some (c:Int):errW (some c)= .iface 0 (.int .i64 c):=rfl

theorem info3:(Try.prog.info? 3).map (fun i=>(i.zero,i.size,i.bytes))=some (some (.int .i64 0),1,8):=by kernel_rfl
theorem info5:(Try.prog.info? 5).map (fun i=>(i.zero,i.size,i.bytes))=some (some (.int .u8 0),1,1):=by kernel_rfl
theorem info9:(Try.prog.info? 9).map (fun i=>(i.zero,i.size,i.bytes))=some (some (.string ⟨#[]⟩),1,16):=by kernel_rfl
theorem info29:(Try.prog.info? 29).map (fun i=>(i.zero,i.size,i.bytes))=some (some (.slice none 0 0),1,24):=by kernel_rfl
theorem info34:(Try.prog.info? 34).map (fun i=>(i.zero,i.size,i.bytes))=some (some (.agg #[(.string ⟨#[]⟩),(.int .i64 0),(.int .i64 0),(.slice none 0 0)]),4,56):=by kernel_rfl
-- the values' own types
def rd_L3 (xs:List (List Int)) (i:Int):(List Int):=xs.getD i.toNat ([]:List Int)
theorem at_L3 {w:World} {A:Option Addr} {n:Nat} {xs:List (List Int)} (h:Kd.C (Kd.slice 5 (Kd.int .u8)) w A n xs) (i:Int) (h0:0≤i) (h1:i<n):∃ ad A0 c0,A=some ad∧w.cell? (ad.add i.toNat)=some (.slice A0 (rd_L3 xs i).length c0)∧(rd_L3 xs i).length≤c0∧(Kd.int .u8).C w A0 (rd_L3 xs i).length (rd_L3 xs i):=by
 obtain⟨ad,c,e,_,hK,hc0⟩:=Kd.C_get h ([]:List Int) i h0 h1
 have hc:∀ j u,c[j]? =some u→w.cell? (ad.add (i.toNat*1+j))=some u:=hc0
 obtain⟨A0,c0,rfl,l0,g0⟩:=hK
 exact⟨ad,A0,c0,e,by have hq:=hc 0 _ rfl;rwa [Nat.mul_one,Nat.add_zero] at hq,l0,g0⟩

structure S31 where
 f0:ByteArray
 f1:Int
 f2:Int
 f3:(List Int)
def z31:S31:=⟨(⟨#[]⟩:ByteArray),(0:Int),(0:Int),([]:List Int)⟩
def k31:Kd S31:=Kd.iso (Kd.pair Kd.string (Kd.pair (Kd.int .i64) (Kd.pair (Kd.int .i64) (Kd.slice 5 (Kd.int .u8))))) (fun x:S31=>(x.f0,x.f1,x.f2,x.f3))
theorem k31_heap:Kd.Heap k31:=Kd.heap_iso _ (Kd.heap_pair Kd.heap_string (Kd.heap_pair (Kd.heap_int .i64) (Kd.heap_pair (Kd.heap_int .i64) (Kd.heap_slice 5 (Kd.heap_int .u8)))))
theorem k31_open {w:World} {x:S31} {cs:List Value} (h:k31.K w x cs):∃ A3 c3,cs=[.string x.f0, .int .i64 x.f1, .int .i64 x.f2, .slice A3 x.f3.length c3]∧x.f3.length≤c3∧(Kd.int .u8).C w A3 x.f3.length x.f3:=by
 obtain⟨_,_,rfl,rfl,⟨_,_,rfl,rfl,⟨_,_,rfl,rfl,⟨A3,c3,rfl,l3,g3⟩⟩⟩⟩:=h
 exact⟨A3,c3,rfl,l3,g3⟩
theorem k31_openM {w:World} {base:Nat} {ok:Nat→Prop} {x:S31} {cs:List Value} (h:k31.M w base ok x cs):∃ v3,cs=[.string x.f0, .int .i64 x.f1, .int .i64 x.f2,v3]∧(Kd.int .u8).R 5 w base ok v3 x.f3:=by
 obtain⟨_,_,rfl,rfl,⟨_,_,rfl,rfl,⟨_,_,rfl,rfl,⟨v3,rfl,g3⟩⟩⟩⟩:=h
 exact⟨v3,rfl,g3⟩
theorem k31_mk (w:World) (x:S31) {A3:Option Addr} {c3:Nat} (l3:x.f3.length≤c3) (g3:(Kd.int .u8).C w A3 x.f3.length x.f3):k31.K w x [.string x.f0, .int .i64 x.f1, .int .i64 x.f2, .slice A3 x.f3.length c3]:=⟨[.string x.f0],[.int .i64 x.f1, .int .i64 x.f2, .slice A3 x.f3.length c3],rfl,rfl,⟨[.int .i64 x.f1],[.int .i64 x.f2, .slice A3 x.f3.length c3],rfl,rfl,⟨[.int .i64 x.f2],[.slice A3 x.f3.length c3],rfl,rfl,⟨A3,c3,rfl,l3,g3⟩⟩⟩⟩
theorem k31_mkM (w:World) (base:Nat) (ok:Nat→Prop) (x:S31) {v3:Value} (g3:(Kd.int .u8).R 5 w base ok v3 x.f3):k31.M w base ok x [.string x.f0, .int .i64 x.f1, .int .i64 x.f2,v3]:=⟨[.string x.f0],[.int .i64 x.f1, .int .i64 x.f2,v3],rfl,rfl,⟨[.int .i64 x.f1],[.int .i64 x.f2,v3],rfl,rfl,⟨[.int .i64 x.f2],[v3],rfl,rfl,⟨v3,rfl,g3⟩⟩⟩⟩
theorem k31_openF {W:World} {ok:Nat→Prop} {x:S31} {cs:List Value} (h:Kd.FK k31 W ok x cs):∃ A3 c3,cs=[.string x.f0, .int .i64 x.f1, .int .i64 x.f2, .slice A3 x.f3.length c3]∧x.f3.length≤c3∧Kd.F (Kd.int .u8) W ok A3 x.f3.length x.f3:=by
 obtain⟨A3,c3,rfl,l3,_⟩:=k31_open (Kd.FK_now h)
 exact⟨A3,c3,rfl,l3,(fun W' hW=>by obtain⟨A3_,c3_,he,l3_,g3_⟩:=k31_open (h W' hW);injection (Option.some.inj (show some (Value.slice A3 x.f3.length c3)=some (Value.slice A3_ x.f3.length c3_) from congrArg (fun l=>l[3]?) he)) with ha_ _ _;rw[ha_];exact g3_)⟩
theorem k31_mkF (W:World) (ok:Nat→Prop) (x:S31) {A3:Option Addr} {c3:Nat} (l3:x.f3.length≤c3) (g3:Kd.F (Kd.int .u8) W ok A3 x.f3.length x.f3):Kd.FK k31 W ok x [.string x.f0, .int .i64 x.f1, .int .i64 x.f2, .slice A3 x.f3.length c3]:=fun W2 hW=>k31_mk W2 x l3 (g3 W2 hW)
def rd_T31 (xs:List S31) (i:Int):S31:=xs.getD i.toNat z31
theorem at_T31 {w:World} {A:Option Addr} {n:Nat} {xs:List S31} (h:Kd.C k31 w A n xs) (i:Int) (h0:0≤i) (h1:i<n):∃ ad A3 c3,A=some ad∧w.cell? (ad.add (i.toNat*4))=some (.string (rd_T31 xs i).f0)∧w.cell? ⟨(ad.add (i.toNat*4)).block,(ad.add (i.toNat*4)).off+1,none⟩=some (.int .i64 (rd_T31 xs i).f1)∧w.cell? ⟨(ad.add (i.toNat*4)).block,(ad.add (i.toNat*4)).off+2,none⟩=some (.int .i64 (rd_T31 xs i).f2)∧w.cell? ⟨(ad.add (i.toNat*4)).block,(ad.add (i.toNat*4)).off+3,none⟩=some (.slice A3 (rd_T31 xs i).f3.length c3)∧(rd_T31 xs i).f3.length≤c3∧(Kd.int .u8).C w A3 (rd_T31 xs i).f3.length (rd_T31 xs i).f3:=by
 obtain⟨ad,c,e,_,hK,hc0⟩:=Kd.C_get h z31 i h0 h1
 have hc:∀ j u,c[j]? =some u→w.cell? (ad.add (i.toNat*4+j))=some u:=hc0
 obtain⟨A3,c3,rfl,l3,g3⟩:=k31_open hK
 exact⟨ad,A3,c3,e,hc 0 _ rfl,by rw[← add_field _ _ 1 (by omega)];exact hc 1 _ rfl,by rw[← add_field _ _ 2 (by omega)];exact hc 2 _ rfl,by rw[← add_field _ _ 3 (by omega)];exact hc 3 _ rfl,l3,g3⟩

structure S34 where
 f0:ByteArray
 f1:Int
 f2:Int
 f3:(List Int)
def z34:S34:=⟨(⟨#[]⟩:ByteArray),(0:Int),(0:Int),([]:List Int)⟩
def k34:Kd S34:=Kd.iso (Kd.pair Kd.string (Kd.pair (Kd.int .i64) (Kd.pair (Kd.int .i64) (Kd.slice 5 (Kd.int .u8))))) (fun x:S34=>(x.f0,x.f1,x.f2,x.f3))
theorem k34_heap:Kd.Heap k34:=Kd.heap_iso _ (Kd.heap_pair Kd.heap_string (Kd.heap_pair (Kd.heap_int .i64) (Kd.heap_pair (Kd.heap_int .i64) (Kd.heap_slice 5 (Kd.heap_int .u8)))))
theorem k34_open {w:World} {x:S34} {cs:List Value} (h:k34.K w x cs):∃ A3 c3,cs=[.string x.f0, .int .i64 x.f1, .int .i64 x.f2, .slice A3 x.f3.length c3]∧x.f3.length≤c3∧(Kd.int .u8).C w A3 x.f3.length x.f3:=by
 obtain⟨_,_,rfl,rfl,⟨_,_,rfl,rfl,⟨_,_,rfl,rfl,⟨A3,c3,rfl,l3,g3⟩⟩⟩⟩:=h
 exact⟨A3,c3,rfl,l3,g3⟩
theorem k34_openM {w:World} {base:Nat} {ok:Nat→Prop} {x:S34} {cs:List Value} (h:k34.M w base ok x cs):∃ v3,cs=[.string x.f0, .int .i64 x.f1, .int .i64 x.f2,v3]∧(Kd.int .u8).R 5 w base ok v3 x.f3:=by
 obtain⟨_,_,rfl,rfl,⟨_,_,rfl,rfl,⟨_,_,rfl,rfl,⟨v3,rfl,g3⟩⟩⟩⟩:=h
 exact⟨v3,rfl,g3⟩
theorem k34_mk (w:World) (x:S34) {A3:Option Addr} {c3:Nat} (l3:x.f3.length≤c3) (g3:(Kd.int .u8).C w A3 x.f3.length x.f3):k34.K w x [.string x.f0, .int .i64 x.f1, .int .i64 x.f2, .slice A3 x.f3.length c3]:=⟨[.string x.f0],[.int .i64 x.f1, .int .i64 x.f2, .slice A3 x.f3.length c3],rfl,rfl,⟨[.int .i64 x.f1],[.int .i64 x.f2, .slice A3 x.f3.length c3],rfl,rfl,⟨[.int .i64 x.f2],[.slice A3 x.f3.length c3],rfl,rfl,⟨A3,c3,rfl,l3,g3⟩⟩⟩⟩
theorem k34_mkM (w:World) (base:Nat) (ok:Nat→Prop) (x:S34) {v3:Value} (g3:(Kd.int .u8).R 5 w base ok v3 x.f3):k34.M w base ok x [.string x.f0, .int .i64 x.f1, .int .i64 x.f2,v3]:=⟨[.string x.f0],[.int .i64 x.f1, .int .i64 x.f2,v3],rfl,rfl,⟨[.int .i64 x.f1],[.int .i64 x.f2,v3],rfl,rfl,⟨[.int .i64 x.f2],[v3],rfl,rfl,⟨v3,rfl,g3⟩⟩⟩⟩
theorem k34_openF {W:World} {ok:Nat→Prop} {x:S34} {cs:List Value} (h:Kd.FK k34 W ok x cs):∃ A3 c3,cs=[.string x.f0, .int .i64 x.f1, .int .i64 x.f2, .slice A3 x.f3.length c3]∧x.f3.length≤c3∧Kd.F (Kd.int .u8) W ok A3 x.f3.length x.f3:=by
 obtain⟨A3,c3,rfl,l3,_⟩:=k34_open (Kd.FK_now h)
 exact⟨A3,c3,rfl,l3,(fun W' hW=>by obtain⟨A3_,c3_,he,l3_,g3_⟩:=k34_open (h W' hW);injection (Option.some.inj (show some (Value.slice A3 x.f3.length c3)=some (Value.slice A3_ x.f3.length c3_) from congrArg (fun l=>l[3]?) he)) with ha_ _ _;rw[ha_];exact g3_)⟩
theorem k34_mkF (W:World) (ok:Nat→Prop) (x:S34) {A3:Option Addr} {c3:Nat} (l3:x.f3.length≤c3) (g3:Kd.F (Kd.int .u8) W ok A3 x.f3.length x.f3):Kd.FK k34 W ok x [.string x.f0, .int .i64 x.f1, .int .i64 x.f2, .slice A3 x.f3.length c3]:=fun W2 hW=>k34_mk W2 x l3 (g3 W2 hW)
def rd_T34 (xs:List S34) (i:Int):S34:=xs.getD i.toNat z34
theorem at_T34 {w:World} {A:Option Addr} {n:Nat} {xs:List S34} (h:Kd.C k34 w A n xs) (i:Int) (h0:0≤i) (h1:i<n):∃ ad A3 c3,A=some ad∧w.cell? (ad.add (i.toNat*4))=some (.string (rd_T34 xs i).f0)∧w.cell? ⟨(ad.add (i.toNat*4)).block,(ad.add (i.toNat*4)).off+1,none⟩=some (.int .i64 (rd_T34 xs i).f1)∧w.cell? ⟨(ad.add (i.toNat*4)).block,(ad.add (i.toNat*4)).off+2,none⟩=some (.int .i64 (rd_T34 xs i).f2)∧w.cell? ⟨(ad.add (i.toNat*4)).block,(ad.add (i.toNat*4)).off+3,none⟩=some (.slice A3 (rd_T34 xs i).f3.length c3)∧(rd_T34 xs i).f3.length≤c3∧(Kd.int .u8).C w A3 (rd_T34 xs i).f3.length (rd_T34 xs i).f3:=by
 obtain⟨ad,c,e,_,hK,hc0⟩:=Kd.C_get h z34 i h0 h1
 have hc:∀ j u,c[j]? =some u→w.cell? (ad.add (i.toNat*4+j))=some u:=hc0
 obtain⟨A3,c3,rfl,l3,g3⟩:=k34_open hK
 exact⟨ad,A3,c3,e,hc 0 _ rfl,by rw[← add_field _ _ 1 (by omega)];exact hc 1 _ rfl,by rw[← add_field _ _ 2 (by omega)];exact hc 2 _ rfl,by rw[← add_field _ _ 3 (by omega)];exact hc 3 _ rfl,l3,g3⟩

def rd_L6 (xs:List (List S31)) (i:Int):(List S31):=xs.getD i.toNat ([]:List S31)
theorem at_L6 {w:World} {A:Option Addr} {n:Nat} {xs:List (List S31)} (h:Kd.C (Kd.slice 31 k31) w A n xs) (i:Int) (h0:0≤i) (h1:i<n):∃ ad A0 c0,A=some ad∧w.cell? (ad.add i.toNat)=some (.slice A0 (rd_L6 xs i).length c0)∧(rd_L6 xs i).length≤c0∧k31.C w A0 (rd_L6 xs i).length (rd_L6 xs i):=by
 obtain⟨ad,c,e,_,hK,hc0⟩:=Kd.C_get h ([]:List S31) i h0 h1
 have hc:∀ j u,c[j]? =some u→w.cell? (ad.add (i.toNat*1+j))=some u:=hc0
 obtain⟨A0,c0,rfl,l0,g0⟩:=hK
 exact⟨ad,A0,c0,e,by have hq:=hc 0 _ rfl;rwa [Nat.mul_one,Nat.add_zero] at hq,l0,g0⟩

def rd_L7 (xs:List (List S34)) (i:Int):(List S34):=xs.getD i.toNat ([]:List S34)
theorem at_L7 {w:World} {A:Option Addr} {n:Nat} {xs:List (List S34)} (h:Kd.C (Kd.slice 34 k34) w A n xs) (i:Int) (h0:0≤i) (h1:i<n):∃ ad A0 c0,A=some ad∧w.cell? (ad.add i.toNat)=some (.slice A0 (rd_L7 xs i).length c0)∧(rd_L7 xs i).length≤c0∧k34.C w A0 (rd_L7 xs i).length (rd_L7 xs i):=by
 obtain⟨ad,c,e,_,hK,hc0⟩:=Kd.C_get h ([]:List S34) i h0 h1
 have hc:∀ j u,c[j]? =some u→w.cell? (ad.add (i.toNat*1+j))=some u:=hc0
 obtain⟨A0,c0,rfl,l0,g0⟩:=hK
 exact⟨ad,A0,c0,e,by have hq:=hc 0 _ rfl;rwa [Nat.mul_one,Nat.add_zero] at hq,l0,g0⟩

structure S39 where
 f0:(List S34)
 f1:Int
 f2:(List Int)
 f3:Int
def z39:S39:=⟨([]:List S34),(0:Int),([]:List Int),(0:Int)⟩
def k39:Kd S39:=Kd.iso (Kd.pair (Kd.slice 34 k34) (Kd.pair (Kd.int .i64) (Kd.pair (Kd.slice 5 (Kd.int .u8)) (Kd.int .i64)))) (fun x:S39=>(x.f0,x.f1,x.f2,x.f3))
theorem k39_heap:Kd.Heap k39:=Kd.heap_iso _ (Kd.heap_pair (Kd.heap_slice 34 k34_heap) (Kd.heap_pair (Kd.heap_int .i64) (Kd.heap_pair (Kd.heap_slice 5 (Kd.heap_int .u8)) (Kd.heap_int .i64))))
theorem k39_open {w:World} {x:S39} {cs:List Value} (h:k39.K w x cs):∃ A0 c0 A2 c2,cs=[.slice A0 x.f0.length c0, .int .i64 x.f1, .slice A2 x.f2.length c2, .int .i64 x.f3]∧x.f0.length≤c0∧k34.C w A0 x.f0.length x.f0∧x.f2.length≤c2∧(Kd.int .u8).C w A2 x.f2.length x.f2:=by
 obtain⟨_,_,rfl,⟨A0,c0,rfl,l0,g0⟩,⟨_,_,rfl,rfl,⟨_,_,rfl,⟨A2,c2,rfl,l2,g2⟩,rfl⟩⟩⟩:=h
 exact⟨A0,c0,A2,c2,rfl,l0,g0,l2,g2⟩
theorem k39_openM {w:World} {base:Nat} {ok:Nat→Prop} {x:S39} {cs:List Value} (h:k39.M w base ok x cs):∃ v0 v2,cs=[v0, .int .i64 x.f1,v2, .int .i64 x.f3]∧k34.R 34 w base ok v0 x.f0∧(Kd.int .u8).R 5 w base ok v2 x.f2:=by
 obtain⟨_,_,rfl,⟨v0,rfl,g0⟩,⟨_,_,rfl,rfl,⟨_,_,rfl,⟨v2,rfl,g2⟩,rfl⟩⟩⟩:=h
 exact⟨v0,v2,rfl,g0,g2⟩
theorem k39_mk (w:World) (x:S39) {A0:Option Addr} {c0:Nat} (l0:x.f0.length≤c0) (g0:k34.C w A0 x.f0.length x.f0) {A2:Option Addr} {c2:Nat} (l2:x.f2.length≤c2) (g2:(Kd.int .u8).C w A2 x.f2.length x.f2):k39.K w x [.slice A0 x.f0.length c0, .int .i64 x.f1, .slice A2 x.f2.length c2, .int .i64 x.f3]:=⟨[.slice A0 x.f0.length c0],[.int .i64 x.f1, .slice A2 x.f2.length c2, .int .i64 x.f3],rfl,⟨A0,c0,rfl,l0,g0⟩,⟨[.int .i64 x.f1],[.slice A2 x.f2.length c2, .int .i64 x.f3],rfl,rfl,⟨[.slice A2 x.f2.length c2],[.int .i64 x.f3],rfl,⟨A2,c2,rfl,l2,g2⟩,rfl⟩⟩⟩
theorem k39_mkM (w:World) (base:Nat) (ok:Nat→Prop) (x:S39) {v0:Value} (g0:k34.R 34 w base ok v0 x.f0) {v2:Value} (g2:(Kd.int .u8).R 5 w base ok v2 x.f2):k39.M w base ok x [v0, .int .i64 x.f1,v2, .int .i64 x.f3]:=⟨[v0],[.int .i64 x.f1,v2, .int .i64 x.f3],rfl,⟨v0,rfl,g0⟩,⟨[.int .i64 x.f1],[v2, .int .i64 x.f3],rfl,rfl,⟨[v2],[.int .i64 x.f3],rfl,⟨v2,rfl,g2⟩,rfl⟩⟩⟩
theorem k39_openF {W:World} {ok:Nat→Prop} {x:S39} {cs:List Value} (h:Kd.FK k39 W ok x cs):∃ A0 c0 A2 c2,cs=[.slice A0 x.f0.length c0, .int .i64 x.f1, .slice A2 x.f2.length c2, .int .i64 x.f3]∧x.f0.length≤c0∧Kd.F k34 W ok A0 x.f0.length x.f0∧x.f2.length≤c2∧Kd.F (Kd.int .u8) W ok A2 x.f2.length x.f2:=by
 obtain⟨A0,c0,A2,c2,rfl,l0,_,l2,_⟩:=k39_open (Kd.FK_now h)
 exact⟨A0,c0,A2,c2,rfl,l0,(fun W' hW=>by obtain⟨A0_,c0_,A2_,c2_,he,l0_,g0_,l2_,g2_⟩:=k39_open (h W' hW);injection (Option.some.inj (show some (Value.slice A0 x.f0.length c0)=some (Value.slice A0_ x.f0.length c0_) from congrArg (fun l=>l[0]?) he)) with ha_ _ _;rw[ha_];exact g0_),l2,(fun W' hW=>by obtain⟨A0_,c0_,A2_,c2_,he,l0_,g0_,l2_,g2_⟩:=k39_open (h W' hW);injection (Option.some.inj (show some (Value.slice A2 x.f2.length c2)=some (Value.slice A2_ x.f2.length c2_) from congrArg (fun l=>l[2]?) he)) with ha_ _ _;rw[ha_];exact g2_)⟩
theorem k39_mkF (W:World) (ok:Nat→Prop) (x:S39) {A0:Option Addr} {c0:Nat} (l0:x.f0.length≤c0) (g0:Kd.F k34 W ok A0 x.f0.length x.f0) {A2:Option Addr} {c2:Nat} (l2:x.f2.length≤c2) (g2:Kd.F (Kd.int .u8) W ok A2 x.f2.length x.f2):Kd.FK k39 W ok x [.slice A0 x.f0.length c0, .int .i64 x.f1, .slice A2 x.f2.length c2, .int .i64 x.f3]:=fun W2 hW=>k39_mk W2 x l0 (g0 W2 hW) l2 (g2 W2 hW)
def rd_T39 (xs:List S39) (i:Int):S39:=xs.getD i.toNat z39
theorem at_T39 {w:World} {A:Option Addr} {n:Nat} {xs:List S39} (h:Kd.C k39 w A n xs) (i:Int) (h0:0≤i) (h1:i<n):∃ ad A0 c0 A2 c2,A=some ad∧w.cell? (ad.add (i.toNat*4))=some (.slice A0 (rd_T39 xs i).f0.length c0)∧w.cell? ⟨(ad.add (i.toNat*4)).block,(ad.add (i.toNat*4)).off+1,none⟩=some (.int .i64 (rd_T39 xs i).f1)∧w.cell? ⟨(ad.add (i.toNat*4)).block,(ad.add (i.toNat*4)).off+2,none⟩=some (.slice A2 (rd_T39 xs i).f2.length c2)∧w.cell? ⟨(ad.add (i.toNat*4)).block,(ad.add (i.toNat*4)).off+3,none⟩=some (.int .i64 (rd_T39 xs i).f3)∧(rd_T39 xs i).f0.length≤c0∧k34.C w A0 (rd_T39 xs i).f0.length (rd_T39 xs i).f0∧(rd_T39 xs i).f2.length≤c2∧(Kd.int .u8).C w A2 (rd_T39 xs i).f2.length (rd_T39 xs i).f2:=by
 obtain⟨ad,c,e,_,hK,hc0⟩:=Kd.C_get h z39 i h0 h1
 have hc:∀ j u,c[j]? =some u→w.cell? (ad.add (i.toNat*4+j))=some u:=hc0
 obtain⟨A0,c0,A2,c2,rfl,l0,g0,l2,g2⟩:=k39_open hK
 exact⟨ad,A0,c0,A2,c2,e,hc 0 _ rfl,by rw[← add_field _ _ 1 (by omega)];exact hc 1 _ rfl,by rw[← add_field _ _ 2 (by omega)];exact hc 2 _ rfl,by rw[← add_field _ _ 3 (by omega)];exact hc 3 _ rfl,l0,g0,l2,g2⟩

structure S45 where
 f0:Int
 f1:ByteArray
 f2:Int
 f3:Int
 f4:(List Int)
def z45:S45:=⟨(0:Int),(⟨#[]⟩:ByteArray),(0:Int),(0:Int),([]:List Int)⟩
def k45:Kd S45:=Kd.iso (Kd.pair (Kd.int .i64) (Kd.pair Kd.string (Kd.pair (Kd.int .i64) (Kd.pair (Kd.int .i64) (Kd.slice 5 (Kd.int .u8)))))) (fun x:S45=>(x.f0,x.f1,x.f2,x.f3,x.f4))
theorem k45_heap:Kd.Heap k45:=Kd.heap_iso _ (Kd.heap_pair (Kd.heap_int .i64) (Kd.heap_pair Kd.heap_string (Kd.heap_pair (Kd.heap_int .i64) (Kd.heap_pair (Kd.heap_int .i64) (Kd.heap_slice 5 (Kd.heap_int .u8))))))
theorem k45_open {w:World} {x:S45} {cs:List Value} (h:k45.K w x cs):∃ A4 c4,cs=[.int .i64 x.f0, .string x.f1, .int .i64 x.f2, .int .i64 x.f3, .slice A4 x.f4.length c4]∧x.f4.length≤c4∧(Kd.int .u8).C w A4 x.f4.length x.f4:=by
 obtain⟨_,_,rfl,rfl,⟨_,_,rfl,rfl,⟨_,_,rfl,rfl,⟨_,_,rfl,rfl,⟨A4,c4,rfl,l4,g4⟩⟩⟩⟩⟩:=h
 exact⟨A4,c4,rfl,l4,g4⟩
theorem k45_openM {w:World} {base:Nat} {ok:Nat→Prop} {x:S45} {cs:List Value} (h:k45.M w base ok x cs):∃ v4,cs=[.int .i64 x.f0, .string x.f1, .int .i64 x.f2, .int .i64 x.f3,v4]∧(Kd.int .u8).R 5 w base ok v4 x.f4:=by
 obtain⟨_,_,rfl,rfl,⟨_,_,rfl,rfl,⟨_,_,rfl,rfl,⟨_,_,rfl,rfl,⟨v4,rfl,g4⟩⟩⟩⟩⟩:=h
 exact⟨v4,rfl,g4⟩
theorem k45_mk (w:World) (x:S45) {A4:Option Addr} {c4:Nat} (l4:x.f4.length≤c4) (g4:(Kd.int .u8).C w A4 x.f4.length x.f4):k45.K w x [.int .i64 x.f0, .string x.f1, .int .i64 x.f2, .int .i64 x.f3, .slice A4 x.f4.length c4]:=⟨[.int .i64 x.f0],[.string x.f1, .int .i64 x.f2, .int .i64 x.f3, .slice A4 x.f4.length c4],rfl,rfl,⟨[.string x.f1],[.int .i64 x.f2, .int .i64 x.f3, .slice A4 x.f4.length c4],rfl,rfl,⟨[.int .i64 x.f2],[.int .i64 x.f3, .slice A4 x.f4.length c4],rfl,rfl,⟨[.int .i64 x.f3],[.slice A4 x.f4.length c4],rfl,rfl,⟨A4,c4,rfl,l4,g4⟩⟩⟩⟩⟩
theorem k45_mkM (w:World) (base:Nat) (ok:Nat→Prop) (x:S45) {v4:Value} (g4:(Kd.int .u8).R 5 w base ok v4 x.f4):k45.M w base ok x [.int .i64 x.f0, .string x.f1, .int .i64 x.f2, .int .i64 x.f3,v4]:=⟨[.int .i64 x.f0],[.string x.f1, .int .i64 x.f2, .int .i64 x.f3,v4],rfl,rfl,⟨[.string x.f1],[.int .i64 x.f2, .int .i64 x.f3,v4],rfl,rfl,⟨[.int .i64 x.f2],[.int .i64 x.f3,v4],rfl,rfl,⟨[.int .i64 x.f3],[v4],rfl,rfl,⟨v4,rfl,g4⟩⟩⟩⟩⟩
theorem k45_openF {W:World} {ok:Nat→Prop} {x:S45} {cs:List Value} (h:Kd.FK k45 W ok x cs):∃ A4 c4,cs=[.int .i64 x.f0, .string x.f1, .int .i64 x.f2, .int .i64 x.f3, .slice A4 x.f4.length c4]∧x.f4.length≤c4∧Kd.F (Kd.int .u8) W ok A4 x.f4.length x.f4:=by
 obtain⟨A4,c4,rfl,l4,_⟩:=k45_open (Kd.FK_now h)
 exact⟨A4,c4,rfl,l4,(fun W' hW=>by obtain⟨A4_,c4_,he,l4_,g4_⟩:=k45_open (h W' hW);injection (Option.some.inj (show some (Value.slice A4 x.f4.length c4)=some (Value.slice A4_ x.f4.length c4_) from congrArg (fun l=>l[4]?) he)) with ha_ _ _;rw[ha_];exact g4_)⟩
theorem k45_mkF (W:World) (ok:Nat→Prop) (x:S45) {A4:Option Addr} {c4:Nat} (l4:x.f4.length≤c4) (g4:Kd.F (Kd.int .u8) W ok A4 x.f4.length x.f4):Kd.FK k45 W ok x [.int .i64 x.f0, .string x.f1, .int .i64 x.f2, .int .i64 x.f3, .slice A4 x.f4.length c4]:=fun W2 hW=>k45_mk W2 x l4 (g4 W2 hW)
def rd_T45 (xs:List S45) (i:Int):S45:=xs.getD i.toNat z45
theorem at_T45 {w:World} {A:Option Addr} {n:Nat} {xs:List S45} (h:Kd.C k45 w A n xs) (i:Int) (h0:0≤i) (h1:i<n):∃ ad A4 c4,A=some ad∧w.cell? (ad.add (i.toNat*5))=some (.int .i64 (rd_T45 xs i).f0)∧w.cell? ⟨(ad.add (i.toNat*5)).block,(ad.add (i.toNat*5)).off+1,none⟩=some (.string (rd_T45 xs i).f1)∧w.cell? ⟨(ad.add (i.toNat*5)).block,(ad.add (i.toNat*5)).off+2,none⟩=some (.int .i64 (rd_T45 xs i).f2)∧w.cell? ⟨(ad.add (i.toNat*5)).block,(ad.add (i.toNat*5)).off+3,none⟩=some (.int .i64 (rd_T45 xs i).f3)∧w.cell? ⟨(ad.add (i.toNat*5)).block,(ad.add (i.toNat*5)).off+4,none⟩=some (.slice A4 (rd_T45 xs i).f4.length c4)∧(rd_T45 xs i).f4.length≤c4∧(Kd.int .u8).C w A4 (rd_T45 xs i).f4.length (rd_T45 xs i).f4:=by
 obtain⟨ad,c,e,_,hK,hc0⟩:=Kd.C_get h z45 i h0 h1
 have hc:∀ j u,c[j]? =some u→w.cell? (ad.add (i.toNat*5+j))=some u:=hc0
 obtain⟨A4,c4,rfl,l4,g4⟩:=k45_open hK
 exact⟨ad,A4,c4,e,hc 0 _ rfl,by rw[← add_field _ _ 1 (by omega)];exact hc 1 _ rfl,by rw[← add_field _ _ 2 (by omega)];exact hc 2 _ rfl,by rw[← add_field _ _ 3 (by omega)];exact hc 3 _ rfl,by rw[← add_field _ _ 4 (by omega)];exact hc 4 _ rfl,l4,g4⟩

def rd_L11 (xs:List (List (List Int))) (i:Int):(List (List Int)):=xs.getD i.toNat ([]:List (List Int))
theorem at_L11 {w:World} {A:Option Addr} {n:Nat} {xs:List (List (List Int))} (h:Kd.C (Kd.slice 29 (Kd.slice 5 (Kd.int .u8))) w A n xs) (i:Int) (h0:0≤i) (h1:i<n):∃ ad A0 c0,A=some ad∧w.cell? (ad.add i.toNat)=some (.slice A0 (rd_L11 xs i).length c0)∧(rd_L11 xs i).length≤c0∧(Kd.slice 5 (Kd.int .u8)).C w A0 (rd_L11 xs i).length (rd_L11 xs i):=by
 obtain⟨ad,c,e,_,hK,hc0⟩:=Kd.C_get h ([]:List (List Int)) i h0 h1
 have hc:∀ j u,c[j]? =some u→w.cell? (ad.add (i.toNat*1+j))=some u:=hc0
 obtain⟨A0,c0,rfl,l0,g0⟩:=hK
 exact⟨ad,A0,c0,e,by have hq:=hc 0 _ rfl;rwa [Nat.mul_one,Nat.add_zero] at hq,l0,g0⟩

structure S48 where
 f0:Int
 f1:ByteArray
 f2:Int
 f3:Int
 f4:(List Int)
def z48:S48:=⟨(0:Int),(⟨#[]⟩:ByteArray),(0:Int),(0:Int),([]:List Int)⟩
def k48:Kd S48:=Kd.iso (Kd.pair (Kd.int .i64) (Kd.pair Kd.string (Kd.pair (Kd.int .i64) (Kd.pair (Kd.int .i64) (Kd.slice 5 (Kd.int .u8)))))) (fun x:S48=>(x.f0,x.f1,x.f2,x.f3,x.f4))
theorem k48_heap:Kd.Heap k48:=Kd.heap_iso _ (Kd.heap_pair (Kd.heap_int .i64) (Kd.heap_pair Kd.heap_string (Kd.heap_pair (Kd.heap_int .i64) (Kd.heap_pair (Kd.heap_int .i64) (Kd.heap_slice 5 (Kd.heap_int .u8))))))
theorem k48_open {w:World} {x:S48} {cs:List Value} (h:k48.K w x cs):∃ A4 c4,cs=[.int .i64 x.f0, .string x.f1, .int .i64 x.f2, .int .i64 x.f3, .slice A4 x.f4.length c4]∧x.f4.length≤c4∧(Kd.int .u8).C w A4 x.f4.length x.f4:=by
 obtain⟨_,_,rfl,rfl,⟨_,_,rfl,rfl,⟨_,_,rfl,rfl,⟨_,_,rfl,rfl,⟨A4,c4,rfl,l4,g4⟩⟩⟩⟩⟩:=h
 exact⟨A4,c4,rfl,l4,g4⟩
theorem k48_openM {w:World} {base:Nat} {ok:Nat→Prop} {x:S48} {cs:List Value} (h:k48.M w base ok x cs):∃ v4,cs=[.int .i64 x.f0, .string x.f1, .int .i64 x.f2, .int .i64 x.f3,v4]∧(Kd.int .u8).R 5 w base ok v4 x.f4:=by
 obtain⟨_,_,rfl,rfl,⟨_,_,rfl,rfl,⟨_,_,rfl,rfl,⟨_,_,rfl,rfl,⟨v4,rfl,g4⟩⟩⟩⟩⟩:=h
 exact⟨v4,rfl,g4⟩
theorem k48_mk (w:World) (x:S48) {A4:Option Addr} {c4:Nat} (l4:x.f4.length≤c4) (g4:(Kd.int .u8).C w A4 x.f4.length x.f4):k48.K w x [.int .i64 x.f0, .string x.f1, .int .i64 x.f2, .int .i64 x.f3, .slice A4 x.f4.length c4]:=⟨[.int .i64 x.f0],[.string x.f1, .int .i64 x.f2, .int .i64 x.f3, .slice A4 x.f4.length c4],rfl,rfl,⟨[.string x.f1],[.int .i64 x.f2, .int .i64 x.f3, .slice A4 x.f4.length c4],rfl,rfl,⟨[.int .i64 x.f2],[.int .i64 x.f3, .slice A4 x.f4.length c4],rfl,rfl,⟨[.int .i64 x.f3],[.slice A4 x.f4.length c4],rfl,rfl,⟨A4,c4,rfl,l4,g4⟩⟩⟩⟩⟩
theorem k48_mkM (w:World) (base:Nat) (ok:Nat→Prop) (x:S48) {v4:Value} (g4:(Kd.int .u8).R 5 w base ok v4 x.f4):k48.M w base ok x [.int .i64 x.f0, .string x.f1, .int .i64 x.f2, .int .i64 x.f3,v4]:=⟨[.int .i64 x.f0],[.string x.f1, .int .i64 x.f2, .int .i64 x.f3,v4],rfl,rfl,⟨[.string x.f1],[.int .i64 x.f2, .int .i64 x.f3,v4],rfl,rfl,⟨[.int .i64 x.f2],[.int .i64 x.f3,v4],rfl,rfl,⟨[.int .i64 x.f3],[v4],rfl,rfl,⟨v4,rfl,g4⟩⟩⟩⟩⟩
theorem k48_openF {W:World} {ok:Nat→Prop} {x:S48} {cs:List Value} (h:Kd.FK k48 W ok x cs):∃ A4 c4,cs=[.int .i64 x.f0, .string x.f1, .int .i64 x.f2, .int .i64 x.f3, .slice A4 x.f4.length c4]∧x.f4.length≤c4∧Kd.F (Kd.int .u8) W ok A4 x.f4.length x.f4:=by
 obtain⟨A4,c4,rfl,l4,_⟩:=k48_open (Kd.FK_now h)
 exact⟨A4,c4,rfl,l4,(fun W' hW=>by obtain⟨A4_,c4_,he,l4_,g4_⟩:=k48_open (h W' hW);injection (Option.some.inj (show some (Value.slice A4 x.f4.length c4)=some (Value.slice A4_ x.f4.length c4_) from congrArg (fun l=>l[4]?) he)) with ha_ _ _;rw[ha_];exact g4_)⟩
theorem k48_mkF (W:World) (ok:Nat→Prop) (x:S48) {A4:Option Addr} {c4:Nat} (l4:x.f4.length≤c4) (g4:Kd.F (Kd.int .u8) W ok A4 x.f4.length x.f4):Kd.FK k48 W ok x [.int .i64 x.f0, .string x.f1, .int .i64 x.f2, .int .i64 x.f3, .slice A4 x.f4.length c4]:=fun W2 hW=>k48_mk W2 x l4 (g4 W2 hW)
def rd_T48 (xs:List S48) (i:Int):S48:=xs.getD i.toNat z48
theorem at_T48 {w:World} {A:Option Addr} {n:Nat} {xs:List S48} (h:Kd.C k48 w A n xs) (i:Int) (h0:0≤i) (h1:i<n):∃ ad A4 c4,A=some ad∧w.cell? (ad.add (i.toNat*5))=some (.int .i64 (rd_T48 xs i).f0)∧w.cell? ⟨(ad.add (i.toNat*5)).block,(ad.add (i.toNat*5)).off+1,none⟩=some (.string (rd_T48 xs i).f1)∧w.cell? ⟨(ad.add (i.toNat*5)).block,(ad.add (i.toNat*5)).off+2,none⟩=some (.int .i64 (rd_T48 xs i).f2)∧w.cell? ⟨(ad.add (i.toNat*5)).block,(ad.add (i.toNat*5)).off+3,none⟩=some (.int .i64 (rd_T48 xs i).f3)∧w.cell? ⟨(ad.add (i.toNat*5)).block,(ad.add (i.toNat*5)).off+4,none⟩=some (.slice A4 (rd_T48 xs i).f4.length c4)∧(rd_T48 xs i).f4.length≤c4∧(Kd.int .u8).C w A4 (rd_T48 xs i).f4.length (rd_T48 xs i).f4:=by
 obtain⟨ad,c,e,_,hK,hc0⟩:=Kd.C_get h z48 i h0 h1
 have hc:∀ j u,c[j]? =some u→w.cell? (ad.add (i.toNat*5+j))=some u:=hc0
 obtain⟨A4,c4,rfl,l4,g4⟩:=k48_open hK
 exact⟨ad,A4,c4,e,hc 0 _ rfl,by rw[← add_field _ _ 1 (by omega)];exact hc 1 _ rfl,by rw[← add_field _ _ 2 (by omega)];exact hc 2 _ rfl,by rw[← add_field _ _ 3 (by omega)];exact hc 3 _ rfl,by rw[← add_field _ _ 4 (by omega)];exact hc 4 _ rfl,l4,g4⟩

structure S86 where
 f0:(List S31)
 f1:Int
 f2:(List Int)
 f3:Int
def z86:S86:=⟨([]:List S31),(0:Int),([]:List Int),(0:Int)⟩
def k86:Kd S86:=Kd.iso (Kd.pair (Kd.slice 31 k31) (Kd.pair (Kd.int .i64) (Kd.pair (Kd.slice 5 (Kd.int .u8)) (Kd.int .i64)))) (fun x:S86=>(x.f0,x.f1,x.f2,x.f3))
theorem k86_heap:Kd.Heap k86:=Kd.heap_iso _ (Kd.heap_pair (Kd.heap_slice 31 k31_heap) (Kd.heap_pair (Kd.heap_int .i64) (Kd.heap_pair (Kd.heap_slice 5 (Kd.heap_int .u8)) (Kd.heap_int .i64))))
theorem k86_open {w:World} {x:S86} {cs:List Value} (h:k86.K w x cs):∃ A0 c0 A2 c2,cs=[.slice A0 x.f0.length c0, .int .i64 x.f1, .slice A2 x.f2.length c2, .int .i64 x.f3]∧x.f0.length≤c0∧k31.C w A0 x.f0.length x.f0∧x.f2.length≤c2∧(Kd.int .u8).C w A2 x.f2.length x.f2:=by
 obtain⟨_,_,rfl,⟨A0,c0,rfl,l0,g0⟩,⟨_,_,rfl,rfl,⟨_,_,rfl,⟨A2,c2,rfl,l2,g2⟩,rfl⟩⟩⟩:=h
 exact⟨A0,c0,A2,c2,rfl,l0,g0,l2,g2⟩
theorem k86_openM {w:World} {base:Nat} {ok:Nat→Prop} {x:S86} {cs:List Value} (h:k86.M w base ok x cs):∃ v0 v2,cs=[v0, .int .i64 x.f1,v2, .int .i64 x.f3]∧k31.R 31 w base ok v0 x.f0∧(Kd.int .u8).R 5 w base ok v2 x.f2:=by
 obtain⟨_,_,rfl,⟨v0,rfl,g0⟩,⟨_,_,rfl,rfl,⟨_,_,rfl,⟨v2,rfl,g2⟩,rfl⟩⟩⟩:=h
 exact⟨v0,v2,rfl,g0,g2⟩
theorem k86_mk (w:World) (x:S86) {A0:Option Addr} {c0:Nat} (l0:x.f0.length≤c0) (g0:k31.C w A0 x.f0.length x.f0) {A2:Option Addr} {c2:Nat} (l2:x.f2.length≤c2) (g2:(Kd.int .u8).C w A2 x.f2.length x.f2):k86.K w x [.slice A0 x.f0.length c0, .int .i64 x.f1, .slice A2 x.f2.length c2, .int .i64 x.f3]:=⟨[.slice A0 x.f0.length c0],[.int .i64 x.f1, .slice A2 x.f2.length c2, .int .i64 x.f3],rfl,⟨A0,c0,rfl,l0,g0⟩,⟨[.int .i64 x.f1],[.slice A2 x.f2.length c2, .int .i64 x.f3],rfl,rfl,⟨[.slice A2 x.f2.length c2],[.int .i64 x.f3],rfl,⟨A2,c2,rfl,l2,g2⟩,rfl⟩⟩⟩
theorem k86_mkM (w:World) (base:Nat) (ok:Nat→Prop) (x:S86) {v0:Value} (g0:k31.R 31 w base ok v0 x.f0) {v2:Value} (g2:(Kd.int .u8).R 5 w base ok v2 x.f2):k86.M w base ok x [v0, .int .i64 x.f1,v2, .int .i64 x.f3]:=⟨[v0],[.int .i64 x.f1,v2, .int .i64 x.f3],rfl,⟨v0,rfl,g0⟩,⟨[.int .i64 x.f1],[v2, .int .i64 x.f3],rfl,rfl,⟨[v2],[.int .i64 x.f3],rfl,⟨v2,rfl,g2⟩,rfl⟩⟩⟩
theorem k86_openF {W:World} {ok:Nat→Prop} {x:S86} {cs:List Value} (h:Kd.FK k86 W ok x cs):∃ A0 c0 A2 c2,cs=[.slice A0 x.f0.length c0, .int .i64 x.f1, .slice A2 x.f2.length c2, .int .i64 x.f3]∧x.f0.length≤c0∧Kd.F k31 W ok A0 x.f0.length x.f0∧x.f2.length≤c2∧Kd.F (Kd.int .u8) W ok A2 x.f2.length x.f2:=by
 obtain⟨A0,c0,A2,c2,rfl,l0,_,l2,_⟩:=k86_open (Kd.FK_now h)
 exact⟨A0,c0,A2,c2,rfl,l0,(fun W' hW=>by obtain⟨A0_,c0_,A2_,c2_,he,l0_,g0_,l2_,g2_⟩:=k86_open (h W' hW);injection (Option.some.inj (show some (Value.slice A0 x.f0.length c0)=some (Value.slice A0_ x.f0.length c0_) from congrArg (fun l=>l[0]?) he)) with ha_ _ _;rw[ha_];exact g0_),l2,(fun W' hW=>by obtain⟨A0_,c0_,A2_,c2_,he,l0_,g0_,l2_,g2_⟩:=k86_open (h W' hW);injection (Option.some.inj (show some (Value.slice A2 x.f2.length c2)=some (Value.slice A2_ x.f2.length c2_) from congrArg (fun l=>l[2]?) he)) with ha_ _ _;rw[ha_];exact g2_)⟩
theorem k86_mkF (W:World) (ok:Nat→Prop) (x:S86) {A0:Option Addr} {c0:Nat} (l0:x.f0.length≤c0) (g0:Kd.F k31 W ok A0 x.f0.length x.f0) {A2:Option Addr} {c2:Nat} (l2:x.f2.length≤c2) (g2:Kd.F (Kd.int .u8) W ok A2 x.f2.length x.f2):Kd.FK k86 W ok x [.slice A0 x.f0.length c0, .int .i64 x.f1, .slice A2 x.f2.length c2, .int .i64 x.f3]:=fun W2 hW=>k86_mk W2 x l0 (g0 W2 hW) l2 (g2 W2 hW)
def rd_T86 (xs:List S86) (i:Int):S86:=xs.getD i.toNat z86
theorem at_T86 {w:World} {A:Option Addr} {n:Nat} {xs:List S86} (h:Kd.C k86 w A n xs) (i:Int) (h0:0≤i) (h1:i<n):∃ ad A0 c0 A2 c2,A=some ad∧w.cell? (ad.add (i.toNat*4))=some (.slice A0 (rd_T86 xs i).f0.length c0)∧w.cell? ⟨(ad.add (i.toNat*4)).block,(ad.add (i.toNat*4)).off+1,none⟩=some (.int .i64 (rd_T86 xs i).f1)∧w.cell? ⟨(ad.add (i.toNat*4)).block,(ad.add (i.toNat*4)).off+2,none⟩=some (.slice A2 (rd_T86 xs i).f2.length c2)∧w.cell? ⟨(ad.add (i.toNat*4)).block,(ad.add (i.toNat*4)).off+3,none⟩=some (.int .i64 (rd_T86 xs i).f3)∧(rd_T86 xs i).f0.length≤c0∧k31.C w A0 (rd_T86 xs i).f0.length (rd_T86 xs i).f0∧(rd_T86 xs i).f2.length≤c2∧(Kd.int .u8).C w A2 (rd_T86 xs i).f2.length (rd_T86 xs i).f2:=by
 obtain⟨ad,c,e,_,hK,hc0⟩:=Kd.C_get h z86 i h0 h1
 have hc:∀ j u,c[j]? =some u→w.cell? (ad.add (i.toNat*4+j))=some u:=hc0
 obtain⟨A0,c0,A2,c2,rfl,l0,g0,l2,g2⟩:=k86_open hK
 exact⟨ad,A0,c0,A2,c2,e,hc 0 _ rfl,by rw[← add_field _ _ 1 (by omega)];exact hc 1 _ rfl,by rw[← add_field _ _ 2 (by omega)];exact hc 2 _ rfl,by rw[← add_field _ _ 3 (by omega)];exact hc 3 _ rfl,l0,g0,l2,g2⟩
end Go.Proofs.Ytlalkldjpniakaa.P
