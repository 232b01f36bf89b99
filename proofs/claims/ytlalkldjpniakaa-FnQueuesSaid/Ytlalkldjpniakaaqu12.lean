import Derived.Test.Ytlalkldjpniakaaqu11
namespace Go.Proofs.Ytlalkldjpniakaa.P
open Go.RowKit Go.Proofs.YtlalkldjpniakaaW.PrintWords Go.Proofs.YtlalkldjpniakaaW.PrintLast Go.Proofs.YtlalkldjpniakaaW.PrintMore
attribute [local go_sem] zbr zbs zch zci zbk zbl zbt zbu -- for this text's walks alone
set_option linter.unusedVariables false
set_option linter.unusedSimpArgs false
set_option maxHeartbeats 8000000
set_option maxRecDepth 100000

def spec_l1In.f (a0:Int) (a1:Int) (a2:Int):Option (Bool):=if a0≥a1 then(some (decide (a0≤a2))) else(some false)
theorem spec_l1In.wk {P:Prop} (h:P:=by
 go_enter Try.func89,Try.ntmps89
 go_wp2
 go_ret
 exact⟨by first | rfl | (simp;done) | (simp [*];done),by repeat(first | exact Drawn0.refl _ | apply Drawn0.step)⟩):P:=h
theorem spec_l1In.calls (a0:Int) (a1:Int) (a2:Int) (r:Bool) (w:World) (h:spec_l1In.f a0 a1 a2=some r):
  Calls Try.prog 89 #[.int .i64 a0, .int .i64 a1, .int .i64 a2] w fun e w'=>e= .returned (.bool r)∧Drawn0 w w':=by
 have H:(if a0≥a1 then(some (decide (a0≤a2))) else(some false))=some r:=h
 clear h
 by_cases c4:a0≥a1
 ·rw[if_pos c4] at H
  have c4b0:=zag c4
  clear c4
  obtain rfl:=Option.some.inj H
  exact spec_l1In.wk
 rw[if_neg c4] at H
 have c4b0:=zaw c4
 clear c4
 obtain rfl:=Option.some.inj H
 exact spec_l1In.wk
def spec_ItemOk.f (k:Nat) (a0_0:ByteArray) (a0_1:Int) (a0_2:Int) (l0_3:List Int):Option (Bool):=(spec_l13Route.f k a0_0).bind fun t174=>(if t174=true then((spec_l1In.f a0_1 0 9).bind fun t175=>(if t175=true then((spec_l1In.f a0_2 0 100000).bind fun t176=>(if t176=true then(some (decide ((l0_3.length:Int)≤1560))) else(some false))) else(some false))) else(some false))
theorem spec_ItemOk.mono:∀ a0 a1 a2 a3 k,LeO (spec_ItemOk.f k a0 a1 a2 a3) (spec_ItemOk.f (k+1) a0 a1 a2 a3):=by
 intro a0 a1 a2 a3 k
 unfold spec_ItemOk.f
 have m0:=@spec_l13Route.mono
 exact mt
theorem spec_ItemOk.wk {P:Prop} (h:P:=by
 go_enter Try.func24,Try.ntmps24
 go_wp2_with (first | (refine jgd 1 ?_;(try(refine gate_guard (by rfl) ?_;dsimp only));refine bx 1 (#[.string a0_0, .int .i64 a0_1, .int .i64 a0_2, .slice A0_3 l0_3.length c0_3]) 34 ?_;intro gb173 hg w_ hbox hb;have xb_:=below_ofs bq hb;have n_:=jA4 (zah xb_ hb) (hbox) (ge0 hg xb_:w.heap.size≤gb173) (ge0 hg xb_:w.heap.size≤gb173);clear HB;obtain⟨HB,BK173,GW173,GE173⟩:=n_;clear xb_ hb hbox hg;obtain⟨c0,c1,c2,c3,z0,z1,z2,z3⟩:=cz4 BK173.out) | (refine jgc 88 ?_;refine jgs 5 Try.func88 #[.string a0_0] ?_;(with_reducible refine(spec_l13Route.calls k a0_0 _ _ A2.out).mono ?_);rintro e w_ ⟨rfl,hb⟩;refine⟨_,rfl,?_⟩;have n_:=jA2 (jbb BK173.out hb) (zah (bs1 GE173.out) hb);clear BK173 HB;obtain⟨BK173,HB⟩:=n_;(try clear hb);(try clear hb2);(try clear hk);(try clear hi);obtain⟨c0,c1,c2,c3,z0,z1,z2,z3⟩:=cz4 BK173.out) | (go_at_call 89;(with_reducible refine(spec_l1In.calls a0_1 0 9 _ _ A4.out).mono ?_);rintro e w' ⟨rfl,⟨nd,rfl⟩⟩) | (go_at_call 89;(with_reducible refine(spec_l1In.calls a0_2 0 100000 _ _ A6.out).mono ?_);rintro e w' ⟨rfl,⟨nd,rfl⟩⟩))
 go_ret
 exact⟨jex,(bs1 GE173.out)⟩):P:=h
theorem spec_ItemOk.calls (k:Nat) (a0_0:ByteArray) (a0_1:Int) (a0_2:Int) (A0_3:Option Addr) (c0_3:Nat) (l0_3:List Int) (r:Bool) (w:World) (hr0_3:Kd.C (Kd.int .u8) w A0_3 l0_3.length l0_3) (hc0_3:l0_3.length≤c0_3) (h:spec_ItemOk.f k a0_0 a0_1 a0_2 l0_3=some r):
  Calls Try.prog 24 #[.agg #[.string a0_0, .int .i64 a0_1, .int .i64 a0_2, .slice A0_3 l0_3.length c0_3]] w fun e w'=>e= .returned (.bool r)∧Below w.heap.size w w':=by
 have hu34:=Try.underlying34
 have HR0_3:=Aside0.mk hr0_3
 have HC0_3:=Aside0.mk hc0_3
 clear hr0_3 hc0_3
 have HB:=Aside0.mk (zbe w.heap.size w)
 have H:((spec_l13Route.f k a0_0).bind fun t174=>(if t174=true then((spec_l1In.f a0_1 0 9).bind fun t175=>(if t175=true then((spec_l1In.f a0_2 0 100000).bind fun t176=>(if t176=true then(some (decide ((l0_3.length:Int)≤1560))) else(some false))) else(some false))) else(some false)))=some r:=h
 clear h
 obtain⟨t174,A2,H⟩:=bnd H
 by_cases c3:t174=true
 ·subst c3
  rw[if_pos rfl] at H
  obtain⟨t175,A4,H⟩:=bnd H
  by_cases c5:t175=true
  ·subst c5
   rw[if_pos rfl] at H
   obtain⟨t176,A6,H⟩:=bnd H
   by_cases c7:t176=true
   ·subst c7
    rw[if_pos rfl] at H
    obtain rfl:=Option.some.inj H
    exact spec_ItemOk.wk
   replace c7:=zcd.mpr c7
   subst c7
   rw[if_neg (show ¬(false=true) by decide)] at H
   obtain rfl:=Option.some.inj H
   exact spec_ItemOk.wk
  replace c5:=zcd.mpr c5
  subst c5
  rw[if_neg (show ¬(false=true) by decide)] at H
  obtain rfl:=Option.some.inj H
  exact spec_ItemOk.wk
 replace c3:=zcd.mpr c3
 subst c3
 rw[if_neg (show ¬(false=true) by decide)] at H
 obtain rfl:=Option.some.inj H
 exact spec_ItemOk.wk
def stringslite_IndexByte.f (a0:ByteArray) (a1:Int):Option (Int):=some (Lib.indexByte a0.data.toList a1.toNat.toUInt8)
theorem stringslite_IndexByte.calls (a0:ByteArray) (a1:Int) (r:Int) (w:World) (h:stringslite_IndexByte.f a0 a1=some r):
  Calls Try.prog 149 #[.string a0, .int .u8 a1] w fun e w'=>e= .returned (.int .i64 r)∧Drawn0 w w':=by
 obtain rfl:=Option.some.inj h
 clear h
 go_enter Try.func149,Try.ntmps149
 go_wp2
 rw[run_callFunc_extern Try.func156 (by kernel_rfl) (by kernel_rfl) (by kernel_rfl) (e:=Extern.BytealgIndexByte.indexByte) (by kernel_rfl),Lib.run_indexByteString]
 simp only[Result.andThen]
 rw[Oper.upon_value]
 go_wp2
 go_ret
 exact⟨rfl,Drawn0.refl _⟩
def strings_IndexByte.f (a0:ByteArray) (a1:Int):Option (Int):=(stringslite_IndexByte.f a0 a1).bind fun t177=>(some t177)
theorem strings_IndexByte.calls (a0:ByteArray) (a1:Int) (r:Int) (w:World) (h:strings_IndexByte.f a0 a1=some r):
  Calls Try.prog 137 #[.string a0, .int .u8 a1] w fun e w'=>e= .returned (.int .i64 r)∧Drawn0 w w':=by
 have H:((stringslite_IndexByte.f a0 a1).bind fun t177=>(some t177))=some r:=h
 clear h
 obtain⟨t177,A3,H⟩:=bnd H
 obtain rfl:=Option.some.inj H
 go_enter Try.func137,Try.ntmps137
 go_wp2_with (first | (refine jgc 149 ?_;refine jgs 7 Try.func149 #[.string a0, .int .u8 a1] ?_;(with_reducible refine(stringslite_IndexByte.calls a0 a1 t177 _ A3.out).mono ?_);rintro e w' ⟨rfl,⟨nd,rfl⟩⟩;refine⟨_,rfl,?_⟩))
 go_ret
 exact⟨by first | rfl | (simp;done) | (simp [*];done),by repeat(first | exact Drawn0.refl _ | apply Drawn0.step)⟩
end Go.Proofs.Ytlalkldjpniakaa.P
