import Derived.Test.Ytienlgcjohpphaale8
namespace Go.Proofs.Ytienlgcjohpphaa.P
open Go.RowKit Go.Proofs.YtienlgcjohpphaaW.PrintWords Go.Proofs.YtienlgcjohpphaaW.PrintLast Go.Proofs.YtienlgcjohpphaaW.PrintMore
attribute [local go_sem] zcn zco zdk zdl zce zcf zcp zcq -- for this text's walks alone
set_option linter.unusedVariables false
set_option linter.unusedSimpArgs false
set_option maxHeartbeats 8000000
set_option maxRecDepth 100000

def spec_l3Mix.f (a0:Int) (a1:Int) (a2:Int) (a3:Int) (a4:Bool):Option (Int):=(spec_Turn.f a0 (wrap64 (32 - a3))).bind fun t103=>(if a4=true then((spec_Word.f a0).bind fun t104=>(if 0≤a3 then((spec_Turn.f a0 (wrap64 (32 - a1))).bind fun t105=>((spec_Turn.f a0 (wrap64 (32 - a2))).bind fun t106=>(some (Go.bits .xor .i64 (Go.bits .xor .i64 t105 t106) (shr .i64 t104 a3))))) else(none))) else((spec_Turn.f a0 (wrap64 (32 - a1))).bind fun t107=>((spec_Turn.f a0 (wrap64 (32 - a2))).bind fun t108=>(some (Go.bits .xor .i64 (Go.bits .xor .i64 t107 t108) t103)))))
theorem spec_l3Mix.wk {P:Prop} (h:P:=by
 go_enter Try.func70,Try.ntmps70
 go_wp2_with (first | (refine jgc 101 ?_;refine jgs 15 Try.func101 #[.int .i64 a0, .int .i64 (wrap64 (32 - a3))] ?_;(with_reducible refine(spec_Turn.calls a0 (wrap64 (32 - a3)) t103 _ A6.out).mono ?_);rintro e w' ⟨rfl,⟨nd,rfl⟩⟩;refine⟨_,rfl,?_⟩) | (refine jgc 69 ?_;refine jgs 18 Try.func69 #[.int .i64 a0] ?_;(with_reducible refine(spec_Word.calls a0 t104 _ A8.out).mono ?_);rintro e w' ⟨rfl,⟨nd,rfl⟩⟩;refine⟨_,rfl,?_⟩) | (refine jgc 101 ?_;refine jgs 24 Try.func101 #[.int .i64 a0, .int .i64 (wrap64 (32 - a1))] ?_;(with_reducible refine(spec_Turn.calls a0 (wrap64 (32 - a1)) t105 _ A11.out).mono ?_);rintro e w' ⟨rfl,⟨nd,rfl⟩⟩;refine⟨_,rfl,?_⟩) | (refine jgc 101 ?_;refine jgs 28 Try.func101 #[.int .i64 a0, .int .i64 (wrap64 (32 - a2))] ?_;(with_reducible refine(spec_Turn.calls a0 (wrap64 (32 - a2)) t106 _ A12.out).mono ?_);rintro e w' ⟨rfl,⟨nd,rfl⟩⟩;refine⟨_,rfl,?_⟩) | (refine jgc 101 ?_;refine jgs 24 Try.func101 #[.int .i64 a0, .int .i64 (wrap64 (32 - a1))] ?_;(with_reducible refine(spec_Turn.calls a0 (wrap64 (32 - a1)) t107 _ A13.out).mono ?_);rintro e w' ⟨rfl,⟨nd,rfl⟩⟩;refine⟨_,rfl,?_⟩) | (refine jgc 101 ?_;refine jgs 28 Try.func101 #[.int .i64 a0, .int .i64 (wrap64 (32 - a2))] ?_;(with_reducible refine(spec_Turn.calls a0 (wrap64 (32 - a2)) t108 _ A14.out).mono ?_);rintro e w' ⟨rfl,⟨nd,rfl⟩⟩;refine⟨_,rfl,?_⟩))
 go_ret
 first | (exact⟨by first | rfl | (simp;done) | (simp only[← hji10] <;> (first | rfl | simp)) | (simp [*];done),by repeat(first | exact Drawn0.refl _ | apply Drawn0.step)⟩) | (exact⟨by first | rfl | (simp;done) | (simp [*];done),by repeat(first | exact Drawn0.refl _ | apply Drawn0.step)⟩)):P:=h
theorem spec_l3Mix.calls (a0:Int) (a1:Int) (a2:Int) (a3:Int) (a4:Bool) (r:Int) (w:World) (h:spec_l3Mix.f a0 a1 a2 a3 a4=some r):
  Calls Try.prog 70 #[.int .i64 a0, .int .i64 a1, .int .i64 a2, .int .i64 a3, .bool a4] w fun e w'=>e= .returned (.int .i64 r)∧Drawn0 w w':=by
 have H:((spec_Turn.f a0 (wrap64 (32 - a3))).bind fun t103=>(if a4=true then((spec_Word.f a0).bind fun t104=>(if 0≤a3 then((spec_Turn.f a0 (wrap64 (32 - a1))).bind fun t105=>((spec_Turn.f a0 (wrap64 (32 - a2))).bind fun t106=>(some (Go.bits .xor .i64 (Go.bits .xor .i64 t105 t106) (shr .i64 t104 a3))))) else(none))) else((spec_Turn.f a0 (wrap64 (32 - a1))).bind fun t107=>((spec_Turn.f a0 (wrap64 (32 - a2))).bind fun t108=>(some (Go.bits .xor .i64 (Go.bits .xor .i64 t107 t108) t103))))))=some r:=h
 clear h
 obtain⟨t103,A6,H⟩:=bnd H
 by_cases c7:a4=true
 ·subst c7
  rw[if_pos rfl] at H
  obtain⟨t104,A8,H⟩:=bnd H
  by_cases c9:0≤a3
  ·rw[if_pos c9] at H
   have c9b0:=zas c9
   have c9b1:=zab c9
   clear c9
   obtain⟨ji10,hji10⟩:∃ j_:Int,(shr .i64 t104 a3)=j_:=⟨_,rfl⟩
   replace H:((spec_Turn.f a0 (wrap64 (32 - a1))).bind fun t105=>((spec_Turn.f a0 (wrap64 (32 - a2))).bind fun t106=>(some (Go.bits .xor .i64 (Go.bits .xor .i64 t105 t106) (ji10)))))=some r:=by first | (rw[hji10] at H;exact H) | (simp only[hji10] at H ⊢;exact H)
   (try rw[hji10] at A6)
   (try rw[hji10] at A8)
   have hji10_:(t104 / 2 ^ min a3.toNat 64)=ji10:=hji10
   have hji10z:a3≤64→(t104 / 2 ^ a3.toNat)=ji10:=shr_small hji10
   obtain⟨t105,A11,H⟩:=bnd H
   obtain⟨t106,A12,H⟩:=bnd H
   obtain rfl:=Option.some.inj H
   exact spec_l3Mix.wk
  rw[if_neg c9] at H
  exact absurd H (by simp)
 replace c7:=zds.mpr c7
 subst c7
 rw[if_neg (show ¬(false=true) by decide)] at H
 obtain⟨t107,A13,H⟩:=bnd H
 obtain⟨t108,A14,H⟩:=bnd H
 obtain rfl:=Option.some.inj H
 exact spec_l3Mix.wk
end Go.Proofs.Ytienlgcjohpphaa.P
