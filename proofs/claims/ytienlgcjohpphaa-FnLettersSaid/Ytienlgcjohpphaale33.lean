import Derived.Test.Ytienlgcjohpphaale32
namespace Go.Proofs.Ytienlgcjohpphaa.P
open Go.RowKit Go.Proofs.YtienlgcjohpphaaW.PrintWords Go.Proofs.YtienlgcjohpphaaW.PrintLast Go.Proofs.YtienlgcjohpphaaW.PrintMore
attribute [local go_sem] zcn zco zdk zdl zce zcf zcp zcq -- for this text's walks alone
set_option linter.unusedVariables false
set_option linter.unusedSimpArgs false

def impl_LetterOf.f (k:Nat) (l0:List Int):Option (Int×List Int×List Int×Bool):=impl_LetterOfV.f k l0
theorem impl_LetterOf.mono:∀ a0 k,LeO (impl_LetterOf.f k a0) (impl_LetterOf.f (k+1) a0):=impl_LetterOfV.mono
theorem impl_LetterOf.calls (k:Nat) (A0:Option Addr) (c0:Nat) (l0:List Int) (r1:Int) (r2:List Int) (r3:List Int) (r4:Bool) (w:World) (hr0:Kd.C (Kd.int .u8) w A0 l0.length l0) (hc0:l0.length≤c0) (h:impl_LetterOf.f k l0=some (r1,r2,r3,r4)):
  Calls Try.prog 59 #[.slice A0 l0.length c0] w fun e w'=>∃ v1_ v2_:Value,e= .returned (.tuple #[.agg #[.int .i64 r1,v1_,v2_], .bool r4])∧Kd.R (Kd.int .u8) 5 w' w.heap.size (fun k_=>some k_≠(v2_:Value).ownBlock) v1_ r2∧Kd.R (Kd.int .u8) 5 w' w.heap.size (fun k_=>some k_≠(v1_:Value).ownBlock) v2_ r3∧Below w.heap.size w w':=
 (impl_LetterOfV.calls k (fun _=>True) A0 c0 l0 r1 r2 r3 r4 w (zga hc0 (zfd (Kd.C_F (zgg .u8) hr0) (fun _ _=>trivial))) h).mono fun e w' ⟨v1,v2,h1,h2,h3,h4⟩=>⟨v1,v2,h1,zao h2 (fun _ h=>h.2),zao h3 (fun _ h=>h.2),h4⟩
end Go.Proofs.Ytienlgcjohpphaa.P
