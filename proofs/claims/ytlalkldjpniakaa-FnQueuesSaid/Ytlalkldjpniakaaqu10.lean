import Derived.Test.Ytlalkldjpniakaaqu7
namespace Go.Proofs.Ytlalkldjpniakaa.P
open Go.RowKit Go.Proofs.YtlalkldjpniakaaW.PrintWords Go.Proofs.YtlalkldjpniakaaW.PrintLast Go.Proofs.YtlalkldjpniakaaW.PrintMore
attribute [local go_sem] zbr zbs zch zci zbk zbl zbt zbu -- for this text's walks alone
set_option linter.unusedVariables false
set_option linter.unusedSimpArgs false
set_option maxHeartbeats 8000000
set_option maxRecDepth 100000

def impl_Of.l0:Nat→ByteArray→Int→List (S34)→Int→Int→Option (Int)
 | 0,_,_,_,_,_=>none
 | k+1,x1,x5,x8,x9,x10=>if x10<x9 then(if 0≤x10 then(if x10<(x8.length:Int) then(if((rd_T34 x8 x10).f0).toList=x1.toList then(impl_Of.l0 k x1 (wrap64 (x5+1)) x8 x9 (wrap64 (x10+1))) else(impl_Of.l0 k x1 x5 x8 x9 (wrap64 (x10+1)))) else(none)) else(none)) else(some x5)
def impl_Of.f (k:Nat) (l0:List (S34)) (a1:ByteArray):Option (Int):=impl_Of.l0 k a1 0 l0 (l0.length:Int) 0
theorem impl_Of.mono_l:∀ k,(∀ y0 y1 y2 y3 y4,LeO (impl_Of.l0 k y0 y1 y2 y3 y4) (impl_Of.l0 (k+1) y0 y1 y2 y3 y4))
 | 0=>fun _ _ _ _ _ r h=>by simp [impl_Of.l0] at h
 | k+1=>by
  have ih0:=impl_Of.mono_l k
  intro y0 y1 y2 y3 y4
  unfold impl_Of.l0
  exact mt
theorem impl_Of.mono:∀ a0 a1 k,LeO (impl_Of.f k a0 a1) (impl_Of.f (k+1) a0 a1):=by
 intro a0 a1 k
 have ih0:=impl_Of.mono_l k
 unfold impl_Of.f
 exact mt
theorem impl_Of.calls (k:Nat) (A0:Option Addr) (c0:Nat) (l0:List (S34)) (a1:ByteArray) (r:Int) (w:World) (hr0:Kd.C k34 w A0 l0.length l0) (hc0:l0.length≤c0) (h:impl_Of.f k l0 a1=some r):
  Calls Try.prog 21 #[.slice A0 l0.length c0, .string a1] w fun e w'=>e= .returned (.int .i64 r)∧Below w.heap.size w w':=by
 have hu34:=Try.underlying34
 have HR0:=Aside0.mk hr0
 have HC0:=Aside0.mk hc0
 clear hr0 hc0
 have HB:=Aside0.mk (zbe w.heap.size w)
 have H:(impl_Of.l0 k a1 0 l0 (l0.length:Int) 0)=some r:=h
 clear h
 have H':=Aside0.mk H
 clear H
 go_enter Try.func21,Try.ntmps21
 go_wp2
 go_loopg [5,10] k (fun kq v5 v10 w'=>∃ (x5_1:Int) (x10_1:Int),v5= .int .i64 x5_1∧v10= .int .i64 x10_1∧Aside0 (impl_Of.l0 kq a1 x5_1 l0 (l0.length:Int) x10_1=some r)∧Aside0 (kq≤k)∧Aside0 (Below w.heap.size w w'))
 case atStart=>exact⟨(0),(0),jer,jer,H',⟨zbc _⟩,⟨bq⟩⟩
 case round=>
  clear H'
  try clear c2
  try clear p2
  obtain⟨x5_1,x10_1,rfl,rfl,HA,HK1,HB⟩:=hrel
  cases gk with
  | zero=>exact absurd HA.out (by simp [impl_Of.l0])
  | succ k1=>
   have H:=HA.out
   clear HA
   simp only[impl_Of.l0] at H
   by_cases c3:x10_1<(l0.length:Int)
   ·rw[if_pos c3] at H
    have c3b0:=zag c3
    clear c3
    by_cases c4:0≤x10_1
    ·rw[if_pos c4] at H
     have c4b0:=zag c4
     clear c4
     by_cases c5:x10_1<(l0.length:Int)
     ·rw[if_pos c5] at H
      have c5b0:=zag c5
      clear c5
      by_cases c6:((rd_T34 l0 x10_1).f0).toList=a1.toList
      ·rw[if_pos c6] at H
       have c6b0:=beqT c6
       have c6b1:=zbj.mpr c6
       clear c6
       have H':=Aside0.mk H
       clear H
       obtain⟨p129,q129,ad129,A129_3,c129_3,e129,hx129_0,hx129_1,hx129_2,hx129_3,HC129_3,HR129_3⟩:=jel HR0.out HB.out x10_1
       cases e129
       go_wp2_with (first | (refine jgd 7 ?_;refine bx 7 (#[.string (⟨#[]⟩:ByteArray), .int .i64 0, .int .i64 0, .slice none 0 0]) 34 ?_;intro gb130 hg w7 hbox hb;have xb_:=below_ofs bq hb;have n_:=jA4 (zah xb_ hb) (hbox) (ge0 hg xb_:w.heap.size≤gb130) (ge0 hg xb_:w.heap.size≤gb130);clear HB;obtain⟨HB,BK130,GW130,GE130⟩:=n_;clear xb_ hb hbox hg;obtain⟨hcz8_0,hcz8_1,hcz8_2,hcz8_3,hfz8_0,hfz8_1,hfz8_2,hfz8_3⟩:=cz4 BK130.out))
       go_roundg k1
       case measure=>have:=HK1.out;omega
       case rel=>exact⟨(wrap64 (x5_1+1)),(wrap64 (x10_1+1)),jer,jer,H',⟨by have:=HK1.out;omega⟩,⟨bs1 GE130.out⟩⟩
      rw[if_neg c6] at H
      have c6b0:=zbb.mpr c6
      have c6b1:=zda.mpr c6
      have H':=Aside0.mk H
      clear H
      obtain⟨p129,q129,ad129,A129_3,c129_3,e129,hx129_0,hx129_1,hx129_2,hx129_3,HC129_3,HR129_3⟩:=jel HR0.out HB.out x10_1
      cases e129
      go_wp2_with (first | (refine jgd 7 ?_;refine bx 7 (#[.string (⟨#[]⟩:ByteArray), .int .i64 0, .int .i64 0, .slice none 0 0]) 34 ?_;intro gb130 hg w9 hbox hb;have xb_:=below_ofs bq hb;have n_:=jA4 (zah xb_ hb) (hbox) (ge0 hg xb_:w.heap.size≤gb130) (ge0 hg xb_:w.heap.size≤gb130);clear HB;obtain⟨HB,BK130,GW130,GE130⟩:=n_;clear xb_ hb hbox hg;obtain⟨hcz10_0,hcz10_1,hcz10_2,hcz10_3,hfz10_0,hfz10_1,hfz10_2,hfz10_3⟩:=cz4 BK130.out))
      go_roundg k1
      case measure=>have:=HK1.out;omega
      case rel=>exact⟨(x5_1),(wrap64 (x10_1+1)),jer,jer,H',⟨by have:=HK1.out;omega⟩,⟨bs1 GE130.out⟩⟩
     rw[if_neg c5] at H
     exact absurd H (by simp)
    rw[if_neg c4] at H
    exact absurd H (by simp)
   rw[if_neg c3] at H
   have c3b0:=zaw c3
   clear c3
   obtain rfl:=Option.some.inj H
   go_wp2
   go_ret
   exact⟨jex,bq⟩
def spec_l1Sign.j0:Nat→Int→Bool→Option (Int)
 | 0,_,_=>none
 | k+1,x0,x3=>if x3=true then(some (wrap64 ((wrap64 (x0)) - 48))) else(if x0≥97 then(if x0≤102 then(some (wrap64 ((wrap64 (x0)) - 87))) else(some (-1))) else(some (-1)))
def spec_l1Sign.f (k:Nat) (a0:Int):Option (Int):=if a0≥48 then(spec_l1Sign.j0 k a0 (decide (a0≤57))) else(spec_l1Sign.j0 k a0 false)
theorem spec_l1Sign.mono_l:∀ k,(∀ y0 y1,LeO (spec_l1Sign.j0 k y0 y1) (spec_l1Sign.j0 (k+1) y0 y1))
 | 0=>fun _ _ r h=>by simp [spec_l1Sign.j0] at h
 | k+1=>by
  have ih0:=spec_l1Sign.mono_l k
  intro y0 y1
  unfold spec_l1Sign.j0
  exact mt
theorem spec_l1Sign.mono:∀ a0 k,LeO (spec_l1Sign.f k a0) (spec_l1Sign.f (k+1) a0):=by
 intro a0 k
 have ih0:=spec_l1Sign.mono_l k
 unfold spec_l1Sign.f
 exact mt
theorem spec_l1Sign.calls (k:Nat) (a0:Int) (r:Int) (w:World) (h:spec_l1Sign.f k a0=some r):
  Calls Try.prog 135 #[.int .u8 a0] w fun e w'=>e= .returned (.int .i64 r)∧Drawn0 w w':=by
 have H:(if a0≥48 then(spec_l1Sign.j0 k a0 (decide (a0≤57))) else(spec_l1Sign.j0 k a0 false))=some r:=h
 clear h
 have HC2:=Aside0.mk H
 clear H
 go_enter Try.func135,Try.ntmps135
 go_upto_region 1 with (fail)
 go_cut [3] (fun v3 wc=>∃ (kq:Nat) (x3_1:Bool),v3= .bool x3_1∧Aside0 (spec_l1Sign.j0 kq a0 x3_1=some r)∧Aside0 (kq≤k)∧Drawn0 w wc)
 case first=>
  have H:=HC2.out
  clear HC2
  by_cases c3:a0≥48
  ·rw[if_pos c3] at H
   have c3b0:=zag c3
   clear c3
   (first | rw[c3b0] | (simp only[i64_w,i32_w];rw[c3b0]) | skip)
   have H':=Aside0.mk H
   clear H
   go_wp2
   go_meet
   case rel=>exact⟨_,(decide (a0≤57)),jer,H',⟨by first | omega | exact zbc _⟩,by repeat(first | exact Drawn0.refl _ | apply Drawn0.step)⟩
  rw[if_neg c3] at H
  have c3b0:=zaw c3
  clear c3
  (first | rw[c3b0] | (simp only[i64_w,i32_w];rw[c3b0]) | skip)
  have H':=Aside0.mk H
  clear H
  go_wp2
  go_meet
  case rel=>exact⟨_,(false),jer,H',⟨by first | omega | exact zbc _⟩,by repeat(first | exact Drawn0.refl _ | apply Drawn0.step)⟩
 case rest=>
  clear HC2
  try clear c1
  try clear p2
  try clear c3
  try clear c3b0
  obtain⟨kq,x3_1,rfl,HA,HJ1,⟨mc1,rfl⟩⟩:=hcut
  cases kq with
  | zero=>exact absurd HA.out (by simp [spec_l1Sign.j0])
  | succ kj1=>
   have H:=HA.out
   clear HA
   simp only[spec_l1Sign.j0] at H
   by_cases c4:x3_1=true
   ·subst c4
    rw[if_pos rfl] at H
    obtain rfl:=Option.some.inj H
    go_wp2
    go_ret
    exact⟨by first | rfl | (simp;done) | (simp [*];done),by repeat(first | exact Drawn0.refl _ | apply Drawn0.step)⟩
   replace c4:=zcd.mpr c4
   subst c4
   rw[if_neg (show ¬(false=true) by decide)] at H
   by_cases c5:a0≥97
   ·rw[if_pos c5] at H
    have c5b0:=zag c5
    clear c5
    by_cases c6:a0≤102
    ·rw[if_pos c6] at H
     have c6b0:=zag c6
     clear c6
     obtain rfl:=Option.some.inj H
     go_wp2
     go_ret
     exact⟨by first | rfl | (simp;done) | (simp [*];done),by repeat(first | exact Drawn0.refl _ | apply Drawn0.step)⟩
    rw[if_neg c6] at H
    have c6b0:=zaw c6
    clear c6
    obtain rfl:=Option.some.inj H
    go_wp2
    go_ret
    exact⟨by first | rfl | (simp;done) | (simp [*];done),by repeat(first | exact Drawn0.refl _ | apply Drawn0.step)⟩
   rw[if_neg c5] at H
   have c5b0:=zaw c5
   clear c5
   obtain rfl:=Option.some.inj H
   go_wp2
   go_ret
   exact⟨by first | rfl | (simp;done) | (simp [*];done),by repeat(first | exact Drawn0.refl _ | apply Drawn0.step)⟩
end Go.Proofs.Ytlalkldjpniakaa.P
