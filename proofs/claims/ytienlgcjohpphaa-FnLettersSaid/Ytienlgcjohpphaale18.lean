import Derived.Test.Ytienlgcjohpphaale4
namespace Go.Proofs.Ytienlgcjohpphaa.P
open Go.RowKit Go.Proofs.YtienlgcjohpphaaW.PrintWords Go.Proofs.YtienlgcjohpphaaW.PrintLast Go.Proofs.YtienlgcjohpphaaW.PrintMore
attribute [local go_sem] zcn zco zdk zdl zce zcf zcp zcq -- for this text's walks alone
set_option linter.unusedVariables false
set_option linter.unusedSimpArgs false
set_option maxHeartbeats 8000000
set_option maxRecDepth 100000

def impl_wordOf.f (l0:List Int) (a1:Bool):Option (Int):=if a1=true then(if 0<(l0.length:Int) then(if 1<(l0.length:Int) then(if 2<(l0.length:Int) then(if 3<(l0.length:Int) then(some (Go.bits .or .i64 (Go.bits .or .i64 (Go.bits .or .i64 (wrap64 ((wrap64 (rd l0 0))*16777216)) (wrap64 ((wrap64 (rd l0 1))*65536))) (wrap64 ((wrap64 (rd l0 2))*256))) (wrap64 (rd l0 3)))) else(none)) else(none)) else(none)) else(none)) else(if 3<(l0.length:Int) then(if 2<(l0.length:Int) then(if 1<(l0.length:Int) then(if 0<(l0.length:Int) then(some (Go.bits .or .i64 (Go.bits .or .i64 (Go.bits .or .i64 (wrap64 ((wrap64 (rd l0 3))*16777216)) (wrap64 ((wrap64 (rd l0 2))*65536))) (wrap64 ((wrap64 (rd l0 1))*256))) (wrap64 (rd l0 0)))) else(none)) else(none)) else(none)) else(none))
theorem impl_wordOf.calls (A0:Option Addr) (c0:Nat) (l0:List Int) (a1:Bool) (r:Int) (w:World) (hr0:Kd.C (Kd.int .u8) w A0 l0.length l0) (hc0:l0.length≤c0) (h:impl_wordOf.f l0 a1=some r):
  Calls Try.prog 113 #[.slice A0 l0.length c0, .bool a1] w fun e w'=>e= .returned (.int .i64 r)∧Drawn0 w w':=by
 have HR0:=Aside0.mk hr0
 have HC0:=Aside0.mk hc0
 clear hr0 hc0
 have H:(if a1=true then(if 0<(l0.length:Int) then(if 1<(l0.length:Int) then(if 2<(l0.length:Int) then(if 3<(l0.length:Int) then(some (Go.bits .or .i64 (Go.bits .or .i64 (Go.bits .or .i64 (wrap64 ((wrap64 (rd l0 0))*16777216)) (wrap64 ((wrap64 (rd l0 1))*65536))) (wrap64 ((wrap64 (rd l0 2))*256))) (wrap64 (rd l0 3)))) else(none)) else(none)) else(none)) else(none)) else(if 3<(l0.length:Int) then(if 2<(l0.length:Int) then(if 1<(l0.length:Int) then(if 0<(l0.length:Int) then(some (Go.bits .or .i64 (Go.bits .or .i64 (Go.bits .or .i64 (wrap64 ((wrap64 (rd l0 3))*16777216)) (wrap64 ((wrap64 (rd l0 2))*65536))) (wrap64 ((wrap64 (rd l0 1))*256))) (wrap64 (rd l0 0)))) else(none)) else(none)) else(none)) else(none)))=some r:=h
 clear h
 by_cases c3:a1=true
 ·subst c3
  rw[if_pos rfl] at H
  by_cases c4:0<(l0.length:Int)
  ·rw[if_pos c4] at H
   have c4b0:=zab c4
   have c4b1:decide (0<l0.length)=true:=zab (by omega)
   clear c4
   by_cases c5:1<(l0.length:Int)
   ·rw[if_pos c5] at H
    have c5b0:=zab c5
    have c5b1:decide (1<l0.length)=true:=zab (by omega)
    clear c5
    by_cases c6:2<(l0.length:Int)
    ·rw[if_pos c6] at H
     have c6b0:=zab c6
     have c6b1:decide (2<l0.length)=true:=zab (by omega)
     clear c6
     by_cases c7:3<(l0.length:Int)
     ·rw[if_pos c7] at H
      have c7b0:=zab c7
      have c7b1:decide (3<l0.length)=true:=zab (by omega)
      clear c7
      obtain rfl:=Option.some.inj H
      have p206:0≤(0:Int):=(by omega)
      have q206:0<(l0.length:Int):=zad jab
      obtain⟨ad206,e206,hx206_0⟩:=zcd HR0.out 0 p206 q206
      cases e206
      have qi206:(0<l0.length)=True:=zas (by omega)
      (try rw[show((0:Int)).toNat=0 from rfl] at hx206_0)
      (try rw[zfm] at hx206_0)
      replace p206:=zas p206
      replace q206:=zas q206
      have p207:0≤(1:Int):=(by omega)
      have q207:1<(l0.length:Int):=zad jab
      obtain⟨ad207,e207,hx207_0⟩:=zcd HR0.out 1 p207 q207
      obtain rfl:ad206=ad207:=(by injection e207)
      (try simp only[show(1:Int).toNat=1 from rfl,Nat.reduceMul,Nat.reduceEqDiff,Go.Addr.add, ↓reduceIte] at hx207_0)
      have qi207:(1<l0.length)=True:=zas (by omega)
      (try rw[show((1:Int)).toNat=1 from rfl] at hx207_0)
      replace p207:=zas p207
      replace q207:=zas q207
      have p208:0≤(2:Int):=(by omega)
      have q208:2<(l0.length:Int):=zad jab
      obtain⟨ad208,e208,hx208_0⟩:=zcd HR0.out 2 p208 q208
      obtain rfl:ad206=ad208:=(by injection e208)
      (try simp only[show(2:Int).toNat=2 from rfl,Nat.reduceMul,Nat.reduceEqDiff,Go.Addr.add, ↓reduceIte] at hx208_0)
      have qi208:(2<l0.length)=True:=zas (by omega)
      (try rw[show((2:Int)).toNat=2 from rfl] at hx208_0)
      replace p208:=zas p208
      replace q208:=zas q208
      have p209:0≤(3:Int):=(by omega)
      have q209:3<(l0.length:Int):=zad jab
      obtain⟨ad209,e209,hx209_0⟩:=zcd HR0.out 3 p209 q209
      obtain rfl:ad206=ad209:=(by injection e209)
      (try simp only[show(3:Int).toNat=3 from rfl,Nat.reduceMul,Nat.reduceEqDiff,Go.Addr.add, ↓reduceIte] at hx209_0)
      have qi209:(3<l0.length)=True:=zas (by omega)
      (try rw[show((3:Int)).toNat=3 from rfl] at hx209_0)
      replace p209:=zas p209
      replace q209:=zas q209
      go_enter Try.func113,Try.ntmps113
      go_wp2
      repeat(go_quiet (fail);try go_wp2)
      go_ret
      exact⟨by first | rfl | (simp;done) | (simp [*];done),by repeat(first | exact Drawn0.refl _ | apply Drawn0.step)⟩
     rw[if_neg c7] at H
     exact absurd H (by simp)
    rw[if_neg c6] at H
    exact absurd H (by simp)
   rw[if_neg c5] at H
   exact absurd H (by simp)
  rw[if_neg c4] at H
  exact absurd H (by simp)
 replace c3:=zds.mpr c3
 subst c3
 rw[if_neg (show ¬(false=true) by decide)] at H
 by_cases c8:3<(l0.length:Int)
 ·rw[if_pos c8] at H
  have c8b0:=zab c8
  have c8b1:decide (3<l0.length)=true:=zab (by omega)
  clear c8
  by_cases c9:2<(l0.length:Int)
  ·rw[if_pos c9] at H
   have c9b0:=zab c9
   have c9b1:decide (2<l0.length)=true:=zab (by omega)
   clear c9
   by_cases c10:1<(l0.length:Int)
   ·rw[if_pos c10] at H
    have c10b0:=zab c10
    have c10b1:decide (1<l0.length)=true:=zab (by omega)
    clear c10
    by_cases c11:0<(l0.length:Int)
    ·rw[if_pos c11] at H
     have c11b0:=zab c11
     have c11b1:decide (0<l0.length)=true:=zab (by omega)
     clear c11
     obtain rfl:=Option.some.inj H
     have p210:0≤(3:Int):=(by omega)
     have q210:3<(l0.length:Int):=zad jab
     obtain⟨ad210,e210,hx210_0⟩:=zcd HR0.out 3 p210 q210
     cases e210
     (try simp only[show(3:Int).toNat=3 from rfl,Nat.reduceMul,Nat.reduceEqDiff,Go.Addr.add, ↓reduceIte] at hx210_0)
     have qi210:(3<l0.length)=True:=zas (by omega)
     (try rw[show((3:Int)).toNat=3 from rfl] at hx210_0)
     replace p210:=zas p210
     replace q210:=zas q210
     have p211:0≤(2:Int):=(by omega)
     have q211:2<(l0.length:Int):=zad jab
     obtain⟨ad211,e211,hx211_0⟩:=zcd HR0.out 2 p211 q211
     obtain rfl:ad210=ad211:=(by injection e211)
     (try simp only[show(2:Int).toNat=2 from rfl,Nat.reduceMul,Nat.reduceEqDiff,Go.Addr.add, ↓reduceIte] at hx211_0)
     have qi211:(2<l0.length)=True:=zas (by omega)
     (try rw[show((2:Int)).toNat=2 from rfl] at hx211_0)
     replace p211:=zas p211
     replace q211:=zas q211
     have p212:0≤(1:Int):=(by omega)
     have q212:1<(l0.length:Int):=zad jab
     obtain⟨ad212,e212,hx212_0⟩:=zcd HR0.out 1 p212 q212
     obtain rfl:ad210=ad212:=(by injection e212)
     (try simp only[show(1:Int).toNat=1 from rfl,Nat.reduceMul,Nat.reduceEqDiff,Go.Addr.add, ↓reduceIte] at hx212_0)
     have qi212:(1<l0.length)=True:=zas (by omega)
     (try rw[show((1:Int)).toNat=1 from rfl] at hx212_0)
     replace p212:=zas p212
     replace q212:=zas q212
     have p213:0≤(0:Int):=(by omega)
     have q213:0<(l0.length:Int):=zad jab
     obtain⟨ad213,e213,hx213_0⟩:=zcd HR0.out 0 p213 q213
     obtain rfl:ad210=ad213:=(by injection e213)
     have qi213:(0<l0.length)=True:=zas (by omega)
     (try rw[show((0:Int)).toNat=0 from rfl] at hx213_0)
     (try rw[zfm] at hx213_0)
     replace p213:=zas p213
     replace q213:=zas q213
     go_enter Try.func113,Try.ntmps113
     go_wp2
     repeat(go_quiet (fail);try go_wp2)
     go_ret
     exact⟨by first | rfl | (simp;done) | (simp [*];done),by repeat(first | exact Drawn0.refl _ | apply Drawn0.step)⟩
    rw[if_neg c11] at H
    exact absurd H (by simp)
   rw[if_neg c10] at H
   exact absurd H (by simp)
  rw[if_neg c9] at H
  exact absurd H (by simp)
 rw[if_neg c8] at H
 exact absurd H (by simp)
def impl_Words.l0:Nat→List Int→Bool→List Int→Int→Option (List Int)
 | 0,_,_,_,_=>none
 | k+1,x0,x1,x5,x6=>if(wrap64 (x6+4))≤(x0.length:Int) then(if 0≤x6 then(if x6≤(wrap64 (x6+4)) then((impl_wordOf.f ((x0.take ((wrap64 (x6+4)):Int).toNat).drop (x6:Int).toNat) x1).bind fun t218=>(if x5.length<17592186044416 then(impl_Words.l0 k x0 x1 (x5++[t218]) (wrap64 (x6+4))) else(none))) else(none)) else(none)) else(some x5)
def impl_Words.f (k:Nat) (l0:List Int) (a1:Bool):Option (List Int):=impl_Words.l0 k l0 a1 (([]:List Int)) 0
theorem impl_Words.mono_l:∀ k,(∀ y0 y1 y2 y3,LeO (impl_Words.l0 k y0 y1 y2 y3) (impl_Words.l0 (k+1) y0 y1 y2 y3))
 | 0=>fun _ _ _ _ r h=>by simp [impl_Words.l0] at h
 | k+1=>by
  have ih0:=impl_Words.mono_l k
  intro y0 y1 y2 y3
  unfold impl_Words.l0
  exact mt
theorem impl_Words.mono:∀ a0 a1 k,LeO (impl_Words.f k a0 a1) (impl_Words.f (k+1) a0 a1):=by
 intro a0 a1 k
 have ih0:=impl_Words.mono_l k
 unfold impl_Words.f
 exact mt
theorem impl_Words.calls (k:Nat) (A0:Option Addr) (c0:Nat) (l0:List Int) (a1:Bool) (r:List Int) (w:World) (hr0:Kd.C (Kd.int .u8) w A0 l0.length l0) (hc0:l0.length≤c0) (h:impl_Words.f k l0 a1=some r):
  Calls Try.prog 102 #[.slice A0 l0.length c0, .bool a1] w fun e w'=>∃ v0_:Value,e= .returned (v0_)∧Kd.R (Kd.int .i64) 3 w' w.heap.size (fun _=>True) v0_ r∧Below w.heap.size w w':=by
 have HR0:=Aside0.mk hr0
 have HC0:=Aside0.mk hc0
 clear hr0 hc0
 have HB:=Aside0.mk (zbk w.heap.size w)
 have H:(impl_Words.l0 k l0 a1 (([]:List Int)) 0)=some r:=h
 clear h
 obtain⟨y214,hy214⟩:∃ y_:List Int,y_=(([]:List Int)):=⟨_,rfl⟩
 replace H:(impl_Words.l0 k l0 a1 y214 0)=some r:=jrw hy214 H
 have Ny214:=Aside0.mk hy214
 clear hy214
 have H':=Aside0.mk H
 clear H
 go_enter Try.func102,Try.ntmps102
 go_wp2_with (first | (refine jgd 7 ?_;refine jlt 7 (Kd.int .i64) 3 ?_;intro v215 w3 ho4 hb;have xb_:=below_ofs bq hb;(first | rw[← Ny214.out] at ho4 | (simp only[Int.reduceToNat] at ho4;rw[← Ny214.out] at ho4));have n_:=jA2 (zaq ho4 (zah xb_)) (zal xb_ hb);clear HB;obtain⟨HO216,HB⟩:=n_;clear xb_ hb ho4))
 go_loopg [5,6] k (fun kq v5 v6 w'=>∃ (x5_1:List Int) (x6_1:Int),v6= .int .i64 x6_1∧Aside0 (impl_Words.l0 kq l0 a1 x5_1 x6_1=some r)∧Aside0 (kq≤k)∧Aside0 (Kd.R (Kd.int .i64) 3 w' w.heap.size (fun _=>True) v5 x5_1)∧Aside0 (Below w.heap.size w w'))
 case atStart=>exact⟨(y214),(0),jer,H',⟨zav _⟩,⟨pR HO216.out⟩,⟨bq⟩⟩
 case round=>
  clear H'
  try clear c1
  try clear p2
  obtain⟨x5_1,x6_1,rfl,HA,HK1,HO_5,HB⟩:=hrel
  cases gk with
  | zero=>exact absurd HA.out (by simp [impl_Words.l0])
  | succ k1=>
   have H:=HA.out
   clear HA
   simp only[impl_Words.l0] at H
   by_cases c5:(wrap64 (x6_1+4))≤(l0.length:Int)
   ·rw[if_pos c5] at H
    have c5b0:=zab c5
    clear c5
    by_cases c6:0≤x6_1
    ·rw[if_pos c6] at H
     have c6b0:=zas c6
     have c6b1:=zab c6
     clear c6
     by_cases c7:x6_1≤(wrap64 (x6_1+4))
     ·rw[if_pos c7] at H
      have c7b0:=zas c7
      have c7b1:=zab c7
      have c8b0:=zas (zad jab:(wrap64 (x6_1+4))≤(l0.length:Int))
      obtain⟨t218,A9,H⟩:=bnd H
      by_cases c10:x5_1.length<17592186044416
      ·rw[if_pos c10] at H
       have LMc10:=Aside0.mk c10
       clear c10
       obtain⟨y219,hy219⟩:∃ y_:List Int,y_=(x5_1++[t218]):=⟨_,rfl⟩
       replace H:(impl_Words.l0 k1 l0 a1 y219 (wrap64 (x6_1+4)))=some r:=jrw hy219 H
       have Ny219:=Aside0.mk hy219
       clear hy219
       have H':=Aside0.mk H
       clear H
       obtain⟨i011,hi011,_,hsz11,_⟩:=info_parts info5
       obtain⟨A11,hcut11,hA11,hC11⟩:=print_mid_of (P:=Try.prog) (Value.int .u8) 0 23 5 .i64 .i64 Try.underlying23 hi011 hsz11 A0 c0 l0 x6_1 (wrap64 (x6_1+4)) (zad jab) (by first | omega | exact zad jab) (zad jab) HC0.out
       have HR217:=Aside0.mk (Kd.C_of_reads (h1:=fun _=>rfl) (hA11 _ (Kd.reads_of_C HR0.out)))
       have HC217:=Aside0.mk hC11
       clear hA11 hC11 hi011 hsz11
       go_wp2_with (first | (refine jgc 113 ?_;refine goesL_ (some 22) rfl rfl Try.func113 (by kernel_rfl) rfl #[.slice A11 ((l0.take ((wrap64 (x6_1+4)):Int).toNat).drop (x6_1:Int).toNat).length (c0 - x6_1.toNat), .bool a1] rfl (by(try simp only[zgr,List.map_cons,List.map_nil]);first | done | (rw[show((l0.take ((wrap64 (x6_1+4)):Int).toNat).drop (x6_1:Int).toNat).length=((wrap64 (x6_1+4)).toNat - x6_1.toNat) from(by rw[zdb,zdc];have h_:((wrap64 (x6_1+4)):Int)≤(l0.length:Int):=zad jab;omega)] <;> rfl) | rfl | (simp only[zdb,zdc];rfl)) ?_;(with_reducible refine(impl_wordOf.calls _ _ ((l0.take ((wrap64 (x6_1+4)):Int).toNat).drop (x6_1:Int).toNat) a1 t218 _ ?side1 ?side2 A9.out).mono ?_);(case side1=>exact jcs HR217.out);(case side2=>exact HC217.out);rintro e w' ⟨rfl,⟨nd,rfl⟩⟩;refine⟨_,rfl,?_⟩) | ((with_reducible refine zde (b:= .append) (xs:= #[.tmp 15, .tmp 23]) rfl ?_);at_builtin;refine zfr (Kd.int .i64) (w0:=w) w.heap.size rfl (.tmp 15) (.tmp 23) 22 3 (.int .i64 0) 8 rfl Try.underlying22 info3 rfl (by decide) (by omega) u5 x5_1 t218 [.int .i64 t218] (fun _=>True) (fun _=>False) rfl rfl ?aP (fun _ hk=>hk.elim) ?aF ?aO ?aB ?aS ?aL ?_;(case aP=>exact rfl);(case aB=>exact bq);(case aF=>exact(fun _ _=>trivial));(case aO=>exact(pR HO_5.out));(case aS=>exact(zah bq));(case aL=>have:=LMc10.out;omega);intro v220 w12 ho hb hg hat;rw[← Ny219.out] at ho;have n_:=jA2 (hb) (ho);clear HB HO_5;obtain⟨HB,HO221⟩:=n_;clear ho hb hg hat))
       go_roundg k1
       case measure=>have:=HK1.out;omega
       case rel=>exact⟨(y219),(wrap64 (x6_1+4)),jer,H',⟨by have:=HK1.out;omega⟩,⟨pR HO221.out⟩,⟨bq⟩⟩
      rw[if_neg c10] at H
      exact absurd H (by simp)
     rw[if_neg c7] at H
     exact absurd H (by simp)
    rw[if_neg c6] at H
    exact absurd H (by simp)
   rw[if_neg c5] at H
   have c5b0:=zbj c5
   clear c5
   obtain rfl:=Option.some.inj H
   go_wp2
   go_ret
   exact⟨_,jex,by(with_reducible repeat(first | apply zat | apply zau | apply zar));exact HO_5.out,bq⟩
end Go.Proofs.Ytienlgcjohpphaa.P
