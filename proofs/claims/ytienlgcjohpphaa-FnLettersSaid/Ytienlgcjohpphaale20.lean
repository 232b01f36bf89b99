import Derived.Test.Ytienlgcjohpphaale19
namespace Go.Proofs.Ytienlgcjohpphaa.P
open Go.RowKit Go.Proofs.YtienlgcjohpphaaW.PrintWords Go.Proofs.YtienlgcjohpphaaW.PrintLast Go.Proofs.YtienlgcjohpphaaW.PrintMore
attribute [local go_sem] zcn zco zdk zdl zce zcf zcp zcq -- for this text's walks alone
set_option linter.unusedVariables false
set_option linter.unusedSimpArgs false

mutual
def impl_HashBlock.j0:Nat→List Int→List Int→Bool→Option (List Int)
 | 0,_,_,_=>none
 | k+1,x0,x1,x27=>if x27=true then(some ([]:List Int)) else(impl_HashBlock.l0 k x0 x1 (([]:List Int)) x0 (x0.length:Int) 0)
def impl_HashBlock.l0:Nat→List Int→List Int→List Int→List Int→Int→Int→Option (List Int)
 | 0,_,_,_,_,_,_=>none
 | k+1,x0,x1,x5,x29,x30,x31=>if x31<x30 then(if 0≤x31 then(if x31<(x29.length:Int) then((impl_Word.f (rd x29 x31)).bind fun t239=>(if x5.length<17592186044416 then(impl_HashBlock.l0 k x0 x1 (x5++[t239]) x29 x30 (wrap64 (x31+1))) else(none))) else(none)) else(none)) else((impl_rounds.f).bind fun t243=>((impl_schedule.f k x1).bind fun t246=>(impl_HashBlock.l1 k x0 x5 t243 t246 (t246.length:Int) 0)))
def impl_HashBlock.l1:Nat→List Int→List Int→List Int→List Int→Int→Int→Option (List Int)
 | 0,_,_,_,_,_,_=>none
 | k+1,x0,x5,x8,x43,x44,x45=>if x45<x44 then(if 0≤x45 then(if x45<(x43.length:Int) then(if 0<(x5.length:Int) then(if 4<(x5.length:Int) then(if 5<(x5.length:Int) then(if 6<(x5.length:Int) then(if 1<(x5.length:Int) then(if 2<(x5.length:Int) then(if 7<(x5.length:Int) then((impl_mixed.f (rd x5 4) 6 11 25 false).bind fun t259=>(if x45<(x8.length:Int) then((impl_mixed.f (rd x5 0) 2 13 22 false).bind fun t261=>((impl_Word.f (wrap64 ((wrap64 ((wrap64 ((wrap64 ((wrap64 ((rd x5 7)+t259))+(Go.bits .or .i64 (Go.bits .and .i64 (rd x5 4) (rd x5 5)) (Go.bits .and .i64 (Go.bits .xor .i64 4294967295 (rd x5 4)) (rd x5 6)))))+(rd x8 x45)))+(rd x43 x45)))+(wrap64 (t261+(Go.bits .or .i64 (Go.bits .or .i64 (Go.bits .and .i64 (rd x5 0) (rd x5 1)) (Go.bits .and .i64 (rd x5 0) (rd x5 2))) (Go.bits .and .i64 (rd x5 1) (rd x5 2)))))))).bind fun t262=>(if 3<(x5.length:Int) then((impl_Word.f (wrap64 ((rd x5 3)+(wrap64 ((wrap64 ((wrap64 ((wrap64 ((rd x5 7)+t259))+(Go.bits .or .i64 (Go.bits .and .i64 (rd x5 4) (rd x5 5)) (Go.bits .and .i64 (Go.bits .xor .i64 4294967295 (rd x5 4)) (rd x5 6)))))+(rd x8 x45)))+(rd x43 x45)))))).bind fun t267=>(impl_HashBlock.l1 k x0 (([t262,rd x5 0,rd x5 1,rd x5 2,t267,rd x5 4,rd x5 5,rd x5 6]:List Int)) x8 x43 x44 (wrap64 (x45+1)))) else(none)))) else(none))) else(none)) else(none)) else(none)) else(none)) else(none)) else(none)) else(none)) else(none)) else(none)) else(impl_HashBlock.l2 k x0 (([]:List Int)) x5 (x5.length:Int) 0)
def impl_HashBlock.l2:Nat→List Int→List Int→List Int→Int→Int→Option (List Int)
 | 0,_,_,_,_,_=>none
 | k+1,x0,x17,x137,x138,x139=>if x139<x138 then(if 0≤x139 then(if x139<(x137.length:Int) then(if x139<(x0.length:Int) then((impl_Word.f (rd x0 x139)).bind fun t279=>((impl_Word.f (wrap64 ((rd x137 x139)+t279))).bind fun t280=>(if x17.length<17592186044416 then(impl_HashBlock.l2 k x0 (x17++[t280]) x137 x138 (wrap64 (x139+1))) else(none)))) else(none)) else(none)) else(none)) else(some x17)
end
def impl_HashBlock.f (k:Nat) (l0:List Int) (l1:List Int):Option (List Int):=if(l0.length:Int)=8 then(impl_HashBlock.j0 k l0 l1 ((l1.length:Int) != 64)) else(impl_HashBlock.j0 k l0 l1 true)
theorem impl_HashBlock.mono_l:∀ k,(∀ y0 y1 y2,LeO (impl_HashBlock.j0 k y0 y1 y2) (impl_HashBlock.j0 (k+1) y0 y1 y2))∧(∀ y0 y1 y2 y3 y4 y5,LeO (impl_HashBlock.l0 k y0 y1 y2 y3 y4 y5) (impl_HashBlock.l0 (k+1) y0 y1 y2 y3 y4 y5))∧(∀ y0 y1 y2 y3 y4 y5,LeO (impl_HashBlock.l1 k y0 y1 y2 y3 y4 y5) (impl_HashBlock.l1 (k+1) y0 y1 y2 y3 y4 y5))∧(∀ y0 y1 y2 y3 y4,LeO (impl_HashBlock.l2 k y0 y1 y2 y3 y4) (impl_HashBlock.l2 (k+1) y0 y1 y2 y3 y4))
 | 0=>⟨fun _ _ _ r h=>by simp [impl_HashBlock.j0] at h,fun _ _ _ _ _ _ r h=>by simp [impl_HashBlock.l0] at h,fun _ _ _ _ _ _ r h=>by simp [impl_HashBlock.l1] at h,fun _ _ _ _ _ r h=>by simp [impl_HashBlock.l2] at h⟩
 | k+1=>by
  obtain⟨ih0,ih1,ih2,ih3⟩:=impl_HashBlock.mono_l k
  refine⟨?_,?_,?_,?_⟩
  ·intro y0 y1 y2
   unfold impl_HashBlock.j0
   have m0:=@impl_schedule.mono
   exact mt
  ·intro y0 y1 y2 y3 y4 y5
   unfold impl_HashBlock.l0
   have m0:=@impl_schedule.mono
   exact mt
  ·intro y0 y1 y2 y3 y4 y5
   unfold impl_HashBlock.l1
   have m0:=@impl_schedule.mono
   exact mt
  intro y0 y1 y2 y3 y4
  unfold impl_HashBlock.l2
  have m0:=@impl_schedule.mono
  exact mt
theorem impl_HashBlock.mono:∀ a0 a1 k,LeO (impl_HashBlock.f k a0 a1) (impl_HashBlock.f (k+1) a0 a1):=by
 intro a0 a1 k
 obtain⟨ih0,ih1,ih2,ih3⟩:=impl_HashBlock.mono_l k
 unfold impl_HashBlock.f
 have m0:=@impl_schedule.mono
 exact mt
def impl_HashBlock.T13:Bool×List (List Nat×List Nat):=(true,[([],[]),([0],[0]),([1],[1]),([],[]),([3],[3]),([4],[4]),([2,0,1,2],[2]),([5,6,0,1,2,3,4,5,6],[5])])
def impl_HashBlock.B13:List Nat:=[0,1,3,0,8,24,7,127]
theorem impl_HashBlock.tab13:rtab .any (opsOf Try.f18 13)=impl_HashBlock.T13:=by kernel_rfl
theorem impl_HashBlock.bits13:waitsOk impl_HashBlock.T13.2 impl_HashBlock.B13=true:=by kernel_rfl
def impl_HashBlock.T14:Bool×List (List Nat×List Nat):=(true,[([],[]),([],[]),([1],[1]),([2],[2]),([0,3],[0,3]),([],[]),([5],[5]),([],[]),([7],[7]),([8],[8]),([6,9],[6,9]),([4,10],[4,10]),([11,0,1,2,3,4,5,6,7,8,9,10,11],[11])])
def impl_HashBlock.B14:List Nat:=[0,0,2,6,15,0,32,0,128,384,992,2047,4095]
theorem impl_HashBlock.tab14:rtab .any (opsOf Try.f18 14)=impl_HashBlock.T14:=by kernel_rfl
theorem impl_HashBlock.bits14:waitsOk impl_HashBlock.T14.2 impl_HashBlock.B14=true:=by kernel_rfl
def impl_HashBlock.T15:Bool×List (List Nat×List Nat):=(true,[([],[]),([],[]),([1],[1]),([2],[2]),([0,3],[0,3]),([],[]),([],[]),([6],[6]),([7],[7]),([5,8],[5,8]),([4,9],[4,9]),([],[]),([11],[11]),([12],[12]),([],[]),([14],[14]),([15],[15]),([13,16],[13,16]),([10,17],[10,17]),([18,0,1,2,3,4,5,6,7,8,9,10,11,12,13,14,15,16,17,18],[18])])
def impl_HashBlock.B15:List Nat:=[0,0,2,6,15,0,0,64,192,480,1023,0,2048,6144,0,16384,49152,129024,262143,524287]
theorem impl_HashBlock.tab15:rtab .any (opsOf Try.f18 15)=impl_HashBlock.T15:=by kernel_rfl
theorem impl_HashBlock.bits15:waitsOk impl_HashBlock.T15.2 impl_HashBlock.B15=true:=by kernel_rfl
def impl_HashBlock.T16:Bool×List (List Nat×List Nat):=(true,[([],[]),([0],[0]),([1],[1]),([],[]),([3],[3]),([2,4],[2,4]),([],[]),([5,6],[5,6]),([],[]),([],[]),([8,9],[8,9]),([10],[10]),([7,11],[7,11]),([],[]),([12,13],[12,13]),([14,4,0,1,2,3,4,5,6,7,8,9,10,11,12,13,14],[14])])
def impl_HashBlock.B16:List Nat:=[0,1,3,0,8,31,0,127,0,0,768,1792,4095,0,16383,32767]
theorem impl_HashBlock.tab16:rtab .any (opsOf Try.f18 16)=impl_HashBlock.T16:=by kernel_rfl
theorem impl_HashBlock.bits16:waitsOk impl_HashBlock.T16.2 impl_HashBlock.B16=true:=by kernel_rfl
def impl_HashBlock.T18:Bool×List (List Nat×List Nat):=(true,[([],[]),([],[]),([0,1],[0,1]),([2],[2]),([],[]),([4],[4]),([5],[5]),([],[]),([7],[7]),([8],[8]),([],[]),([10],[10]),([11],[11]),([],[]),([13],[13]),([14],[14]),([],[]),([15,16],[15,16]),([17,3],[17]),([],[]),([19],[19]),([20],[20]),([],[]),([22],[22]),([23],[23]),([],[]),([25],[25]),([26],[26]),([3,6,9,12,18,21,24,27],[3,6,9,12,18,21,24,27]),([28,18,0,1,2,3,4,5,6,7,8,9,10,11,12,13,14,15,16,17,18,19,20,21,22,23,24,25,26,27,28],[4,7,10,13,19,22,25,28])])
def impl_HashBlock.B18:List Nat:=[0,0,3,7,0,16,48,0,128,384,0,1024,3072,0,8192,24576,0,122880,253967,0,524288,1572864,0,4194304,12582912,0,33554432,100663296,268435455,536870911]
theorem impl_HashBlock.tab18:rtab .any (opsOf Try.f18 18)=impl_HashBlock.T18:=by kernel_rfl
theorem impl_HashBlock.bits18:waitsOk impl_HashBlock.T18.2 impl_HashBlock.B18=true:=by kernel_rfl
set_option maxHeartbeats 8000000 in
set_option maxRecDepth 100000 in
theorem impl_HashBlock.calls (k:Nat) (A0:Option Addr) (c0:Nat) (l0:List Int) (A1:Option Addr) (c1:Nat) (l1:List Int) (r:List Int) (w:World) (hr0:Kd.C (Kd.int .i64) w A0 l0.length l0) (hc0:l0.length≤c0) (hr1:Kd.C (Kd.int .u8) w A1 l1.length l1) (hc1:l1.length≤c1) (h:impl_HashBlock.f k l0 l1=some r):
  Calls Try.prog 18 #[.slice A0 l0.length c0, .slice A1 l1.length c1] w fun e w'=>∃ v0_:Value,e= .returned (v0_)∧Kd.R (Kd.int .i64) 3 w' w.heap.size (fun _=>True) v0_ r∧Below w.heap.size w w':=by
 have HR0:=Aside0.mk hr0
 have HC0:=Aside0.mk hc0
 clear hr0 hc0
 have HR1:=Aside0.mk hr1
 have HC1:=Aside0.mk hc1
 clear hr1 hc1
 have HB:=Aside0.mk (zbk w.heap.size w)
 have H:(if(l0.length:Int)=8 then(impl_HashBlock.j0 k l0 l1 ((l1.length:Int) != 64)) else(impl_HashBlock.j0 k l0 l1 true))=some r:=h
 clear h
 have HC3:=Aside0.mk H
 clear H
 go_enter Try.func18,Try.ntmps18
 go_upto_region 1 with (fail)
 go_cut [27] (fun v27 wc=>∃ (kq:Nat) (x27_2:Bool),v27= .bool x27_2∧Aside0 (impl_HashBlock.j0 kq l0 l1 x27_2=some r)∧Aside0 (kq≤k)∧Aside0 (Below w.heap.size w wc))
 case first=>
  have H:=HC3.out
  clear HC3
  by_cases c4:(l0.length:Int)=8
  ·rw[if_pos c4] at H
   have c4b0:=beqT c4
   have c4b1:=zdm.mpr c4
   clear c4
   (first | rw[c4b0] | (simp only[i64_w,i32_w];rw[c4b0]) | skip)
   have H':=Aside0.mk H
   clear H
   go_wp2
   go_meet
   case rel=>exact⟨_,(((l1.length:Int) != 64)),jer,H',⟨by first | omega | exact zav _⟩,⟨bq⟩⟩
  rw[if_neg c4] at H
  have c4b0:=zcl.mpr c4
  have c4b1:=zez.mpr c4
  (first | rw[c4b0] | (simp only[i64_w,i32_w];rw[c4b0]) | skip)
  have H':=Aside0.mk H
  clear H
  go_wp2
  go_meet
  case rel=>exact⟨_,(true),jer,H',⟨by first | omega | exact zav _⟩,⟨bq⟩⟩
 case rest=>
  clear HC3
  try clear c1
  try clear p2
  try clear c4
  try clear c4b0
  try clear c4b1
  obtain⟨kq,x27_2,rfl,HA,HJ2,HB⟩:=hcut
  cases kq with
  | zero=>exact absurd HA.out (by simp [impl_HashBlock.j0])
  | succ kj2=>
   have H:=HA.out
   clear HA
   simp only[impl_HashBlock.j0] at H
   by_cases c5:x27_2=true
   ·subst c5
    rw[if_pos rfl] at H
    obtain rfl:=Option.some.inj H
    go_wp2
    go_ret
    exact⟨_,jex,by first | exact Kd.R_nil _ _ _ _ _ | exact Kd.N_nil _ _ _ _ _ | exact Kd.V_nil _ _ _ _ _ | exact Kd.Q_nil _ _ _ _ _ | exact Kd.S_nil _ _ _ _ _,bq⟩
   replace c5:=zds.mpr c5
   subst c5
   rw[if_neg (show ¬(false=true) by decide)] at H
   obtain⟨y235,hy235⟩:∃ y_:List Int,y_=(([]:List Int)):=⟨_,rfl⟩
   replace H:(impl_HashBlock.l0 kj2 l0 l1 y235 l0 (l0.length:Int) 0)=some r:=jrw hy235 H
   have Ny235:=Aside0.mk hy235
   clear hy235
   have H':=Aside0.mk H
   clear H
   go_wp2_with (first | (refine jgd 28 ?_;(try(refine zdt (by rfl) ?_;dsimp only));refine jlt 28 (Kd.int .i64) 3 ?_;intro v236 w6 ho7 hb;have xb_:=below_ofs bq hb;(first | rw[← Ny235.out] at ho7 | (simp only[Int.reduceToNat] at ho7;rw[← Ny235.out] at ho7));have n_:=jA2 (zaq ho7 (zah xb_)) (zal xb_ hb);clear HB;obtain⟨HO237,HB⟩:=n_;clear xb_ hb ho7))
   go_loopg [5,31] kj2 (fun kq v5 v31 w'=>∃ (x5_2:List Int) (x31_2:Int),v31= .int .i64 x31_2∧Aside0 (impl_HashBlock.l0 kq l0 l1 x5_2 l0 (l0.length:Int) x31_2=some r)∧Aside0 (kq≤kj2)∧Aside0 (Kd.R (Kd.int .i64) 3 w' w.heap.size (fun _=>True) v5 x5_2)∧Aside0 (Below w.heap.size w w'))
   case atStart=>exact⟨(y235),(0),jer,H',⟨zav _⟩,⟨pR HO237.out⟩,⟨bq⟩⟩
   case round=>
    clear H'
    try clear c1
    try clear p2
    try clear c4
    try clear c4b0
    try clear c4b1
    try clear c5
    try clear p2
    obtain⟨x5_2,x31_2,rfl,HA,HK2,HO_5,HB⟩:=hrel
    cases gk with
    | zero=>exact absurd HA.out (by simp [impl_HashBlock.l0])
    | succ k2=>
     have H:=HA.out
     clear HA
     simp only[impl_HashBlock.l0] at H
     by_cases c8:x31_2<(l0.length:Int)
     ·rw[if_pos c8] at H
      have c8b0:=zab c8
      clear c8
      by_cases c9:0≤x31_2
      ·rw[if_pos c9] at H
       have c9b0:=zab c9
       clear c9
       by_cases c10:x31_2<(l0.length:Int)
       ·rw[if_pos c10] at H
        have c10b0:=zab c10
        clear c10
        obtain⟨t239,A11,H⟩:=bnd H
        by_cases c12:x5_2.length<17592186044416
        ·rw[if_pos c12] at H
         have LMc12:=Aside0.mk c12
         clear c12
         obtain⟨y240,hy240⟩:∃ y_:List Int,y_=(x5_2++[t239]):=⟨_,rfl⟩
         replace H:(impl_HashBlock.l0 k2 l0 l1 y240 l0 (l0.length:Int) (wrap64 (x31_2+1)))=some r:=jrw hy240 H
         have Ny240:=Aside0.mk hy240
         clear hy240
         have H':=Aside0.mk H
         clear H
         have p238:0≤(x31_2:Int):=zad jab
         have q238:x31_2<(l0.length:Int):=zad jab
         obtain⟨ad238,e238,hx238_0⟩:=zcd HR0.out x31_2 p238 q238
         cases e238
         replace hx238_0:=jcB HB.out hx238_0
         replace p238:=zas p238
         replace q238:=zas q238
         go_wp2_with (first | (refine jgc 71 ?_;refine jgs 37 Try.func71 #[.int .i64 (rd l0 x31_2)] ?_;(with_reducible refine(impl_Word.calls (rd l0 x31_2) t239 _ A11.out).mono ?_);rintro e w' ⟨rfl,⟨nd,rfl⟩⟩;refine⟨_,rfl,?_⟩) | ((with_reducible refine zde (b:= .append) (xs:= #[.tmp 35, .tmp 38]) rfl ?_);(try(refine zdt (by rfl) ?_;dsimp only));at_builtin;refine zfr (Kd.int .i64) (w0:=w) w.heap.size rfl (.tmp 35) (.tmp 38) 22 3 (.int .i64 0) 8 rfl Try.underlying22 info3 rfl (by decide) (by omega) u5 x5_2 t239 [.int .i64 t239] (fun _=>True) (fun _=>False) rfl rfl ?aP (fun _ hk=>hk.elim) ?aF ?aO ?aB ?aS ?aL ?_;(case aP=>exact rfl);(case aB=>exact bq);(case aF=>exact(fun _ _=>trivial));(case aO=>exact(pR HO_5.out));(case aS=>exact(zah bq));(case aL=>have:=LMc12.out;omega);intro v241 w13 ho hb hg hat;rw[← Ny240.out] at ho;have n_:=jA2 (hb) (ho);clear HB HO_5;obtain⟨HB,HO242⟩:=n_;clear ho hb hg hat))
         go_roundg k2
         case measure=>have:=HJ2.out;have:=HK2.out;omega
         case rel=>exact⟨(y240),(wrap64 (x31_2+1)),jer,H',⟨by have:=HJ2.out;have:=HK2.out;omega⟩,⟨pR HO242.out⟩,⟨bq⟩⟩
        rw[if_neg c12] at H
        exact absurd H (by simp)
       rw[if_neg c10] at H
       exact absurd H (by simp)
      rw[if_neg c9] at H
      exact absurd H (by simp)
     rw[if_neg c8] at H
     have c8b0:=zbj c8
     clear c8
     obtain⟨t243,A14,H⟩:=bnd H
     obtain⟨t246,A15,H⟩:=bnd H
     have H':=Aside0.mk H
     clear H
     go_wp2_with (first | (refine jgc 72 ?_;refine jgs 41 Try.func72 #[] ?_;(with_reducible refine(impl_rounds.calls t243 _ A14.out).mono ?_);rintro e w16 ⟨v244,rfl,ho0,hb⟩;refine⟨_,rfl,?_⟩;have xb_:=below_ofs bq hb;have qHO_5:=Kd.R_ofs (pR HO_5.out) hb;have n_:=jA3 (zbp qHO_5 (zba ho0) hb) (zaq (zby ho0 (zca qHO_5)) (zah xb_)) (zal xb_ hb);clear qHO_5 HO_5 HB;obtain⟨HO_5,HO245,HB⟩:=n_;clear xb_ hb ho0) | (refine jgc 73 ?_;refine jgs 43 Try.func73 #[.slice A1 l1.length c1] ?_;(with_reducible refine(impl_schedule.calls k2 _ _ l1 t246 _ ?side1 ?side2 A15.out).mono ?_);(case side1=>exact jcs HR1.out);(case side2=>exact HC1.out);rintro e w17 ⟨v247,rfl,ho0,hb⟩;refine⟨_,rfl,?_⟩;have xb_:=below_ofs bq hb;have qHO_5:=Kd.R_ofs (pR HO_5.out) hb;have n0_:=Aside0.mk (zbp qHO_5 (zba ho0) hb);have qHO245:=Kd.R_ofs (pR HO245.out) hb;have n1_:=Aside0.mk (zbp qHO245 (zba ho0) hb);have n2_:=Aside0.mk (zaq (zby (zby ho0 (zca qHO_5)) (zca qHO245)) (zah xb_));have n3_:=Aside0.mk (zal xb_ hb);clear qHO245 HO_5;clear qHO_5 HO245;clear HB;have HO_5:=n0_;have HO245:=n1_;have HO248:=n2_;have HB:=n3_;clear n0_ n1_ n2_ n3_;clear xb_ hb ho0;obtain⟨Ao18,co18,eo18⟩:=zbb HO248.out;subst eo18))
     go_loopg [5,45] k2 (fun kq v5 v45 w'=>∃ (x5_3:List Int) (x45_3:Int),v45= .int .i64 x45_3∧Aside0 (impl_HashBlock.l1 kq l0 x5_3 t243 t246 (t246.length:Int) x45_3=some r)∧Aside0 (kq≤k2)∧Aside0 (Kd.R (Kd.int .i64) 3 w' w.heap.size (fun k_=>some k_≠(v244:Value).ownBlock∧some k_≠((.slice Ao18 t246.length co18):Value).ownBlock) v5 x5_3)∧Aside0 (Kd.R (Kd.int .i64) 3 w' w.heap.size (fun k_=>some k_≠(v5:Value).ownBlock∧some k_≠((.slice Ao18 t246.length co18):Value).ownBlock) v244 t243)∧Aside0 (Kd.R (Kd.int .i64) 3 w' w.heap.size (fun k_=>some k_≠(v5:Value).ownBlock∧some k_≠(v244:Value).ownBlock) (.slice Ao18 t246.length co18) t246)∧Aside0 (Below w.heap.size w w'))
     case atStart=>exact⟨(x5_2),(0),jer,H',⟨zav _⟩,⟨by(with_reducible repeat(first | apply zat | apply zau | apply zar));exact zao HO_5.out (fun _ hk=>⟨(by first | exact hk.1.2 | (revert hk;(try simp only[zgf]);intros;assumption)),(by first | exact hk.2 | (revert hk;(try simp only[zgf]);intros;assumption))⟩)⟩,⟨by(with_reducible repeat(first | apply zat | apply zau | apply zar));exact zao HO245.out (fun _ hk=>⟨(by first | exact hk.1.2 | (revert hk;(try simp only[zgf]);intros;assumption)),(by first | exact hk.2 | (revert hk;(try simp only[zgf]);intros;assumption))⟩)⟩,⟨by(with_reducible repeat(first | apply zat | apply zau | apply zar));exact zao HO248.out (fun _ hk=>⟨(by first | exact hk.1.2 | (revert hk;(try simp only[zgf]);intros;assumption)),(by first | exact hk.2 | (revert hk;(try simp only[zgf]);intros;assumption))⟩)⟩,⟨bq⟩⟩
     case round=>
      clear H'
      try clear c1
      try clear p2
      try clear q2
      try clear hx2
      try clear c4
      try clear c4b0
      try clear c4b1
      try clear c5
      try clear p6
      try clear c7
      try clear c8
      try clear c8b0
      try clear c9
      try clear c9b0
      try clear c10
      try clear c10b0
      try clear c12
      try clear c18
      try clear hx238_0
      try clear p2
      try clear p238
      try clear q238
      obtain⟨x5_3,x45_3,rfl,HA,HK3,HO_5,HO_8,HO_43,HB⟩:=hrel
      cases gk with
      | zero=>exact absurd HA.out (by simp [impl_HashBlock.l1])
      | succ k3=>
       have H:=HA.out
       clear HA
       simp only[impl_HashBlock.l1] at H
       by_cases c19:x45_3<(t246.length:Int)
       ·rw[if_pos c19] at H
        have c19b0:=zab c19
        clear c19
        by_cases c20:0≤x45_3
        ·rw[if_pos c20] at H
         have c20b0:=zab c20
         clear c20
         by_cases c21:x45_3<(t246.length:Int)
         ·rw[if_pos c21] at H
          have c21b0:=zab c21
          clear c21
          by_cases c22:0<(x5_3.length:Int)
          ·rw[if_pos c22] at H
           have c22b0:=zab c22
           have c22b1:decide (0<x5_3.length)=true:=zab (by omega)
           clear c22
           by_cases c23:4<(x5_3.length:Int)
           ·rw[if_pos c23] at H
            have c23b0:=zab c23
            have c23b1:decide (4<x5_3.length)=true:=zab (by omega)
            clear c23
            by_cases c24:5<(x5_3.length:Int)
            ·rw[if_pos c24] at H
             have c24b0:=zab c24
             have c24b1:decide (5<x5_3.length)=true:=zab (by omega)
             clear c24
             by_cases c25:6<(x5_3.length:Int)
             ·rw[if_pos c25] at H
              have c25b0:=zab c25
              have c25b1:decide (6<x5_3.length)=true:=zab (by omega)
              clear c25
              by_cases c26:1<(x5_3.length:Int)
              ·rw[if_pos c26] at H
               have c26b0:=zab c26
               have c26b1:decide (1<x5_3.length)=true:=zab (by omega)
               clear c26
               by_cases c27:2<(x5_3.length:Int)
               ·rw[if_pos c27] at H
                have c27b0:=zab c27
                have c27b1:decide (2<x5_3.length)=true:=zab (by omega)
                clear c27
                by_cases c28:7<(x5_3.length:Int)
                ·rw[if_pos c28] at H
                 have c28b0:=zab c28
                 have c28b1:decide (7<x5_3.length)=true:=zab (by omega)
                 clear c28
                 obtain⟨t259,A29,H⟩:=bnd H
                 by_cases c30:x45_3<(t243.length:Int)
                 ·rw[if_pos c30] at H
                  have c30b0:=zab c30
                  clear c30
                  obtain⟨t261,A31,H⟩:=bnd H
                  obtain⟨t262,A32,H⟩:=bnd H
                  by_cases c33:3<(x5_3.length:Int)
                  ·rw[if_pos c33] at H
                   have c33b0:=zab c33
                   have c33b1:decide (3<x5_3.length)=true:=zab (by omega)
                   clear c33
                   obtain⟨t267,A34,H⟩:=bnd H
                   obtain⟨y271,hy271⟩:∃ y_:List Int,y_=(([t262,rd x5_3 0,rd x5_3 1,rd x5_3 2,t267,rd x5_3 4,rd x5_3 5,rd x5_3 6]:List Int)):=⟨_,rfl⟩
                   replace H:(impl_HashBlock.l1 k3 l0 y271 t243 t246 (t246.length:Int) (wrap64 (x45_3+1)))=some r:=jrw hy271 H
                   have Ny271:=Aside0.mk hy271
                   clear hy271
                   have H':=Aside0.mk H
                   clear H
                   have p249:0≤(x45_3:Int):=zad jab
                   have q249:x45_3<(t246.length:Int):=zad jab
                   obtain⟨ad249,e249,hx249_0⟩:=zcd (zam HO_43.out).2.2 x45_3 p249 q249
                   cases e249
                   replace p249:=zas p249
                   replace q249:=zas q249
                   try go_wp2
                   have n_:=jA4 (zar HO_5.out) (zar HO_8.out) (zar HO_43.out) (zay HB.out)
                   clear HO_5 HO_8 HO_43 HB
                   obtain⟨HO_5,HO_8,HO_43,HB⟩:=n_
                   obtain⟨Ao36,co36,eo36⟩:=zbb HO_5.out
                   (first | subst eo36 | (injection eo36 with f1_ f2_ f3_;have f4_:=f1_.symm;have f5_:=f3_.symm;clear f1_ f2_ f3_;subst f4_;subst f5_))
                   have p250:0≤(0:Int):=(by omega)
                   have q250:0<(x5_3.length:Int):=zad jab
                   obtain⟨ad250,e250,hx250_0⟩:=zcd (zam HO_5.out).2.2 0 p250 q250
                   cases e250
                   have qi250:(0<x5_3.length)=True:=zas (by omega)
                   (try rw[show((0:Int)).toNat=0 from rfl] at hx250_0)
                   (try rw[zfm] at hx250_0)
                   replace p250:=zas p250
                   replace q250:=zas q250
                   have p251:0≤(4:Int):=(by omega)
                   have q251:4<(x5_3.length:Int):=zad jab
                   obtain⟨ad251,e251,hx251_0⟩:=zcd (zam HO_5.out).2.2 4 p251 q251
                   obtain rfl:ad250=ad251:=(by injection e251)
                   (try simp only[show(4:Int).toNat=4 from rfl,Nat.reduceMul,Nat.reduceEqDiff,Go.Addr.add, ↓reduceIte] at hx251_0)
                   have qi251:(4<x5_3.length)=True:=zas (by omega)
                   (try rw[show((4:Int)).toNat=4 from rfl] at hx251_0)
                   replace p251:=zas p251
                   replace q251:=zas q251
                   refine start_ (n:=8) (S:=fun w'=>w'.cell? ad250=some (.int .i64 (rd x5_3 0))∧w'.cell? ⟨ad250.block,ad250.off+4,none⟩=some (.int .i64 (rd x5_3 4))) (ds:=[]) #[false,false,false,false,false,false,false,false] (by kernel_rfl) rfl rfl ⟨hx250_0,hx251_0⟩ (fun hHeld=>?_);refine zgh impl_HashBlock.tab13 impl_HashBlock.bits13 (fun HT_ HW_=>?_)
                   generalize wr.drew=w35 at HO_5 HO_8 HO_43 HB hx250_0 hx251_0 hHeld ⊢
                   refine pu 0 50 HT_.out ?_
                   refine pu 1 51 HT_.out ?_
                   refine pu 3 53 HT_.out ?_
                   refine pu 4 54 HT_.out ?_
                   refine tk 2 52 HT_.out HW_.out hHeld ?_
                   refine pu 6 11 HT_.out ?_
                   refine tk 5 55 HT_.out HW_.out hHeld ?_
                   refine pu 7 12 HT_.out ?_
                   refine done_ (done_of HT_.out (by kernel_rfl)) ?_
                   try go_wp2
                   have n_:=jA4 (zar HO_5.out) (zar HO_8.out) (zar HO_43.out) (zay HB.out)
                   clear HO_5 HO_8 HO_43 HB
                   obtain⟨HO_5,HO_8,HO_43,HB⟩:=n_
                   have p252:0≤(5:Int):=(by omega)
                   have q252:5<(x5_3.length:Int):=zad jab
                   obtain⟨ad252,e252,hx252_0⟩:=zcd (zam HO_5.out).2.2 5 p252 q252
                   obtain rfl:ad250=ad252:=(by injection e252)
                   (try simp only[show(5:Int).toNat=5 from rfl,Nat.reduceMul,Nat.reduceEqDiff,Go.Addr.add, ↓reduceIte] at hx252_0)
                   have qi252:(5<x5_3.length)=True:=zas (by omega)
                   (try rw[show((5:Int)).toNat=5 from rfl] at hx252_0)
                   replace p252:=zas p252
                   replace q252:=zas q252
                   have p253:0≤(6:Int):=(by omega)
                   have q253:6<(x5_3.length:Int):=zad jab
                   obtain⟨ad253,e253,hx253_0⟩:=zcd (zam HO_5.out).2.2 6 p253 q253
                   obtain rfl:ad250=ad253:=(by injection e253)
                   (try simp only[show(6:Int).toNat=6 from rfl,Nat.reduceMul,Nat.reduceEqDiff,Go.Addr.add, ↓reduceIte] at hx253_0)
                   have qi253:(6<x5_3.length)=True:=zas (by omega)
                   (try rw[show((6:Int)).toNat=6 from rfl] at hx253_0)
                   replace p253:=zas p253
                   replace q253:=zas q253
                   refine start_ (n:=13) (S:=fun w'=>w'.cell? ⟨ad250.block,ad250.off+5,none⟩=some (.int .i64 (rd x5_3 5))∧w'.cell? ⟨ad250.block,ad250.off+6,none⟩=some (.int .i64 (rd x5_3 6))) (ds:=[]) #[false,false,false,false,false,false,false,false,false,false,false,false,false] (by kernel_rfl) rfl rfl ⟨hx252_0,hx253_0⟩ (fun hHeld=>?_);refine zgh impl_HashBlock.tab14 impl_HashBlock.bits14 (fun HT_ HW_=>?_)
                   generalize w35.drew=w37 at HO_5 HO_8 HO_43 HB hx252_0 hx253_0 hHeld ⊢
                   refine pu 0 56 HT_.out ?_
                   refine pu 1 57 HT_.out ?_
                   refine pu 2 58 HT_.out ?_
                   refine pu 5 61 HT_.out ?_
                   refine pu 6 62 HT_.out ?_
                   refine pu 7 63 HT_.out ?_
                   refine pu 8 64 HT_.out ?_
                   refine tk 3 59 HT_.out HW_.out hHeld ?_
                   refine pu 4 60 HT_.out ?_
                   refine tk 9 65 HT_.out HW_.out hHeld ?_
                   refine pu 10 66 HT_.out ?_
                   refine pu 11 67 HT_.out ?_
                   refine pu 12 13 HT_.out ?_
                   refine done_ (done_of HT_.out (by kernel_rfl)) ?_
                   try go_wp2
                   have n_:=jA4 (zar HO_5.out) (zar HO_8.out) (zar HO_43.out) (zay HB.out)
                   clear HO_5 HO_8 HO_43 HB
                   obtain⟨HO_5,HO_8,HO_43,HB⟩:=n_
                   have p254:0≤(1:Int):=(by omega)
                   have q254:1<(x5_3.length:Int):=zad jab
                   obtain⟨ad254,e254,hx254_0⟩:=zcd (zam HO_5.out).2.2 1 p254 q254
                   obtain rfl:ad250=ad254:=(by injection e254)
                   (try simp only[show(1:Int).toNat=1 from rfl,Nat.reduceMul,Nat.reduceEqDiff,Go.Addr.add, ↓reduceIte] at hx254_0)
                   have qi254:(1<x5_3.length)=True:=zas (by omega)
                   (try rw[show((1:Int)).toNat=1 from rfl] at hx254_0)
                   replace p254:=zas p254
                   replace q254:=zas q254
                   have p255:0≤(2:Int):=(by omega)
                   have q255:2<(x5_3.length:Int):=zad jab
                   obtain⟨ad255,e255,hx255_0⟩:=zcd (zam HO_5.out).2.2 2 p255 q255
                   obtain rfl:ad250=ad255:=(by injection e255)
                   (try simp only[show(2:Int).toNat=2 from rfl,Nat.reduceMul,Nat.reduceEqDiff,Go.Addr.add, ↓reduceIte] at hx255_0)
                   have qi255:(2<x5_3.length)=True:=zas (by omega)
                   (try rw[show((2:Int)).toNat=2 from rfl] at hx255_0)
                   replace p255:=zas p255
                   replace q255:=zas q255
                   have p256:0≤(1:Int):=(by omega)
                   have q256:1<(x5_3.length:Int):=zad jab
                   obtain⟨ad256,e256,hx256_0⟩:=zcd (zam HO_5.out).2.2 1 p256 q256
                   obtain rfl:ad250=ad256:=(by injection e256)
                   (try simp only[show(1:Int).toNat=1 from rfl,Nat.reduceMul,Nat.reduceEqDiff,Go.Addr.add, ↓reduceIte] at hx256_0)
                   have qi256:(1<x5_3.length)=True:=zas (by omega)
                   (try rw[show((1:Int)).toNat=1 from rfl] at hx256_0)
                   replace p256:=zas p256
                   replace q256:=zas q256
                   have p257:0≤(2:Int):=(by omega)
                   have q257:2<(x5_3.length:Int):=zad jab
                   obtain⟨ad257,e257,hx257_0⟩:=zcd (zam HO_5.out).2.2 2 p257 q257
                   obtain rfl:ad250=ad257:=(by injection e257)
                   (try simp only[show(2:Int).toNat=2 from rfl,Nat.reduceMul,Nat.reduceEqDiff,Go.Addr.add, ↓reduceIte] at hx257_0)
                   have qi257:(2<x5_3.length)=True:=zas (by omega)
                   (try rw[show((2:Int)).toNat=2 from rfl] at hx257_0)
                   replace p257:=zas p257
                   replace q257:=zas q257
                   refine start_ (n:=20) (S:=fun w'=>w'.cell? ⟨ad250.block,ad250.off+1,none⟩=some (.int .i64 (rd x5_3 1))∧w'.cell? ⟨ad250.block,ad250.off+2,none⟩=some (.int .i64 (rd x5_3 2))∧w'.cell? ⟨ad250.block,ad250.off+1,none⟩=some (.int .i64 (rd x5_3 1))∧w'.cell? ⟨ad250.block,ad250.off+2,none⟩=some (.int .i64 (rd x5_3 2))) (ds:=[]) #[false,false,false,false,false,false,false,false,false,false,false,false,false,false,false,false,false,false,false,false] (by kernel_rfl) rfl rfl ⟨hx254_0,hx255_0,hx256_0,hx257_0⟩ (fun hHeld=>?_);refine zgh impl_HashBlock.tab15 impl_HashBlock.bits15 (fun HT_ HW_=>?_)
                   generalize w37.drew=w38 at HO_5 HO_8 HO_43 HB hx254_0 hx255_0 hx256_0 hx257_0 hHeld ⊢
                   refine pu 0 68 HT_.out ?_
                   refine pu 1 69 HT_.out ?_
                   refine pu 2 70 HT_.out ?_
                   refine pu 5 73 HT_.out ?_
                   refine pu 6 74 HT_.out ?_
                   refine pu 7 75 HT_.out ?_
                   refine pu 11 79 HT_.out ?_
                   refine pu 12 80 HT_.out ?_
                   refine pu 14 82 HT_.out ?_
                   refine pu 15 83 HT_.out ?_
                   refine tk 3 71 HT_.out HW_.out hHeld ?_
                   refine pu 4 72 HT_.out ?_
                   refine tk 8 76 HT_.out HW_.out hHeld ?_
                   refine pu 9 77 HT_.out ?_
                   refine pu 10 78 HT_.out ?_
                   refine tk 13 81 HT_.out HW_.out hHeld ?_
                   refine tk 16 84 HT_.out HW_.out hHeld ?_
                   refine pu 17 85 HT_.out ?_
                   refine pu 18 86 HT_.out ?_
                   refine pu 19 14 HT_.out ?_
                   refine done_ (done_of HT_.out (by kernel_rfl)) ?_
                   try go_wp2
                   have n_:=jA4 (zar HO_5.out) (zar HO_8.out) (zar HO_43.out) (zay HB.out)
                   clear HO_5 HO_8 HO_43 HB
                   obtain⟨HO_5,HO_8,HO_43,HB⟩:=n_
                   have p258:0≤(7:Int):=(by omega)
                   have q258:7<(x5_3.length:Int):=zad jab
                   obtain⟨ad258,e258,hx258_0⟩:=zcd (zam HO_5.out).2.2 7 p258 q258
                   obtain rfl:ad250=ad258:=(by injection e258)
                   (try simp only[show(7:Int).toNat=7 from rfl,Nat.reduceMul,Nat.reduceEqDiff,Go.Addr.add, ↓reduceIte] at hx258_0)
                   have qi258:(7<x5_3.length)=True:=zas (by omega)
                   (try rw[show((7:Int)).toNat=7 from rfl] at hx258_0)
                   replace p258:=zas p258
                   replace q258:=zas q258
                   obtain⟨Ao40,co40,eo40⟩:=zbb HO_8.out
                   (first | subst eo40 | (injection eo40 with f1_ f2_ f3_;have f4_:=f1_.symm;have f5_:=f3_.symm;clear f1_ f2_ f3_;subst f4_;subst f5_))
                   have p260:0≤(x45_3:Int):=zad jab
                   have q260:x45_3<(t243.length:Int):=zad jab
                   obtain⟨ad260,e260,hx260_0⟩:=zcd (zam HO_8.out).2.2 x45_3 p260 q260
                   cases e260
                   replace p260:=zas p260
                   replace q260:=zas q260
                   refine start_ (n:=16) (S:=fun w'=>w'.cell? ⟨ad250.block,ad250.off+7,none⟩=some (.int .i64 (rd x5_3 7))∧w'.cell? (ad260.add (x45_3).toNat)=some (.int .i64 (rd t243 x45_3))) (ds:=[]) #[false,false,false,false,false,false,false,false,false,false,false,false,false,false,false,false] (by kernel_rfl) rfl rfl ⟨hx258_0,hx260_0⟩ (fun hHeld=>?_);refine zgh impl_HashBlock.tab16 impl_HashBlock.bits16 (fun HT_ HW_=>?_)
                   generalize w38.drew=w39 at HO_5 HO_8 HO_43 HB hx258_0 hx260_0 hHeld ⊢
                   refine pu 0 87 HT_.out ?_
                   refine pu 1 88 HT_.out ?_
                   refine pu 3 90 HT_.out ?_
                   refine pu 6 93 HT_.out ?_
                   refine pu 8 95 HT_.out ?_
                   refine pu 9 96 HT_.out ?_
                   refine pu 10 97 HT_.out ?_
                   refine pu 13 100 HT_.out ?_
                   refine tk 2 89 HT_.out HW_.out hHeld ?_
                   refine tk 11 98 HT_.out HW_.out hHeld ?_
                   refine one_ (i:=4) (N:=some 91) #[true,true,true,true,true,false,true,false,true,true,true,true,false,true,false,false] rfl rfl (one_of HT_.out (by kernel_rfl)) (by decide) (fun K hK=>?_)
                   refine goes_ Try.func74 (by kernel_rfl) rfl #[.int .i64 (rd x5_3 4), .int .i64 6, .int .i64 11, .int .i64 25, .bool false] (by rfl) rfl rfl jhl ?_
                   with_reducible refine(impl_mixed.calls (rd x5_3 4) 6 11 25 false t259 _ A29.out).mono ?_
                   rintro e w' ⟨rfl,⟨nd,rfl⟩⟩
                   refine⟨_,rfl,?_⟩
                   refine hK.out _ _ ⟨hHeld.1,hHeld.2⟩ (fun hHeld=>?_)
                   clear hK K
                   refine norm_ (a':=?_) ?_ ?_
                   rotate_left
                   ·show Act.put _ (some 91) _=_
                    simp only[Act.put,zaa,zae,zaf,i64_w,i32_w]
                    rfl
                   refine pu 5 92 HT_.out ?_
                   refine pu 7 94 HT_.out ?_
                   refine pu 12 99 HT_.out ?_
                   refine pu 14 101 HT_.out ?_
                   refine pu 15 15 HT_.out ?_
                   refine done_ (done_of HT_.out (by kernel_rfl)) ?_
                   try go_wp2_with (first | (refine jgc 74 ?_;refine jgs 103 Try.func74 #[.int .i64 (rd x5_3 0), .int .i64 2, .int .i64 13, .int .i64 22, .bool false] ?_;(with_reducible refine(impl_mixed.calls (rd x5_3 0) 2 13 22 false t261 _ A31.out).mono ?_);rintro e w' ⟨rfl,⟨nd,rfl⟩⟩;refine⟨_,rfl,?_⟩))
                   (try(rw[drewN_self w39];generalize hq_:World.drewN w39 _=w39;have n0_:Aside0 (Kd.R (Kd.int .i64) 3 w39 w.heap.size (fun k_=>some k_≠(.slice (some ad250) x5_3.length co36:Value).ownBlock∧some k_≠(.slice (some ad260) t243.length co40:Value).ownBlock) (.slice (some ad249) t246.length co18) t246):=⟨by rw[← hq_];exact(pR HO_43.out)⟩;have n1_:Aside0 (Kd.R (Kd.int .i64) 3 w39 w.heap.size (fun k_=>some k_≠(.slice (some ad249) t246.length co18:Value).ownBlock∧some k_≠(.slice (some ad260) t243.length co40:Value).ownBlock) (.slice (some ad250) x5_3.length co36) x5_3):=⟨by rw[← hq_];exact(by(with_reducible repeat(first | apply zat | apply zau | apply zar));exact zao HO_5.out (fun _ hk=>⟨(by first | exact hk.2 | (revert hk;(try simp only[zgf]);intros;assumption)),(by first | exact hk.1 | (revert hk;(try simp only[zgf]);intros;assumption))⟩))⟩;have n2_:Aside0 (Kd.R (Kd.int .i64) 3 w39 w.heap.size (fun k_=>some k_≠(.slice (some ad249) t246.length co18:Value).ownBlock∧some k_≠(.slice (some ad250) x5_3.length co36:Value).ownBlock) (.slice (some ad260) t243.length co40) t243):=⟨by rw[← hq_];exact(by(with_reducible repeat(first | apply zat | apply zau | apply zar));exact zao HO_8.out (fun _ hk=>⟨(by first | exact hk.2 | (revert hk;(try simp only[zgf]);intros;assumption)),(by first | exact hk.1 | (revert hk;(try simp only[zgf]);intros;assumption))⟩))⟩;have n3_:Aside0 (Below w.heap.size w w39):=⟨by rw[← hq_];exact bq⟩;clear HO_43 HO_5 HO_8 HB hq_;have HO_43:=n0_;have HO_5:=n1_;have HO_8:=n2_;have HB:=n3_;clear n0_ n1_ n2_ n3_))
                   have n_:=jA4 (zar HO_5.out) (zar HO_8.out) (zar HO_43.out) (zay HB.out)
                   clear HO_5 HO_8 HO_43 HB
                   obtain⟨HO_5,HO_8,HO_43,HB⟩:=n_
                   have p263:0≤(0:Int):=(by omega)
                   have q263:0<(x5_3.length:Int):=zad jab
                   obtain⟨ad263,e263,hx263_0⟩:=zcd (zam HO_5.out).2.2 0 p263 q263
                   obtain rfl:ad250=ad263:=(by injection e263)
                   have qi263:(0<x5_3.length)=True:=zas (by omega)
                   (try rw[show((0:Int)).toNat=0 from rfl] at hx263_0)
                   (try rw[zfm] at hx263_0)
                   replace p263:=zas p263
                   replace q263:=zas q263
                   have p264:0≤(1:Int):=(by omega)
                   have q264:1<(x5_3.length:Int):=zad jab
                   obtain⟨ad264,e264,hx264_0⟩:=zcd (zam HO_5.out).2.2 1 p264 q264
                   obtain rfl:ad250=ad264:=(by injection e264)
                   (try simp only[show(1:Int).toNat=1 from rfl,Nat.reduceMul,Nat.reduceEqDiff,Go.Addr.add, ↓reduceIte] at hx264_0)
                   have qi264:(1<x5_3.length)=True:=zas (by omega)
                   (try rw[show((1:Int)).toNat=1 from rfl] at hx264_0)
                   replace p264:=zas p264
                   replace q264:=zas q264
                   have p265:0≤(2:Int):=(by omega)
                   have q265:2<(x5_3.length:Int):=zad jab
                   obtain⟨ad265,e265,hx265_0⟩:=zcd (zam HO_5.out).2.2 2 p265 q265
                   obtain rfl:ad250=ad265:=(by injection e265)
                   (try simp only[show(2:Int).toNat=2 from rfl,Nat.reduceMul,Nat.reduceEqDiff,Go.Addr.add, ↓reduceIte] at hx265_0)
                   have qi265:(2<x5_3.length)=True:=zas (by omega)
                   (try rw[show((2:Int)).toNat=2 from rfl] at hx265_0)
                   replace p265:=zas p265
                   replace q265:=zas q265
                   have p266:0≤(3:Int):=(by omega)
                   have q266:3<(x5_3.length:Int):=zad jab
                   obtain⟨ad266,e266,hx266_0⟩:=zcd (zam HO_5.out).2.2 3 p266 q266
                   obtain rfl:ad250=ad266:=(by injection e266)
                   (try simp only[show(3:Int).toNat=3 from rfl,Nat.reduceMul,Nat.reduceEqDiff,Go.Addr.add, ↓reduceIte] at hx266_0)
                   have qi266:(3<x5_3.length)=True:=zas (by omega)
                   (try rw[show((3:Int)).toNat=3 from rfl] at hx266_0)
                   replace p266:=zas p266
                   replace q266:=zas q266
                   have p268:0≤(4:Int):=(by omega)
                   have q268:4<(x5_3.length:Int):=zad jab
                   obtain⟨ad268,e268,hx268_0⟩:=zcd (zam HO_5.out).2.2 4 p268 q268
                   obtain rfl:ad250=ad268:=(by injection e268)
                   (try simp only[show(4:Int).toNat=4 from rfl,Nat.reduceMul,Nat.reduceEqDiff,Go.Addr.add, ↓reduceIte] at hx268_0)
                   have qi268:(4<x5_3.length)=True:=zas (by omega)
                   (try rw[show((4:Int)).toNat=4 from rfl] at hx268_0)
                   replace p268:=zas p268
                   replace q268:=zas q268
                   have p269:0≤(5:Int):=(by omega)
                   have q269:5<(x5_3.length:Int):=zad jab
                   obtain⟨ad269,e269,hx269_0⟩:=zcd (zam HO_5.out).2.2 5 p269 q269
                   obtain rfl:ad250=ad269:=(by injection e269)
                   (try simp only[show(5:Int).toNat=5 from rfl,Nat.reduceMul,Nat.reduceEqDiff,Go.Addr.add, ↓reduceIte] at hx269_0)
                   have qi269:(5<x5_3.length)=True:=zas (by omega)
                   (try rw[show((5:Int)).toNat=5 from rfl] at hx269_0)
                   replace p269:=zas p269
                   replace q269:=zas q269
                   have p270:0≤(6:Int):=(by omega)
                   have q270:6<(x5_3.length:Int):=zad jab
                   obtain⟨ad270,e270,hx270_0⟩:=zcd (zam HO_5.out).2.2 6 p270 q270
                   obtain rfl:ad250=ad270:=(by injection e270)
                   (try simp only[show(6:Int).toNat=6 from rfl,Nat.reduceMul,Nat.reduceEqDiff,Go.Addr.add, ↓reduceIte] at hx270_0)
                   have qi270:(6<x5_3.length)=True:=zas (by omega)
                   (try rw[show((6:Int)).toNat=6 from rfl] at hx270_0)
                   replace p270:=zas p270
                   replace q270:=zas q270
                   refine start_ (n:=30) (S:=fun w'=>w'.cell? ad250=some (.int .i64 (rd x5_3 0))∧w'.cell? ⟨ad250.block,ad250.off+1,none⟩=some (.int .i64 (rd x5_3 1))∧w'.cell? ⟨ad250.block,ad250.off+2,none⟩=some (.int .i64 (rd x5_3 2))∧w'.cell? ⟨ad250.block,ad250.off+3,none⟩=some (.int .i64 (rd x5_3 3))∧w'.cell? ⟨ad250.block,ad250.off+4,none⟩=some (.int .i64 (rd x5_3 4))∧w'.cell? ⟨ad250.block,ad250.off+5,none⟩=some (.int .i64 (rd x5_3 5))∧w'.cell? ⟨ad250.block,ad250.off+6,none⟩=some (.int .i64 (rd x5_3 6))) (ds:=[]) #[false,false,false,false,false,false,false,false,false,false,false,false,false,false,false,false,false,false,false,false,false,false,false,false,false,false,false,false,false,false] (by kernel_rfl) rfl rfl ⟨hx263_0,hx264_0,hx265_0,hx266_0,hx268_0,hx269_0,hx270_0⟩ (fun hHeld=>?_);refine zgh impl_HashBlock.tab18 impl_HashBlock.bits18 (fun HT_ HW_=>?_)
                   generalize w39.drew=w41 at HO_5 HO_8 HO_43 HB hx263_0 hx264_0 hx265_0 hx266_0 hx268_0 hx269_0 hx270_0 hHeld ⊢
                   refine pu 0 106 HT_.out ?_
                   refine pu 1 107 HT_.out ?_
                   refine pu 2 108 HT_.out ?_
                   refine pu 4 110 HT_.out ?_
                   refine pu 5 111 HT_.out ?_
                   refine pu 7 113 HT_.out ?_
                   refine pu 8 114 HT_.out ?_
                   refine pu 10 116 HT_.out ?_
                   refine pu 11 117 HT_.out ?_
                   refine pu 13 119 HT_.out ?_
                   refine pu 14 120 HT_.out ?_
                   refine pu 16 122 HT_.out ?_
                   refine pu 19 125 HT_.out ?_
                   refine pu 20 126 HT_.out ?_
                   refine pu 22 128 HT_.out ?_
                   refine pu 23 129 HT_.out ?_
                   refine pu 25 131 HT_.out ?_
                   refine pu 26 132 HT_.out ?_
                   refine tk 6 112 HT_.out HW_.out hHeld ?_
                   refine tk 9 115 HT_.out HW_.out hHeld ?_
                   refine tk 12 118 HT_.out HW_.out hHeld ?_
                   refine tk 15 121 HT_.out HW_.out hHeld ?_
                   refine pu 17 123 HT_.out ?_
                   refine tk 21 127 HT_.out HW_.out hHeld ?_
                   refine tk 24 130 HT_.out HW_.out hHeld ?_
                   refine tk 27 133 HT_.out HW_.out hHeld ?_
                   refine one_ (i:=3) (N:=some 109) #[true,true,true,true,true,true,true,true,true,true,true,true,true,true,true,true,true,true,false,true,true,true,true,true,true,true,true,true,false,false] rfl rfl (one_of HT_.out (by kernel_rfl)) (by decide) (fun K hK=>?_)
                   refine goes_ Try.func71 (by kernel_rfl) rfl #[.int .i64 (wrap64 ((wrap64 ((wrap64 ((wrap64 ((wrap64 ((rd x5_3 7)+t259))+(Go.bits .or .i64 (Go.bits .and .i64 (rd x5_3 4) (rd x5_3 5)) (Go.bits .and .i64 (Go.bits .xor .i64 4294967295 (rd x5_3 4)) (rd x5_3 6)))))+(rd t243 x45_3)))+(rd t246 x45_3)))+(wrap64 (t261+(Go.bits .or .i64 (Go.bits .or .i64 (Go.bits .and .i64 (rd x5_3 0) (rd x5_3 1)) (Go.bits .and .i64 (rd x5_3 0) (rd x5_3 2))) (Go.bits .and .i64 (rd x5_3 1) (rd x5_3 2)))))))] (by rfl) rfl rfl jhl ?_
                   with_reducible refine(impl_Word.calls (wrap64 ((wrap64 ((wrap64 ((wrap64 ((wrap64 ((rd x5_3 7)+t259))+(Go.bits .or .i64 (Go.bits .and .i64 (rd x5_3 4) (rd x5_3 5)) (Go.bits .and .i64 (Go.bits .xor .i64 4294967295 (rd x5_3 4)) (rd x5_3 6)))))+(rd t243 x45_3)))+(rd t246 x45_3)))+(wrap64 (t261+(Go.bits .or .i64 (Go.bits .or .i64 (Go.bits .and .i64 (rd x5_3 0) (rd x5_3 1)) (Go.bits .and .i64 (rd x5_3 0) (rd x5_3 2))) (Go.bits .and .i64 (rd x5_3 1) (rd x5_3 2))))))) t262 _ A32.out).mono ?_
                   rintro e w' ⟨rfl,⟨nd,rfl⟩⟩
                   refine⟨_,rfl,?_⟩
                   refine hK.out _ _ ⟨hHeld.1,hHeld.2.1,hHeld.2.2.1,hHeld.2.2.2.1,hHeld.2.2.2.2.1,hHeld.2.2.2.2.2.1,hHeld.2.2.2.2.2.2⟩ (fun hHeld=>?_)
                   clear hK K
                   refine norm_ (a':=?_) ?_ ?_
                   rotate_left
                   ·show Act.put _ (some 109) _=_
                    simp only[Act.put,zaa,zae,zaf,i64_w,i32_w]
                    rfl
                   refine one_ (i:=18) (N:=some 124) #[true,true,true,true,true,true,true,true,true,true,true,true,true,true,true,true,true,true,true,true,true,true,true,true,true,true,true,true,false,false] rfl rfl (one_of HT_.out (by kernel_rfl)) (by decide) (fun K hK=>?_)
                   refine goes_ Try.func71 (by kernel_rfl) rfl #[.int .i64 (wrap64 ((rd x5_3 3)+(wrap64 ((wrap64 ((wrap64 ((wrap64 ((rd x5_3 7)+t259))+(Go.bits .or .i64 (Go.bits .and .i64 (rd x5_3 4) (rd x5_3 5)) (Go.bits .and .i64 (Go.bits .xor .i64 4294967295 (rd x5_3 4)) (rd x5_3 6)))))+(rd t243 x45_3)))+(rd t246 x45_3)))))] (by rfl) rfl rfl jhl ?_
                   with_reducible refine(impl_Word.calls (wrap64 ((rd x5_3 3)+(wrap64 ((wrap64 ((wrap64 ((wrap64 ((rd x5_3 7)+t259))+(Go.bits .or .i64 (Go.bits .and .i64 (rd x5_3 4) (rd x5_3 5)) (Go.bits .and .i64 (Go.bits .xor .i64 4294967295 (rd x5_3 4)) (rd x5_3 6)))))+(rd t243 x45_3)))+(rd t246 x45_3))))) t267 _ A34.out).mono ?_
                   rintro e w' ⟨rfl,⟨nd,rfl⟩⟩
                   refine⟨_,rfl,?_⟩
                   refine hK.out _ _ ⟨hHeld.1,hHeld.2.1,hHeld.2.2.1,hHeld.2.2.2.1,hHeld.2.2.2.2.1,hHeld.2.2.2.2.2.1,hHeld.2.2.2.2.2.2⟩ (fun hHeld=>?_)
                   clear hK K
                   refine norm_ (a':=?_) ?_ ?_
                   rotate_left
                   ·show Act.put _ (some 124) _=_
                    simp only[Act.put,zaa,zae,zaf,i64_w,i32_w]
                    rfl
                   refine one_ (i:=28) (N:=some 134) #[true,true,true,true,true,true,true,true,true,true,true,true,true,true,true,true,true,true,true,true,true,true,true,true,true,true,true,true,true,false] rfl rfl (one_of HT_.out (by kernel_rfl)) (by decide) (fun K hK=>?_)
                   refine Kd.R_lit_step (Kd.int .i64) _ 3 ?hg (N:=134) ?hd (xs:=([t262,rd x5_3 0,rd x5_3 1,rd x5_3 2,t267,rd x5_3 4,rd x5_3 5,rd x5_3 6]:List Int)) (inner:=[.int .i64 t262, .int .i64 (rd x5_3 0), .int .i64 (rd x5_3 1), .int .i64 (rd x5_3 2), .int .i64 t267, .int .i64 (rd x5_3 4), .int .i64 (rd x5_3 5), .int .i64 (rd x5_3 6)]) (ok:=fun _=>True) (okp:=fun _=>True) ?hr ?hp (fun _ hk=>hk) trivial (zbk _ _) (zav _) (by simp) ?_;(case hd=>rfl);(case hg=>rfl);(case hr=>first | (go_simp;done) | (go_simp;rfl));(case hp=>exact(zan (show Kd.M (Kd.int .i64) _ _ _ t262 [.int .i64 t262] from rfl) (zan (show Kd.M (Kd.int .i64) _ _ _ (rd x5_3 0) [.int .i64 (rd x5_3 0)] from rfl) (zan (show Kd.M (Kd.int .i64) _ _ _ (rd x5_3 1) [.int .i64 (rd x5_3 1)] from rfl) (zan (show Kd.M (Kd.int .i64) _ _ _ (rd x5_3 2) [.int .i64 (rd x5_3 2)] from rfl) (zan (show Kd.M (Kd.int .i64) _ _ _ t267 [.int .i64 t267] from rfl) (zan (show Kd.M (Kd.int .i64) _ _ _ (rd x5_3 4) [.int .i64 (rd x5_3 4)] from rfl) (zan (show Kd.M (Kd.int .i64) _ _ _ (rd x5_3 5) [.int .i64 (rd x5_3 5)] from rfl) (zan (show Kd.M (Kd.int .i64) _ _ _ (rd x5_3 6) [.int .i64 (rd x5_3 6)] from rfl) (zeb _ _))))))))))
                   intro v272 w42 ho43 hb hg_ hnew_
                   have HS0_:=(hb.cell (World.block_lt_of_cell? _ _ (hHeld.1))).trans (hHeld.1)
                   have HS1_:=(hb.cell (World.block_lt_of_cell? _ _ (hHeld.2.1))).trans (hHeld.2.1)
                   have HS2_:=(hb.cell (World.block_lt_of_cell? _ _ (hHeld.2.2.1))).trans (hHeld.2.2.1)
                   have HS3_:=(hb.cell (World.block_lt_of_cell? _ _ (hHeld.2.2.2.1))).trans (hHeld.2.2.2.1)
                   have HS4_:=(hb.cell (World.block_lt_of_cell? _ _ (hHeld.2.2.2.2.1))).trans (hHeld.2.2.2.2.1)
                   have HS5_:=(hb.cell (World.block_lt_of_cell? _ _ (hHeld.2.2.2.2.2.1))).trans (hHeld.2.2.2.2.2.1)
                   have HS6_:=(hb.cell (World.block_lt_of_cell? _ _ (hHeld.2.2.2.2.2.2))).trans (hHeld.2.2.2.2.2.2)
                   clear hg_ hnew_
                   (first | rw[← Ny271.out] at ho43 | (simp only[Int.reduceToNat] at ho43;rw[← Ny271.out] at ho43))
                   have n_:=jA5 (zbp (pR HO_5.out) (zba ho43) hb) (zbp (pR HO_8.out) (zba ho43) hb) (zbp (pR HO_43.out) (zba ho43) hb) (zaq (zby (zby (zby ho43 (zca (pR HO_5.out))) (zca (pR HO_8.out))) (zca (pR HO_43.out))) (zah bq)) (zal bq hb)
                   clear HO_5 HO_8 HO_43 HB
                   obtain⟨HO_5,HO_8,HO_43,HO273,HB⟩:=n_
                   clear hb ho43
                   refine hK.out _ _ ⟨HS0_,HS1_,HS2_,HS3_,HS4_,HS5_,HS6_⟩ (fun hHeld=>?_)
                   clear hK K
                   refine norm_ (a':=?_) ?_ ?_
                   rotate_left
                   ·show Act.put _ (some 134) _=_
                    simp only[Act.put,zaa,zae,zaf,i64_w,i32_w]
                    rfl
                   refine pu 29 5 HT_.out ?_
                   refine done_ (done_of HT_.out (by kernel_rfl)) ?_
                   try go_wp2
                   go_roundg k3
                   case measure=>have:=HJ2.out;have:=HK2.out;have:=HK3.out;omega
                   case rel=>exact⟨(y271),(wrap64 (x45_3+1)),jer,H',⟨by have:=HJ2.out;have:=HK2.out;have:=HK3.out;omega⟩,⟨by(with_reducible repeat(first | apply zat | apply zau | apply zar));exact zao HO273.out (fun _ hk=>⟨(by first | exact hk.1.2 | (revert hk;(try simp only[zgf]);intros;assumption)),(by first | exact hk.2 | (revert hk;(try simp only[zgf]);intros;assumption))⟩)⟩,⟨by(with_reducible repeat(first | apply zat | apply zau | apply zar));exact zao HO_8.out (fun _ hk=>⟨(by first | exact hk.2 | (revert hk;(try simp only[zgf]);intros;assumption)),(by first | exact hk.1.2 | (revert hk;(try simp only[zgf]);intros;assumption))⟩)⟩,⟨by(with_reducible repeat(first | apply zat | apply zau | apply zar));exact zao HO_43.out (fun _ hk=>⟨(by first | exact hk.2 | (revert hk;(try simp only[zgf]);intros;assumption)),(by first | exact hk.1.2 | (revert hk;(try simp only[zgf]);intros;assumption))⟩)⟩,⟨bq⟩⟩
                  rw[if_neg c33] at H
                  exact absurd H (by simp)
                 rw[if_neg c30] at H
                 exact absurd H (by simp)
                rw[if_neg c28] at H
                exact absurd H (by simp)
               rw[if_neg c27] at H
               exact absurd H (by simp)
              rw[if_neg c26] at H
              exact absurd H (by simp)
             rw[if_neg c25] at H
             exact absurd H (by simp)
            rw[if_neg c24] at H
            exact absurd H (by simp)
           rw[if_neg c23] at H
           exact absurd H (by simp)
          rw[if_neg c22] at H
          exact absurd H (by simp)
         rw[if_neg c21] at H
         exact absurd H (by simp)
        rw[if_neg c20] at H
        exact absurd H (by simp)
       rw[if_neg c19] at H
       have c19b0:=zbj c19
       clear c19
       obtain⟨y274,hy274⟩:∃ y_:List Int,y_=(([]:List Int)):=⟨_,rfl⟩
       replace H:(impl_HashBlock.l2 k3 l0 y274 x5_3 (x5_3.length:Int) 0)=some r:=jrw hy274 H
       have Ny274:=Aside0.mk hy274
       clear hy274
       have H':=Aside0.mk H
       clear H
       go_wp2_with (first | (refine jgd 136 ?_;(try(refine zdt (by rfl) ?_;dsimp only));refine jlt 136 (Kd.int .i64) 3 ?_;intro v275 w44 ho45 hb;have xb_:=below_ofs bq hb;(first | rw[← Ny274.out] at ho45 | (simp only[Int.reduceToNat] at ho45;rw[← Ny274.out] at ho45));have qHO_5:=Kd.R_ofs (pR HO_5.out) hb;have n0_:=Aside0.mk (zbp qHO_5 (zba ho45) hb);have qHO_8:=Kd.R_ofs (pR HO_8.out) hb;have n1_:=Aside0.mk (zbp qHO_8 (zba ho45) hb);have qHO_43:=Kd.R_ofs (pR HO_43.out) hb;have n2_:=Aside0.mk (zbp qHO_43 (zba ho45) hb);have n3_:=Aside0.mk (zaq (zby (zby (zby ho45 (zca qHO_5)) (zca qHO_8)) (zca qHO_43)) (zah xb_));have n4_:=Aside0.mk (zal xb_ hb);clear qHO_43 HO_5;clear qHO_5 HO_8;clear qHO_8 HO_43;clear HB;have HO_5:=n0_;have HO_8:=n1_;have HO_43:=n2_;have HO276:=n3_;have HB:=n4_;clear n0_ n1_ n2_ n3_ n4_;clear xb_ hb ho45;obtain⟨Ao46,co46,eo46⟩:=zbb HO_5.out;subst eo46))
       go_loopg [17,139] k3 (fun kq v17 v139 w'=>∃ (x17_4:List Int) (x139_4:Int),v139= .int .i64 x139_4∧Aside0 (impl_HashBlock.l2 kq l0 x17_4 x5_3 (x5_3.length:Int) x139_4=some r)∧Aside0 (kq≤k3)∧Aside0 (Kd.R (Kd.int .i64) 3 w' w.heap.size (fun k_=>some k_≠((.slice Ao46 x5_3.length co46):Value).ownBlock) v17 x17_4)∧Aside0 (Kd.R (Kd.int .i64) 3 w' w.heap.size (fun k_=>some k_≠(v17:Value).ownBlock) (.slice Ao46 x5_3.length co46) x5_3)∧Aside0 (Below w.heap.size w w'))
       case atStart=>exact⟨(y274),(0),jer,H',⟨zav _⟩,⟨by(with_reducible repeat(first | apply zat | apply zau | apply zar));exact zao HO276.out (fun _ hk=>by first | exact hk.1.1.2 | (revert hk;(try simp only[zgf]);intros;assumption))⟩,⟨by(with_reducible repeat(first | apply zat | apply zau | apply zar));exact zao HO_5.out (fun _ hk=>by first | exact hk.2 | (revert hk;(try simp only[zgf]);intros;assumption))⟩,⟨bq⟩⟩
       case round=>
        clear H'
        try clear c1
        try clear c2
        try clear p2
        try clear q2
        try clear hx2
        try clear qi2
        try clear c3
        try clear p6
        try clear c7
        try clear c19
        try clear c19b0
        try clear c20
        try clear c21
        try clear c22
        try clear c23
        try clear c24
        try clear c25
        try clear p25
        try clear q25
        try clear hx25
        try clear qi25
        try clear c26
        try clear p26
        try clear q26
        try clear hx26
        try clear qi26
        try clear c27
        try clear p27
        try clear q27
        try clear hx27
        try clear qi27
        try clear c28
        try clear c30
        try clear c33
        try clear hx258_0
        try clear hx260_0
        try clear hx263_0
        try clear hx264_0
        try clear hx265_0
        try clear hx266_0
        try clear hx268_0
        try clear hx269_0
        try clear hx270_0
        try clear p258
        try clear p260
        try clear p263
        try clear p264
        try clear p265
        try clear p266
        try clear p268
        try clear p269
        try clear p270
        try clear q258
        try clear q260
        try clear q263
        try clear q264
        try clear q265
        try clear q266
        try clear q268
        try clear q269
        try clear q270
        obtain⟨x17_4,x139_4,rfl,HA,HK4,HO_17,HO_137,HB⟩:=hrel
        cases gk with
        | zero=>exact absurd HA.out (by simp [impl_HashBlock.l2])
        | succ k4=>
         have H:=HA.out
         clear HA
         simp only[impl_HashBlock.l2] at H
         by_cases c47:x139_4<(x5_3.length:Int)
         ·rw[if_pos c47] at H
          have c47b0:=zab c47
          clear c47
          by_cases c48:0≤x139_4
          ·rw[if_pos c48] at H
           have c48b0:=zab c48
           clear c48
           by_cases c49:x139_4<(x5_3.length:Int)
           ·rw[if_pos c49] at H
            have c49b0:=zab c49
            clear c49
            by_cases c50:x139_4<(l0.length:Int)
            ·rw[if_pos c50] at H
             have c50b0:=zab c50
             clear c50
             obtain⟨t279,A51,H⟩:=bnd H
             obtain⟨t280,A52,H⟩:=bnd H
             by_cases c53:x17_4.length<17592186044416
             ·rw[if_pos c53] at H
              have LMc53:=Aside0.mk c53
              clear c53
              obtain⟨y281,hy281⟩:∃ y_:List Int,y_=(x17_4++[t280]):=⟨_,rfl⟩
              replace H:(impl_HashBlock.l2 k4 l0 y281 x5_3 (x5_3.length:Int) (wrap64 (x139_4+1)))=some r:=jrw hy281 H
              have Ny281:=Aside0.mk hy281
              clear hy281
              have H':=Aside0.mk H
              clear H
              have p277:0≤(x139_4:Int):=zad jab
              have q277:x139_4<(x5_3.length:Int):=zad jab
              obtain⟨ad277,e277,hx277_0⟩:=zcd (zam HO_137.out).2.2 x139_4 p277 q277
              cases e277
              replace p277:=zas p277
              replace q277:=zas q277
              have p278:0≤(x139_4:Int):=zad jab
              have q278:x139_4<(l0.length:Int):=zad jab
              obtain⟨ad278,e278,hx278_0⟩:=zcd HR0.out x139_4 p278 q278
              cases e278
              replace hx278_0:=jcB HB.out hx278_0
              replace p278:=zas p278
              replace q278:=zas q278
              go_wp2_with (first | (refine jgc 71 ?_;refine jgs 150 Try.func71 #[.int .i64 (rd l0 x139_4)] ?_;(with_reducible refine(impl_Word.calls (rd l0 x139_4) t279 _ A51.out).mono ?_);rintro e w' ⟨rfl,⟨nd,rfl⟩⟩;refine⟨_,rfl,?_⟩) | (refine jgc 71 ?_;refine jgs 152 Try.func71 #[.int .i64 (wrap64 ((rd x5_3 x139_4)+t279))] ?_;(with_reducible refine(impl_Word.calls (wrap64 ((rd x5_3 x139_4)+t279)) t280 _ A52.out).mono ?_);rintro e w' ⟨rfl,⟨nd,rfl⟩⟩;refine⟨_,rfl,?_⟩) | ((with_reducible refine zde (b:= .append) (xs:= #[.tmp 144, .tmp 153]) rfl ?_);(try(refine zdt (by rfl) ?_;dsimp only));at_builtin;refine zfr (Kd.int .i64) (w0:=w) w.heap.size rfl (.tmp 144) (.tmp 153) 22 3 (.int .i64 0) 8 rfl Try.underlying22 info3 rfl (by decide) (by omega) u17 x17_4 t280 [.int .i64 t280] (fun k_=>some k_≠(.slice (some ad277) x5_3.length co46:Value).ownBlock) (fun _=>False) rfl rfl ?aP (fun _ hk=>hk.elim) ?aF ?aO ?aB ?aS ?aL ?_;(case aP=>exact rfl);(case aB=>exact bq);(case aF=>exact(fun k_ hk=>zdv (zca (pR HO_137.out)) k_ hk));(case aO=>exact(pR HO_17.out));(case aS=>exact(zah bq));(case aL=>have:=LMc53.out;omega);intro v282 w54 ho hb hg hat;rw[← Ny281.out] at ho;have n_:=jA3 (zdu (ok:=(fun _=>True)) (by(with_reducible repeat(first | apply zat | apply zau | apply zar));exact zao HO_137.out (fun _ hk=>⟨trivial,hk⟩)) hg hat) (hb) (ho);clear HO_137 HB HO_17;obtain⟨HO_137,HB,HO283⟩:=n_;clear ho hb hg hat))
              go_roundg k4
              case measure=>have:=HJ2.out;have:=HK2.out;have:=HK3.out;have:=HK4.out;omega
              case rel=>exact⟨(y281),(wrap64 (x139_4+1)),jer,H',⟨by have:=HJ2.out;have:=HK2.out;have:=HK3.out;have:=HK4.out;omega⟩,⟨pR HO283.out⟩,⟨by(with_reducible repeat(first | apply zat | apply zau | apply zar));exact zao HO_137.out (fun _ hk=>by first | exact hk.2 | (revert hk;(try simp only[zgf]);intros;assumption))⟩,⟨bq⟩⟩
             rw[if_neg c53] at H
             exact absurd H (by simp)
            rw[if_neg c50] at H
            exact absurd H (by simp)
           rw[if_neg c49] at H
           exact absurd H (by simp)
          rw[if_neg c48] at H
          exact absurd H (by simp)
         rw[if_neg c47] at H
         have c47b0:=zbj c47
         clear c47
         obtain rfl:=Option.some.inj H
         go_wp2
         go_ret
         exact⟨_,jex,tqR HO_17.out,bq⟩
end Go.Proofs.Ytienlgcjohpphaa.P
