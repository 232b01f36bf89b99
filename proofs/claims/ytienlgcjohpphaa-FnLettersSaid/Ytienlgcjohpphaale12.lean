import Derived.Test.Ytienlgcjohpphaale11
namespace Go.Proofs.Ytienlgcjohpphaa.P
open Go.RowKit Go.Proofs.YtienlgcjohpphaaW.PrintWords Go.Proofs.YtienlgcjohpphaaW.PrintLast Go.Proofs.YtienlgcjohpphaaW.PrintMore
attribute [local go_sem] zcn zco zdk zdl zce zcf zcp zcq -- for this text's walks alone
set_option linter.unusedVariables false
set_option linter.unusedSimpArgs false

mutual
def spec_HashBlock.j0:Nat→List Int→List Int→Bool→Option (List Int)
 | 0,_,_,_=>none
 | k+1,x0,x1,x30=>if x30=true then(some (([]:List Int))) else((spec_l3More.f k x1).bind fun t145=>((spec_l3Table.f).bind fun t148=>(if 0<(x0.length:Int) then((spec_Word.f (rd x0 0)).bind fun t152=>(if 1<(x0.length:Int) then((spec_Word.f (rd x0 1)).bind fun t154=>(if 2<(x0.length:Int) then((spec_Word.f (rd x0 2)).bind fun t156=>(if 3<(x0.length:Int) then((spec_Word.f (rd x0 3)).bind fun t158=>(if 4<(x0.length:Int) then((spec_Word.f (rd x0 4)).bind fun t160=>(if 5<(x0.length:Int) then((spec_Word.f (rd x0 5)).bind fun t162=>(if 6<(x0.length:Int) then((spec_Word.f (rd x0 6)).bind fun t164=>(if 7<(x0.length:Int) then((spec_Word.f (rd x0 7)).bind fun t166=>(spec_HashBlock.l0 k x0 t145 t148 t152 t154 t156 t158 t160 t162 t164 t166 0)) else(none))) else(none))) else(none))) else(none))) else(none))) else(none))) else(none))) else(none))))
def spec_HashBlock.l0:Nat→List Int→List Int→List Int→Int→Int→Int→Int→Int→Int→Int→Int→Int→Option (List Int)
 | 0,_,_,_,_,_,_,_,_,_,_,_,_=>none
 | k+1,x0,x5,x6,x7,x8,x9,x10,x11,x12,x13,x14,x15=>if x15<64 then((spec_l3Mix.f x11 6 11 25 false).bind fun t167=>(if 0≤x15 then(if x15<(x6.length:Int) then(if x15<(x5.length:Int) then((spec_l3Mix.f x7 2 13 22 false).bind fun t170=>((spec_Word.f (wrap64 (x10+(wrap64 ((wrap64 ((wrap64 ((wrap64 (x14+t167))+(Go.bits .xor .i64 (Go.bits .and .i64 x11 x12) (Go.bits .and .i64 (Go.bits .xor .i64 4294967295 x11) x13))))+(rd x6 x15)))+(rd x5 x15)))))).bind fun t171=>((spec_Word.f (wrap64 ((wrap64 ((wrap64 ((wrap64 ((wrap64 (x14+t167))+(Go.bits .xor .i64 (Go.bits .and .i64 x11 x12) (Go.bits .and .i64 (Go.bits .xor .i64 4294967295 x11) x13))))+(rd x6 x15)))+(rd x5 x15)))+(wrap64 (t170+(Go.bits .xor .i64 (Go.bits .xor .i64 (Go.bits .and .i64 x7 x8) (Go.bits .and .i64 x7 x9)) (Go.bits .and .i64 x8 x9))))))).bind fun t172=>(spec_HashBlock.l0 k x0 x5 x6 t172 x7 x8 x9 t171 x11 x12 x13 (wrap64 (x15+1)))))) else(none)) else(none)) else(none))) else(spec_HashBlock.l1 k x0 (([x7,x8,x9,x10,x11,x12,x13,x14]:List Int)) (([]:List Int)) 0)
def spec_HashBlock.l1:Nat→List Int→List Int→List Int→Int→Option (List Int)
 | 0,_,_,_,_=>none
 | k+1,x0,x20,x21,x22=>if x22<8 then(if 0≤x22 then(if x22<(x20.length:Int) then(if x22<(x0.length:Int) then((spec_Word.f (rd x0 x22)).bind fun t181=>((spec_Word.f (wrap64 ((rd x20 x22)+t181))).bind fun t182=>(if x21.length<17592186044416 then(spec_HashBlock.l1 k x0 x20 (x21++[t182]) (wrap64 (x22+1))) else(none)))) else(none)) else(none)) else(none)) else(some x21)
end
def spec_HashBlock.f (k:Nat) (l0:List Int) (l1:List Int):Option (List Int):=if(l0.length:Int)=8 then(spec_HashBlock.j0 k l0 l1 ((l1.length:Int) != 64)) else(spec_HashBlock.j0 k l0 l1 true)
theorem spec_HashBlock.mono_l:∀ k,(∀ y0 y1 y2,LeO (spec_HashBlock.j0 k y0 y1 y2) (spec_HashBlock.j0 (k+1) y0 y1 y2))∧(∀ y0 y1 y2 y3 y4 y5 y6 y7 y8 y9 y10 y11,LeO (spec_HashBlock.l0 k y0 y1 y2 y3 y4 y5 y6 y7 y8 y9 y10 y11) (spec_HashBlock.l0 (k+1) y0 y1 y2 y3 y4 y5 y6 y7 y8 y9 y10 y11))∧(∀ y0 y1 y2 y3,LeO (spec_HashBlock.l1 k y0 y1 y2 y3) (spec_HashBlock.l1 (k+1) y0 y1 y2 y3))
 | 0=>⟨fun _ _ _ r h=>by simp [spec_HashBlock.j0] at h,fun _ _ _ _ _ _ _ _ _ _ _ _ r h=>by simp [spec_HashBlock.l0] at h,fun _ _ _ _ r h=>by simp [spec_HashBlock.l1] at h⟩
 | k+1=>by
  obtain⟨ih0,ih1,ih2⟩:=spec_HashBlock.mono_l k
  refine⟨?_,?_,?_⟩
  ·intro y0 y1 y2
   unfold spec_HashBlock.j0
   have m0:=@spec_l3More.mono
   exact mt
  ·intro y0 y1 y2 y3 y4 y5 y6 y7 y8 y9 y10 y11
   unfold spec_HashBlock.l0
   have m0:=@spec_l3More.mono
   exact mt
  intro y0 y1 y2 y3
  unfold spec_HashBlock.l1
  have m0:=@spec_l3More.mono
  exact mt
theorem spec_HashBlock.mono:∀ a0 a1 k,LeO (spec_HashBlock.f k a0 a1) (spec_HashBlock.f (k+1) a0 a1):=by
 intro a0 a1 k
 obtain⟨ih0,ih1,ih2⟩:=spec_HashBlock.mono_l k
 unfold spec_HashBlock.f
 have m0:=@spec_l3More.mono
 exact mt
def spec_HashBlock.T5:Bool×List (List Nat×List Nat):=(true,[([],[]),([0],[0]),([1],[1]),([2],[2]),([],[]),([4],[4]),([5],[5]),([6,3],[6]),([],[]),([8],[8]),([9],[9]),([10,7],[10]),([],[]),([12],[12]),([13],[13]),([14,11],[14]),([3,15,0,1,2,3],[3]),([7,16,0,1,2,3,4,5,6,7,16],[7]),([11,17,0,1,2,3,4,5,6,7,8,9,10,11,16,17],[11]),([15,18,0,1,2,3,4,5,6,7,8,9,10,11,12,13,14,15,16,17,18],[15])])
def spec_HashBlock.B5:List Nat:=[0,1,3,7,0,16,48,127,0,256,768,2047,0,4096,12288,32767,65535,131071,262143,524287]
theorem spec_HashBlock.tab5:rtab .any (opsOf Try.f15 5)=spec_HashBlock.T5:=by kernel_rfl
theorem spec_HashBlock.bits5:waitsOk spec_HashBlock.T5.2 spec_HashBlock.B5=true:=by kernel_rfl
def spec_HashBlock.T6:Bool×List (List Nat×List Nat):=(true,[([],[]),([0],[0]),([1],[1]),([2],[2]),([],[]),([4],[4]),([5],[5]),([6,3],[6]),([],[]),([8],[8]),([9],[9]),([10,7],[10]),([],[]),([12],[12]),([13],[13]),([14,11],[14]),([3,15,0,1,2,3],[3]),([7,16,0,1,2,3,4,5,6,7,16],[7]),([11,17,0,1,2,3,4,5,6,7,8,9,10,11,16,17],[11]),([15,18,0,1,2,3,4,5,6,7,8,9,10,11,12,13,14,15,16,17,18],[15])])
def spec_HashBlock.B6:List Nat:=[0,1,3,7,0,16,48,127,0,256,768,2047,0,4096,12288,32767,65535,131071,262143,524287]
theorem spec_HashBlock.tab6:rtab .any (opsOf Try.f15 6)=spec_HashBlock.T6:=by kernel_rfl
theorem spec_HashBlock.bits6:waitsOk spec_HashBlock.T6.2 spec_HashBlock.B6=true:=by kernel_rfl
def spec_HashBlock.T12:Bool×List (List Nat×List Nat):=(true,[([],[]),([],[]),([1],[1]),([0,2],[0,2]),([],[]),([3,4],[3,4]),([],[]),([],[]),([6,7],[6,7]),([8],[8]),([5,9],[5,9]),([],[]),([],[]),([11,12],[11,12]),([13],[13]),([10,14],[10,14]),([15,2,0,1,2,3,4,5,6,7,8,9,10,11,12,13,14,15],[15])])
def spec_HashBlock.B12:List Nat:=[0,0,2,7,0,31,0,0,192,448,1023,0,0,6144,14336,32767,65535]
theorem spec_HashBlock.tab12:rtab .any (opsOf Try.f15 12)=spec_HashBlock.T12:=by kernel_rfl
theorem spec_HashBlock.bits12:waitsOk spec_HashBlock.T12.2 spec_HashBlock.B12=true:=by kernel_rfl
def spec_HashBlock.T27:Bool×List (List Nat×List Nat):=(true,[([],[]),([],[]),([],[]),([1,2],[1,2]),([3],[3]),([],[]),([],[]),([5,6],[5,6]),([7],[7]),([8],[8]),([4,9],[4,9]),([10,9],[10]),([11],[11]),([0,12,11],[0,12]),([13,13,0,1,2,3,4,5,6,7,8,9,10,11,12,13],[0,13])])
def spec_HashBlock.B27:List Nat:=[0,0,0,6,14,0,0,96,224,480,1022,2046,4094,8191,16383]
theorem spec_HashBlock.tab27:rtab .any (opsOf Try.f15 27)=spec_HashBlock.T27:=by kernel_rfl
theorem spec_HashBlock.bits27:waitsOk spec_HashBlock.T27.2 spec_HashBlock.B27=true:=by kernel_rfl
set_option maxHeartbeats 8000000 in
set_option maxRecDepth 100000 in
theorem spec_HashBlock.calls (k:Nat) (A0:Option Addr) (c0:Nat) (l0:List Int) (A1:Option Addr) (c1:Nat) (l1:List Int) (r:List Int) (w:World) (hr0:Kd.C (Kd.int .i64) w A0 l0.length l0) (hc0:l0.length≤c0) (hr1:Kd.C (Kd.int .u8) w A1 l1.length l1) (hc1:l1.length≤c1) (h:spec_HashBlock.f k l0 l1=some r):
  Calls Try.prog 15 #[.slice A0 l0.length c0, .slice A1 l1.length c1] w fun e w'=>∃ v0_:Value,e= .returned (v0_)∧Kd.R (Kd.int .i64) 3 w' w.heap.size (fun _=>True) v0_ r∧Below w.heap.size w w':=by
 have HR0:=Aside0.mk hr0
 have HC0:=Aside0.mk hc0
 clear hr0 hc0
 have HR1:=Aside0.mk hr1
 have HC1:=Aside0.mk hc1
 clear hr1 hc1
 have HB:=Aside0.mk (zbk w.heap.size w)
 have H:(if(l0.length:Int)=8 then(spec_HashBlock.j0 k l0 l1 ((l1.length:Int) != 64)) else(spec_HashBlock.j0 k l0 l1 true))=some r:=h
 clear h
 have HC3:=Aside0.mk H
 clear H
 go_enter Try.func15,Try.ntmps15
 go_upto_region 1 with (fail)
 go_cut [30] (fun v30 wc=>∃ (kq:Nat) (x30_2:Bool),v30= .bool x30_2∧Aside0 (spec_HashBlock.j0 kq l0 l1 x30_2=some r)∧Aside0 (kq≤k)∧Aside0 (Below w.heap.size w wc))
 case first=>
  have H:=HC3.out
  clear HC3
  by_cases c4:(l0.length:Int)=8
  ·rw[if_pos c4] at H
   have c4b0:=beqT c4
   have c4b1:=zdm.mpr c4
   clear c4
   (first | rw[c4b0] | (simp only[i64_w,i32_w];rw[c4b0]) | skip)
   have H':=Aside0.mk H
   clear H
   go_wp2
   go_meet
   case rel=>exact⟨_,(((l1.length:Int) != 64)),jer,H',⟨by first | omega | exact zav _⟩,⟨bq⟩⟩
  rw[if_neg c4] at H
  have c4b0:=zcl.mpr c4
  have c4b1:=zez.mpr c4
  (first | rw[c4b0] | (simp only[i64_w,i32_w];rw[c4b0]) | skip)
  have H':=Aside0.mk H
  clear H
  go_wp2
  go_meet
  case rel=>exact⟨_,(true),jer,H',⟨by first | omega | exact zav _⟩,⟨bq⟩⟩
 case rest=>
  clear HC3
  try clear c1
  try clear p2
  try clear c4
  try clear c4b0
  try clear c4b1
  obtain⟨kq,x30_2,rfl,HA,HJ2,HB⟩:=hcut
  cases kq with
  | zero=>exact absurd HA.out (by simp [spec_HashBlock.j0])
  | succ kj2=>
   have H:=HA.out
   clear HA
   simp only[spec_HashBlock.j0] at H
   by_cases c5:x30_2=true
   ·subst c5
    rw[if_pos rfl] at H
    obtain⟨y142,hy142⟩:∃ y_:List Int,y_=(([]:List Int)):=⟨_,rfl⟩
    replace H:(some y142)=some r:=jrw hy142 H
    have Ny142:=Aside0.mk hy142
    clear hy142
    obtain rfl:=Option.some.inj H
    go_wp2_with (first | (refine jgd 31 ?_;(try(refine zdt (by rfl) ?_;dsimp only));refine jlt 31 (Kd.int .i64) 3 ?_;intro v143 w6 ho7 hb;have xb_:=below_ofs bq hb;(first | rw[← Ny142.out] at ho7 | (simp only[Int.reduceToNat] at ho7;rw[← Ny142.out] at ho7));have n_:=jA2 (zaq ho7 (zah xb_)) (zal xb_ hb);clear HB;obtain⟨HO144,HB⟩:=n_;clear xb_ hb ho7))
    go_ret
    exact⟨_,jex,by(with_reducible repeat(first | apply zat | apply zau | apply zar));exact HO144.out,bq⟩
   replace c5:=zds.mpr c5
   subst c5
   rw[if_neg (show ¬(false=true) by decide)] at H
   obtain⟨t145,A8,H⟩:=bnd H
   obtain⟨t148,A9,H⟩:=bnd H
   by_cases c10:0<(l0.length:Int)
   ·rw[if_pos c10] at H
    have c10b0:=zab c10
    have c10b1:decide (0<l0.length)=true:=zab (by omega)
    clear c10
    obtain⟨t152,A11,H⟩:=bnd H
    by_cases c12:1<(l0.length:Int)
    ·rw[if_pos c12] at H
     have c12b0:=zab c12
     have c12b1:decide (1<l0.length)=true:=zab (by omega)
     clear c12
     obtain⟨t154,A13,H⟩:=bnd H
     by_cases c14:2<(l0.length:Int)
     ·rw[if_pos c14] at H
      have c14b0:=zab c14
      have c14b1:decide (2<l0.length)=true:=zab (by omega)
      clear c14
      obtain⟨t156,A15,H⟩:=bnd H
      by_cases c16:3<(l0.length:Int)
      ·rw[if_pos c16] at H
       have c16b0:=zab c16
       have c16b1:decide (3<l0.length)=true:=zab (by omega)
       clear c16
       obtain⟨t158,A17,H⟩:=bnd H
       by_cases c18:4<(l0.length:Int)
       ·rw[if_pos c18] at H
        have c18b0:=zab c18
        have c18b1:decide (4<l0.length)=true:=zab (by omega)
        clear c18
        obtain⟨t160,A19,H⟩:=bnd H
        by_cases c20:5<(l0.length:Int)
        ·rw[if_pos c20] at H
         have c20b0:=zab c20
         have c20b1:decide (5<l0.length)=true:=zab (by omega)
         clear c20
         obtain⟨t162,A21,H⟩:=bnd H
         by_cases c22:6<(l0.length:Int)
         ·rw[if_pos c22] at H
          have c22b0:=zab c22
          have c22b1:decide (6<l0.length)=true:=zab (by omega)
          clear c22
          obtain⟨t164,A23,H⟩:=bnd H
          by_cases c24:7<(l0.length:Int)
          ·rw[if_pos c24] at H
           have c24b0:=zab c24
           have c24b1:decide (7<l0.length)=true:=zab (by omega)
           clear c24
           obtain⟨t166,A25,H⟩:=bnd H
           have H':=Aside0.mk H
           clear H
           try go_wp2_with (first | (refine jgc 67 ?_;refine jgs 33 Try.func67 #[.slice A1 l1.length c1] ?_;(with_reducible refine(spec_l3More.calls kj2 _ _ l1 t145 _ ?side1 ?side2 A8.out).mono ?_);(case side1=>exact jcs HR1.out);(case side2=>exact HC1.out);rintro e w26 ⟨v146,rfl,ho0,hb⟩;refine⟨_,rfl,?_⟩;have n_:=jA2 (zaq ho0 (zah bq)) (zal bq hb);clear HB;obtain⟨HO147,HB⟩:=n_;(try clear hb);(try clear hb2);(try clear hk);(try clear hi);(try clear ho0)) | (refine jgc 68 ?_;refine jgs 34 Try.func68 #[] ?_;(with_reducible refine(spec_l3Table.calls t148 _ A9.out).mono ?_);rintro e w27 ⟨v149,rfl,ho0,hb⟩;refine⟨_,rfl,?_⟩;have n_:=jA3 (zbp (pR HO147.out) (zba ho0) hb) (zaq (zby ho0 (zca (pR HO147.out))) (zah bq)) (zal bq hb);clear HO147 HB;obtain⟨HO147,HO150,HB⟩:=n_;(try clear hb);(try clear hb2);(try clear hk);(try clear hi);(try clear ho0)))
           have n_:=jA3 (zar HO147.out) (zar HO150.out) (zay HB.out)
           clear HO147 HO150 HB
           obtain⟨HO147,HO150,HB⟩:=n_
           have p151:0≤(0:Int):=(by omega)
           have q151:0<(l0.length:Int):=zad jab
           obtain⟨ad151,e151,hx151_0⟩:=zcd HR0.out 0 p151 q151
           have hw151_0:=hx151_0
           (try rw[show((0:Int)).toNat=0 from rfl] at hw151_0)
           (try rw[show 0*1=0 from rfl] at hw151_0)
           (try rw[zfm] at hw151_0)
           cases e151
           have qi151:(0<l0.length)=True:=zas (by omega)
           (try rw[show((0:Int)).toNat=0 from rfl] at hx151_0)
           (try rw[zfm] at hx151_0)
           replace hx151_0:=jcB HB.out hx151_0
           replace p151:=zas p151
           replace q151:=zas q151
           have p153:0≤(1:Int):=(by omega)
           have q153:1<(l0.length:Int):=zad jab
           obtain⟨ad153,e153,hx153_0⟩:=zcd HR0.out 1 p153 q153
           have hw153_0:=hx153_0
           (try rw[show((1:Int)).toNat=1 from rfl] at hw153_0)
           (try rw[show 1*1=1 from rfl] at hw153_0)
           (try simp only[Nat.reduceMul,Nat.reduceEqDiff,Go.Addr.add, ↓reduceIte] at hw153_0)
           obtain rfl:ad151=ad153:=(by injection e153)
           (try simp only[show(1:Int).toNat=1 from rfl,Nat.reduceMul,Nat.reduceEqDiff,Go.Addr.add, ↓reduceIte] at hx153_0)
           have qi153:(1<l0.length)=True:=zas (by omega)
           (try rw[show((1:Int)).toNat=1 from rfl] at hx153_0)
           replace hx153_0:=jcB HB.out hx153_0
           replace p153:=zas p153
           replace q153:=zas q153
           have p155:0≤(2:Int):=(by omega)
           have q155:2<(l0.length:Int):=zad jab
           obtain⟨ad155,e155,hx155_0⟩:=zcd HR0.out 2 p155 q155
           have hw155_0:=hx155_0
           (try rw[show((2:Int)).toNat=2 from rfl] at hw155_0)
           (try rw[show 2*1=2 from rfl] at hw155_0)
           (try simp only[Nat.reduceMul,Nat.reduceEqDiff,Go.Addr.add, ↓reduceIte] at hw155_0)
           obtain rfl:ad151=ad155:=(by injection e155)
           (try simp only[show(2:Int).toNat=2 from rfl,Nat.reduceMul,Nat.reduceEqDiff,Go.Addr.add, ↓reduceIte] at hx155_0)
           have qi155:(2<l0.length)=True:=zas (by omega)
           (try rw[show((2:Int)).toNat=2 from rfl] at hx155_0)
           replace hx155_0:=jcB HB.out hx155_0
           replace p155:=zas p155
           replace q155:=zas q155
           have p157:0≤(3:Int):=(by omega)
           have q157:3<(l0.length:Int):=zad jab
           obtain⟨ad157,e157,hx157_0⟩:=zcd HR0.out 3 p157 q157
           have hw157_0:=hx157_0
           (try rw[show((3:Int)).toNat=3 from rfl] at hw157_0)
           (try rw[show 3*1=3 from rfl] at hw157_0)
           (try simp only[Nat.reduceMul,Nat.reduceEqDiff,Go.Addr.add, ↓reduceIte] at hw157_0)
           obtain rfl:ad151=ad157:=(by injection e157)
           (try simp only[show(3:Int).toNat=3 from rfl,Nat.reduceMul,Nat.reduceEqDiff,Go.Addr.add, ↓reduceIte] at hx157_0)
           have qi157:(3<l0.length)=True:=zas (by omega)
           (try rw[show((3:Int)).toNat=3 from rfl] at hx157_0)
           replace hx157_0:=jcB HB.out hx157_0
           replace p157:=zas p157
           replace q157:=zas q157
           refine start_ (n:=20) (S:=fun w'=>w'.cell? ad151=some (.int .i64 (rd l0 0))∧w'.cell? ⟨ad151.block,ad151.off+1,none⟩=some (.int .i64 (rd l0 1))∧w'.cell? ⟨ad151.block,ad151.off+2,none⟩=some (.int .i64 (rd l0 2))∧w'.cell? ⟨ad151.block,ad151.off+3,none⟩=some (.int .i64 (rd l0 3))) (ds:=[]) #[false,false,false,false,false,false,false,false,false,false,false,false,false,false,false,false,false,false,false,false] (by kernel_rfl) rfl rfl ⟨(jcB HB.out hw151_0:),(jcB HB.out hw153_0:),(jcB HB.out hw155_0:),(jcB HB.out hw157_0:)⟩ (fun hHeld=>?_);refine zgh spec_HashBlock.tab5 spec_HashBlock.bits5 (fun HT_ HW_=>?_)
           generalize w27.drew=w28 at HO147 HO150 HB hx151_0 hx153_0 hx155_0 hx157_0 hHeld ⊢
           refine pu 0 35 HT_.out ?_
           refine pu 1 36 HT_.out ?_
           refine pu 4 39 HT_.out ?_
           refine pu 5 40 HT_.out ?_
           refine pu 8 43 HT_.out ?_
           refine pu 9 44 HT_.out ?_
           refine pu 12 47 HT_.out ?_
           refine pu 13 48 HT_.out ?_
           refine tk 2 37 HT_.out HW_.out hHeld ?_
           refine tk 6 41 HT_.out HW_.out hHeld ?_
           refine tk 10 45 HT_.out HW_.out hHeld ?_
           refine tk 14 49 HT_.out HW_.out hHeld ?_
           refine one_ (i:=3) (N:=some 38) #[true,true,true,true,true,true,true,false,true,true,true,false,true,true,true,false,false,false,false,false] rfl rfl (one_of HT_.out (by kernel_rfl)) (by decide) (fun K hK=>?_)
           refine goes_ Try.func69 (by kernel_rfl) rfl #[.int .i64 (rd l0 0)] (by rfl) rfl rfl jhl ?_
           with_reducible refine(spec_Word.calls (rd l0 0) t152 _ A11.out).mono ?_
           rintro e w' ⟨rfl,⟨nd,rfl⟩⟩
           refine⟨_,rfl,?_⟩
           refine hK.out _ _ ⟨(jcB HB.out hw151_0:),(jcB HB.out hw153_0:),(jcB HB.out hw155_0:),(jcB HB.out hw157_0:)⟩ (fun hHeld=>?_)
           clear hK K
           refine norm_ (a':=?_) ?_ ?_
           rotate_left
           ·show Act.put _ (some 38) _=_
            simp only[Act.put,zaa,zae,zaf,i64_w,i32_w]
            rfl
           refine one_ (i:=7) (N:=some 42) #[true,true,true,true,true,true,true,true,true,true,true,false,true,true,true,false,false,false,false,false] rfl rfl (one_of HT_.out (by kernel_rfl)) (by decide) (fun K hK=>?_)
           refine goes_ Try.func69 (by kernel_rfl) rfl #[.int .i64 (rd l0 1)] (by rfl) rfl rfl jhl ?_
           with_reducible refine(spec_Word.calls (rd l0 1) t154 _ A13.out).mono ?_
           rintro e w' ⟨rfl,⟨nd,rfl⟩⟩
           refine⟨_,rfl,?_⟩
           refine hK.out _ _ ⟨(jcB HB.out hw151_0:),(jcB HB.out hw153_0:),(jcB HB.out hw155_0:),(jcB HB.out hw157_0:)⟩ (fun hHeld=>?_)
           clear hK K
           refine norm_ (a':=?_) ?_ ?_
           rotate_left
           ·show Act.put _ (some 42) _=_
            simp only[Act.put,zaa,zae,zaf,i64_w,i32_w]
            rfl
           refine one_ (i:=11) (N:=some 46) #[true,true,true,true,true,true,true,true,true,true,true,true,true,true,true,false,false,false,false,false] rfl rfl (one_of HT_.out (by kernel_rfl)) (by decide) (fun K hK=>?_)
           refine goes_ Try.func69 (by kernel_rfl) rfl #[.int .i64 (rd l0 2)] (by rfl) rfl rfl jhl ?_
           with_reducible refine(spec_Word.calls (rd l0 2) t156 _ A15.out).mono ?_
           rintro e w' ⟨rfl,⟨nd,rfl⟩⟩
           refine⟨_,rfl,?_⟩
           refine hK.out _ _ ⟨(jcB HB.out hw151_0:),(jcB HB.out hw153_0:),(jcB HB.out hw155_0:),(jcB HB.out hw157_0:)⟩ (fun hHeld=>?_)
           clear hK K
           refine norm_ (a':=?_) ?_ ?_
           rotate_left
           ·show Act.put _ (some 46) _=_
            simp only[Act.put,zaa,zae,zaf,i64_w,i32_w]
            rfl
           refine one_ (i:=15) (N:=some 50) #[true,true,true,true,true,true,true,true,true,true,true,true,true,true,true,true,false,false,false,false] rfl rfl (one_of HT_.out (by kernel_rfl)) (by decide) (fun K hK=>?_)
           refine goes_ Try.func69 (by kernel_rfl) rfl #[.int .i64 (rd l0 3)] (by rfl) rfl rfl jhl ?_
           with_reducible refine(spec_Word.calls (rd l0 3) t158 _ A17.out).mono ?_
           rintro e w' ⟨rfl,⟨nd,rfl⟩⟩
           refine⟨_,rfl,?_⟩
           refine hK.out _ _ ⟨(jcB HB.out hw151_0:),(jcB HB.out hw153_0:),(jcB HB.out hw155_0:),(jcB HB.out hw157_0:)⟩ (fun hHeld=>?_)
           clear hK K
           refine norm_ (a':=?_) ?_ ?_
           rotate_left
           ·show Act.put _ (some 50) _=_
            simp only[Act.put,zaa,zae,zaf,i64_w,i32_w]
            rfl
           refine pu 16 7 HT_.out ?_
           refine pu 17 8 HT_.out ?_
           refine pu 18 9 HT_.out ?_
           refine pu 19 10 HT_.out ?_
           refine done_ (done_of HT_.out (by kernel_rfl)) ?_
           try go_wp2
           (try(rw[drewN_self w28];generalize hq_:World.drewN w28 _=w28;have n0_:Aside0 (Kd.R (Kd.int .i64) 3 w28 w.heap.size (fun k_=>some k_≠(v149:Value).ownBlock) v146 t145):=⟨by rw[← hq_];exact(by(with_reducible repeat(first | apply zat | apply zau | apply zar));exact zao HO147.out (fun _ hk=>by first | exact hk.2 | (revert hk;(try simp only[zgf]);intros;assumption)))⟩;have n1_:Aside0 (Kd.R (Kd.int .i64) 3 w28 w.heap.size (fun k_=>some k_≠(v146:Value).ownBlock) v149 t148):=⟨by rw[← hq_];exact(by(with_reducible repeat(first | apply zat | apply zau | apply zar));exact zao HO150.out (fun _ hk=>by first | exact hk.2 | (revert hk;(try simp only[zgf]);intros;assumption)))⟩;have n2_:Aside0 (Below w.heap.size w w28):=⟨by rw[← hq_];exact bq⟩;clear HO147 HO150 HB hq_;have HO147:=n0_;have HO150:=n1_;have HB:=n2_;clear n0_ n1_ n2_))
           have n_:=jA3 (zar HO147.out) (zar HO150.out) (zay HB.out)
           clear HO147 HO150 HB
           obtain⟨HO147,HO150,HB⟩:=n_
           have p159:0≤(4:Int):=(by omega)
           have q159:4<(l0.length:Int):=zad jab
           obtain⟨ad159,e159,hx159_0⟩:=zcd HR0.out 4 p159 q159
           have hw159_0:=hx159_0
           (try rw[show((4:Int)).toNat=4 from rfl] at hw159_0)
           (try rw[show 4*1=4 from rfl] at hw159_0)
           (try simp only[Nat.reduceMul,Nat.reduceEqDiff,Go.Addr.add, ↓reduceIte] at hw159_0)
           obtain rfl:ad151=ad159:=(by injection e159)
           (try simp only[show(4:Int).toNat=4 from rfl,Nat.reduceMul,Nat.reduceEqDiff,Go.Addr.add, ↓reduceIte] at hx159_0)
           have qi159:(4<l0.length)=True:=zas (by omega)
           (try rw[show((4:Int)).toNat=4 from rfl] at hx159_0)
           replace hx159_0:=jcB HB.out hx159_0
           replace p159:=zas p159
           replace q159:=zas q159
           have p161:0≤(5:Int):=(by omega)
           have q161:5<(l0.length:Int):=zad jab
           obtain⟨ad161,e161,hx161_0⟩:=zcd HR0.out 5 p161 q161
           have hw161_0:=hx161_0
           (try rw[show((5:Int)).toNat=5 from rfl] at hw161_0)
           (try rw[show 5*1=5 from rfl] at hw161_0)
           (try simp only[Nat.reduceMul,Nat.reduceEqDiff,Go.Addr.add, ↓reduceIte] at hw161_0)
           obtain rfl:ad151=ad161:=(by injection e161)
           (try simp only[show(5:Int).toNat=5 from rfl,Nat.reduceMul,Nat.reduceEqDiff,Go.Addr.add, ↓reduceIte] at hx161_0)
           have qi161:(5<l0.length)=True:=zas (by omega)
           (try rw[show((5:Int)).toNat=5 from rfl] at hx161_0)
           replace hx161_0:=jcB HB.out hx161_0
           replace p161:=zas p161
           replace q161:=zas q161
           have p163:0≤(6:Int):=(by omega)
           have q163:6<(l0.length:Int):=zad jab
           obtain⟨ad163,e163,hx163_0⟩:=zcd HR0.out 6 p163 q163
           have hw163_0:=hx163_0
           (try rw[show((6:Int)).toNat=6 from rfl] at hw163_0)
           (try rw[show 6*1=6 from rfl] at hw163_0)
           (try simp only[Nat.reduceMul,Nat.reduceEqDiff,Go.Addr.add, ↓reduceIte] at hw163_0)
           obtain rfl:ad151=ad163:=(by injection e163)
           (try simp only[show(6:Int).toNat=6 from rfl,Nat.reduceMul,Nat.reduceEqDiff,Go.Addr.add, ↓reduceIte] at hx163_0)
           have qi163:(6<l0.length)=True:=zas (by omega)
           (try rw[show((6:Int)).toNat=6 from rfl] at hx163_0)
           replace hx163_0:=jcB HB.out hx163_0
           replace p163:=zas p163
           replace q163:=zas q163
           have p165:0≤(7:Int):=(by omega)
           have q165:7<(l0.length:Int):=zad jab
           obtain⟨ad165,e165,hx165_0⟩:=zcd HR0.out 7 p165 q165
           have hw165_0:=hx165_0
           (try rw[show((7:Int)).toNat=7 from rfl] at hw165_0)
           (try rw[show 7*1=7 from rfl] at hw165_0)
           (try simp only[Nat.reduceMul,Nat.reduceEqDiff,Go.Addr.add, ↓reduceIte] at hw165_0)
           obtain rfl:ad151=ad165:=(by injection e165)
           (try simp only[show(7:Int).toNat=7 from rfl,Nat.reduceMul,Nat.reduceEqDiff,Go.Addr.add, ↓reduceIte] at hx165_0)
           have qi165:(7<l0.length)=True:=zas (by omega)
           (try rw[show((7:Int)).toNat=7 from rfl] at hx165_0)
           replace hx165_0:=jcB HB.out hx165_0
           replace p165:=zas p165
           replace q165:=zas q165
           refine start_ (n:=20) (S:=fun w'=>w'.cell? ⟨ad151.block,ad151.off+4,none⟩=some (.int .i64 (rd l0 4))∧w'.cell? ⟨ad151.block,ad151.off+5,none⟩=some (.int .i64 (rd l0 5))∧w'.cell? ⟨ad151.block,ad151.off+6,none⟩=some (.int .i64 (rd l0 6))∧w'.cell? ⟨ad151.block,ad151.off+7,none⟩=some (.int .i64 (rd l0 7))) (ds:=[]) #[false,false,false,false,false,false,false,false,false,false,false,false,false,false,false,false,false,false,false,false] (by kernel_rfl) rfl rfl ⟨(jcB HB.out hw159_0:),(jcB HB.out hw161_0:),(jcB HB.out hw163_0:),(jcB HB.out hw165_0:)⟩ (fun hHeld=>?_);refine zgh spec_HashBlock.tab6 spec_HashBlock.bits6 (fun HT_ HW_=>?_)
           generalize w28.drew=w29 at HO147 HO150 HB hx159_0 hx161_0 hx163_0 hx165_0 hHeld ⊢
           refine pu 0 51 HT_.out ?_
           refine pu 1 52 HT_.out ?_
           refine pu 4 55 HT_.out ?_
           refine pu 5 56 HT_.out ?_
           refine pu 8 59 HT_.out ?_
           refine pu 9 60 HT_.out ?_
           refine pu 12 63 HT_.out ?_
           refine pu 13 64 HT_.out ?_
           refine tk 2 53 HT_.out HW_.out hHeld ?_
           refine tk 6 57 HT_.out HW_.out hHeld ?_
           refine tk 10 61 HT_.out HW_.out hHeld ?_
           refine tk 14 65 HT_.out HW_.out hHeld ?_
           refine one_ (i:=3) (N:=some 54) #[true,true,true,true,true,true,true,false,true,true,true,false,true,true,true,false,false,false,false,false] rfl rfl (one_of HT_.out (by kernel_rfl)) (by decide) (fun K hK=>?_)
           refine goes_ Try.func69 (by kernel_rfl) rfl #[.int .i64 (rd l0 4)] (by rfl) rfl rfl jhl ?_
           with_reducible refine(spec_Word.calls (rd l0 4) t160 _ A19.out).mono ?_
           rintro e w' ⟨rfl,⟨nd,rfl⟩⟩
           refine⟨_,rfl,?_⟩
           refine hK.out _ _ ⟨(jcB HB.out hw159_0:),(jcB HB.out hw161_0:),(jcB HB.out hw163_0:),(jcB HB.out hw165_0:)⟩ (fun hHeld=>?_)
           clear hK K
           refine norm_ (a':=?_) ?_ ?_
           rotate_left
           ·show Act.put _ (some 54) _=_
            simp only[Act.put,zaa,zae,zaf,i64_w,i32_w]
            rfl
           refine one_ (i:=7) (N:=some 58) #[true,true,true,true,true,true,true,true,true,true,true,false,true,true,true,false,false,false,false,false] rfl rfl (one_of HT_.out (by kernel_rfl)) (by decide) (fun K hK=>?_)
           refine goes_ Try.func69 (by kernel_rfl) rfl #[.int .i64 (rd l0 5)] (by rfl) rfl rfl jhl ?_
           with_reducible refine(spec_Word.calls (rd l0 5) t162 _ A21.out).mono ?_
           rintro e w' ⟨rfl,⟨nd,rfl⟩⟩
           refine⟨_,rfl,?_⟩
           refine hK.out _ _ ⟨(jcB HB.out hw159_0:),(jcB HB.out hw161_0:),(jcB HB.out hw163_0:),(jcB HB.out hw165_0:)⟩ (fun hHeld=>?_)
           clear hK K
           refine norm_ (a':=?_) ?_ ?_
           rotate_left
           ·show Act.put _ (some 58) _=_
            simp only[Act.put,zaa,zae,zaf,i64_w,i32_w]
            rfl
           refine one_ (i:=11) (N:=some 62) #[true,true,true,true,true,true,true,true,true,true,true,true,true,true,true,false,false,false,false,false] rfl rfl (one_of HT_.out (by kernel_rfl)) (by decide) (fun K hK=>?_)
           refine goes_ Try.func69 (by kernel_rfl) rfl #[.int .i64 (rd l0 6)] (by rfl) rfl rfl jhl ?_
           with_reducible refine(spec_Word.calls (rd l0 6) t164 _ A23.out).mono ?_
           rintro e w' ⟨rfl,⟨nd,rfl⟩⟩
           refine⟨_,rfl,?_⟩
           refine hK.out _ _ ⟨(jcB HB.out hw159_0:),(jcB HB.out hw161_0:),(jcB HB.out hw163_0:),(jcB HB.out hw165_0:)⟩ (fun hHeld=>?_)
           clear hK K
           refine norm_ (a':=?_) ?_ ?_
           rotate_left
           ·show Act.put _ (some 62) _=_
            simp only[Act.put,zaa,zae,zaf,i64_w,i32_w]
            rfl
           refine one_ (i:=15) (N:=some 66) #[true,true,true,true,true,true,true,true,true,true,true,true,true,true,true,true,false,false,false,false] rfl rfl (one_of HT_.out (by kernel_rfl)) (by decide) (fun K hK=>?_)
           refine goes_ Try.func69 (by kernel_rfl) rfl #[.int .i64 (rd l0 7)] (by rfl) rfl rfl jhl ?_
           with_reducible refine(spec_Word.calls (rd l0 7) t166 _ A25.out).mono ?_
           rintro e w' ⟨rfl,⟨nd,rfl⟩⟩
           refine⟨_,rfl,?_⟩
           refine hK.out _ _ ⟨(jcB HB.out hw159_0:),(jcB HB.out hw161_0:),(jcB HB.out hw163_0:),(jcB HB.out hw165_0:)⟩ (fun hHeld=>?_)
           clear hK K
           refine norm_ (a':=?_) ?_ ?_
           rotate_left
           ·show Act.put _ (some 66) _=_
            simp only[Act.put,zaa,zae,zaf,i64_w,i32_w]
            rfl
           refine pu 16 11 HT_.out ?_
           refine pu 17 12 HT_.out ?_
           refine pu 18 13 HT_.out ?_
           refine pu 19 14 HT_.out ?_
           refine done_ (done_of HT_.out (by kernel_rfl)) ?_
           try go_wp2
           go_loopg [7,8,9,10,11,12,13,14,15] kj2 (fun kq v7 v8 v9 v10 v11 v12 v13 v14 v15 w'=>∃ (x7_2:Int) (x8_2:Int) (x9_2:Int) (x10_2:Int) (x11_2:Int) (x12_2:Int) (x13_2:Int) (x14_2:Int) (x15_2:Int),v7= .int .i64 x7_2∧v8= .int .i64 x8_2∧v9= .int .i64 x9_2∧v10= .int .i64 x10_2∧v11= .int .i64 x11_2∧v12= .int .i64 x12_2∧v13= .int .i64 x13_2∧v14= .int .i64 x14_2∧v15= .int .i64 x15_2∧Aside0 (spec_HashBlock.l0 kq l0 t145 t148 x7_2 x8_2 x9_2 x10_2 x11_2 x12_2 x13_2 x14_2 x15_2=some r)∧Aside0 (kq≤kj2)∧Aside0 (Kd.R (Kd.int .i64) 3 w' w.heap.size (fun k_=>some k_≠(v149:Value).ownBlock) v146 t145)∧Aside0 (Kd.R (Kd.int .i64) 3 w' w.heap.size (fun k_=>some k_≠(v146:Value).ownBlock) v149 t148)∧Aside0 (Below w.heap.size w w'))
           case atStart=>exact⟨(t152),(t154),(t156),(t158),(t160),(t162),(t164),(t166),(0),jer,jer,jer,jer,jer,jer,jer,jer,jer,H',⟨zav _⟩,⟨by(with_reducible repeat(first | apply zat | apply zau | apply zar));exact zao HO147.out (fun _ hk=>by first | exact hk.2 | (revert hk;(try simp only[zgf]);intros;assumption))⟩,⟨by(with_reducible repeat(first | apply zat | apply zau | apply zar));exact zao HO150.out (fun _ hk=>by first | exact hk.2 | (revert hk;(try simp only[zgf]);intros;assumption))⟩,⟨bq⟩⟩
           case round=>
            clear H'
            try clear c1
            try clear p1
            try clear q1
            try clear hx1
            try clear qi1
            try clear c2
            try clear p2
            try clear c5
            try clear c6
            try clear c10
            try clear c10b0
            try clear c10b1
            try clear c12
            try clear c12b0
            try clear c12b1
            try clear c14
            try clear c14b0
            try clear c14b1
            try clear p15
            try clear q15
            try clear hx15
            try clear qi15
            try clear c16
            try clear c16b0
            try clear c16b1
            try clear p16
            try clear q16
            try clear hx16
            try clear qi16
            try clear c18
            try clear c18b0
            try clear c18b1
            try clear c20
            try clear c20b0
            try clear c20b1
            try clear c22
            try clear c22b0
            try clear c22b1
            try clear c24
            try clear c24b0
            try clear c24b1
            try clear hx151_0
            try clear hx153_0
            try clear hx155_0
            try clear hx157_0
            try clear hx159_0
            try clear hx161_0
            try clear hx163_0
            try clear hx165_0
            try clear p151
            try clear p153
            try clear p155
            try clear p157
            try clear p159
            try clear p161
            try clear p163
            try clear p165
            try clear q151
            try clear q153
            try clear q155
            try clear q157
            try clear q159
            try clear q161
            try clear q163
            try clear q165
            obtain⟨x7_2,x8_2,x9_2,x10_2,x11_2,x12_2,x13_2,x14_2,x15_2,rfl,rfl,rfl,rfl,rfl,rfl,rfl,rfl,rfl,HA,HK2,HO_5,HO_6,HB⟩:=hrel
            cases gk with
            | zero=>exact absurd HA.out (by simp [spec_HashBlock.l0])
            | succ k2=>
             have H:=HA.out
             clear HA
             simp only[spec_HashBlock.l0] at H
             by_cases c30:x15_2<64
             ·rw[if_pos c30] at H
              have c30b0:=zab c30
              clear c30
              obtain⟨t167,A31,H⟩:=bnd H
              by_cases c32:0≤x15_2
              ·rw[if_pos c32] at H
               have c32b0:=zab c32
               clear c32
               by_cases c33:x15_2<(t148.length:Int)
               ·rw[if_pos c33] at H
                have c33b0:=zab c33
                clear c33
                by_cases c34:x15_2<(t145.length:Int)
                ·rw[if_pos c34] at H
                 have c34b0:=zab c34
                 clear c34
                 obtain⟨t170,A35,H⟩:=bnd H
                 obtain⟨t171,A36,H⟩:=bnd H
                 obtain⟨t172,A37,H⟩:=bnd H
                 have H':=Aside0.mk H
                 clear H
                 try go_wp2
                 have n_:=jA3 (zar HO_5.out) (zar HO_6.out) (zay HB.out)
                 clear HO_5 HO_6 HB
                 obtain⟨HO_5,HO_6,HB⟩:=n_
                 obtain⟨Ao39,co39,eo39⟩:=zbb HO_6.out
                 (first | subst eo39 | (injection eo39 with f1_ f2_ f3_;have f4_:=f1_.symm;have f5_:=f3_.symm;clear f1_ f2_ f3_;subst f4_;subst f5_))
                 have p168:0≤(x15_2:Int):=zad jab
                 have q168:x15_2<(t148.length:Int):=zad jab
                 obtain⟨ad168,e168,hx168_0⟩:=zcd (zam HO_6.out).2.2 x15_2 p168 q168
                 cases e168
                 replace p168:=zas p168
                 replace q168:=zas q168
                 obtain⟨Ao40,co40,eo40⟩:=zbb HO_5.out
                 (first | subst eo40 | (injection eo40 with f1_ f2_ f3_;have f4_:=f1_.symm;have f5_:=f3_.symm;clear f1_ f2_ f3_;subst f4_;subst f5_))
                 have p169:0≤(x15_2:Int):=zad jab
                 have q169:x15_2<(t145.length:Int):=zad jab
                 obtain⟨ad169,e169,hx169_0⟩:=zcd (zam HO_5.out).2.2 x15_2 p169 q169
                 cases e169
                 replace p169:=zas p169
                 replace q169:=zas q169
                 refine start_ (n:=17) (S:=fun w'=>w'.cell? (ad168.add (x15_2).toNat)=some (.int .i64 (rd t148 x15_2))∧w'.cell? (ad169.add (x15_2).toNat)=some (.int .i64 (rd t145 x15_2))) (ds:=[]) #[false,false,false,false,false,false,false,false,false,false,false,false,false,false,false,false,false] (by kernel_rfl) rfl rfl ⟨hx168_0,hx169_0⟩ (fun hHeld=>?_);refine zgh spec_HashBlock.tab12 spec_HashBlock.bits12 (fun HT_ HW_=>?_)
                 generalize wr.drew=w38 at HO_5 HO_6 HB hx168_0 hx169_0 hHeld ⊢
                 refine pu 0 90 HT_.out ?_
                 refine pu 1 91 HT_.out ?_
                 refine pu 4 94 HT_.out ?_
                 refine pu 6 96 HT_.out ?_
                 refine pu 7 97 HT_.out ?_
                 refine pu 8 98 HT_.out ?_
                 refine pu 11 101 HT_.out ?_
                 refine pu 12 102 HT_.out ?_
                 refine pu 13 103 HT_.out ?_
                 refine tk 9 99 HT_.out HW_.out hHeld ?_
                 refine tk 14 104 HT_.out HW_.out hHeld ?_
                 refine one_ (i:=2) (N:=some 92) #[true,true,true,false,true,false,true,true,true,true,false,true,true,true,true,false,false] rfl rfl (one_of HT_.out (by kernel_rfl)) (by decide) (fun K hK=>?_)
                 refine goes_ Try.func70 (by kernel_rfl) rfl #[.int .i64 x11_2, .int .i64 6, .int .i64 11, .int .i64 25, .bool false] (by rfl) rfl rfl jhl ?_
                 with_reducible refine(spec_l3Mix.calls x11_2 6 11 25 false t167 _ A31.out).mono ?_
                 rintro e w' ⟨rfl,⟨nd,rfl⟩⟩
                 refine⟨_,rfl,?_⟩
                 refine hK.out _ _ ⟨hHeld.1,hHeld.2⟩ (fun hHeld=>?_)
                 clear hK K
                 refine norm_ (a':=?_) ?_ ?_
                 rotate_left
                 ·show Act.put _ (some 92) _=_
                  simp only[Act.put,zaa,zae,zaf,i64_w,i32_w]
                  rfl
                 refine pu 3 93 HT_.out ?_
                 refine pu 5 95 HT_.out ?_
                 refine pu 10 100 HT_.out ?_
                 refine pu 15 105 HT_.out ?_
                 refine pu 16 18 HT_.out ?_
                 refine done_ (done_of HT_.out (by kernel_rfl)) ?_
                 try go_wp2_with (first | (refine jgc 70 ?_;refine jgs 107 Try.func70 #[.int .i64 x7_2, .int .i64 2, .int .i64 13, .int .i64 22, .bool false] ?_;(with_reducible refine(spec_l3Mix.calls x7_2 2 13 22 false t170 _ A35.out).mono ?_);rintro e w' ⟨rfl,⟨nd,rfl⟩⟩;refine⟨_,rfl,?_⟩) | (refine jgc 69 ?_;refine jgs 116 Try.func69 #[.int .i64 (wrap64 (x10_2+(wrap64 ((wrap64 ((wrap64 ((wrap64 (x14_2+t167))+(Go.bits .xor .i64 (Go.bits .and .i64 x11_2 x12_2) (Go.bits .and .i64 (Go.bits .xor .i64 4294967295 x11_2) x13_2))))+(rd t148 x15_2)))+(rd t145 x15_2)))))] ?_;(with_reducible refine(spec_Word.calls (wrap64 (x10_2+(wrap64 ((wrap64 ((wrap64 ((wrap64 (x14_2+t167))+(Go.bits .xor .i64 (Go.bits .and .i64 x11_2 x12_2) (Go.bits .and .i64 (Go.bits .xor .i64 4294967295 x11_2) x13_2))))+(rd t148 x15_2)))+(rd t145 x15_2))))) t171 _ A36.out).mono ?_);rintro e w' ⟨rfl,⟨nd,rfl⟩⟩;refine⟨_,rfl,?_⟩) | (refine jgc 69 ?_;refine jgs 123 Try.func69 #[.int .i64 (wrap64 ((wrap64 ((wrap64 ((wrap64 ((wrap64 (x14_2+t167))+(Go.bits .xor .i64 (Go.bits .and .i64 x11_2 x12_2) (Go.bits .and .i64 (Go.bits .xor .i64 4294967295 x11_2) x13_2))))+(rd t148 x15_2)))+(rd t145 x15_2)))+(wrap64 (t170+(Go.bits .xor .i64 (Go.bits .xor .i64 (Go.bits .and .i64 x7_2 x8_2) (Go.bits .and .i64 x7_2 x9_2)) (Go.bits .and .i64 x8_2 x9_2))))))] ?_;(with_reducible refine(spec_Word.calls (wrap64 ((wrap64 ((wrap64 ((wrap64 ((wrap64 (x14_2+t167))+(Go.bits .xor .i64 (Go.bits .and .i64 x11_2 x12_2) (Go.bits .and .i64 (Go.bits .xor .i64 4294967295 x11_2) x13_2))))+(rd t148 x15_2)))+(rd t145 x15_2)))+(wrap64 (t170+(Go.bits .xor .i64 (Go.bits .xor .i64 (Go.bits .and .i64 x7_2 x8_2) (Go.bits .and .i64 x7_2 x9_2)) (Go.bits .and .i64 x8_2 x9_2)))))) t172 _ A37.out).mono ?_);rintro e w' ⟨rfl,⟨nd,rfl⟩⟩;refine⟨_,rfl,?_⟩))
                 go_roundg k2
                 case measure=>have:=HJ2.out;have:=HK2.out;omega
                 case rel=>exact⟨(t172),(x7_2),(x8_2),(x9_2),(t171),(x11_2),(x12_2),(x13_2),(wrap64 (x15_2+1)),jer,jer,jer,jer,jer,jer,jer,jer,jer,H',⟨by have:=HJ2.out;have:=HK2.out;omega⟩,⟨pR HO_5.out⟩,⟨pR HO_6.out⟩,⟨bq⟩⟩
                rw[if_neg c34] at H
                exact absurd H (by simp)
               rw[if_neg c33] at H
               exact absurd H (by simp)
              rw[if_neg c32] at H
              exact absurd H (by simp)
             rw[if_neg c30] at H
             have c30b0:=zbj c30
             clear c30
             obtain⟨y173,hy173⟩:∃ y_:List Int,y_=(([x7_2,x8_2,x9_2,x10_2,x11_2,x12_2,x13_2,x14_2]:List Int)):=⟨_,rfl⟩
             replace H:(spec_HashBlock.l1 k2 l0 y173 (([]:List Int)) 0)=some r:=jrw hy173 H
             have Ny173:=Aside0.mk hy173
             clear hy173
             obtain⟨y176,hy176⟩:∃ y_:List Int,y_=(([]:List Int)):=⟨_,rfl⟩
             replace H:(spec_HashBlock.l1 k2 l0 y173 y176 0)=some r:=jrw hy176 H
             have Ny176:=Aside0.mk hy176
             clear hy176
             have H':=Aside0.mk H
             clear H
             go_wp2_with (first | (refine jgd 132 ?_;(try(refine zdt (by rfl) ?_;dsimp only));refine Kd.R_lit (Kd.int .i64) _ 3 ?hg (N:=132) ?hd (xs:=([x7_2,x8_2,x9_2,x10_2,x11_2,x12_2,x13_2,x14_2]:List Int)) (inner:=[.int .i64 x7_2, .int .i64 x8_2, .int .i64 x9_2, .int .i64 x10_2, .int .i64 x11_2, .int .i64 x12_2, .int .i64 x13_2, .int .i64 x14_2]) (ok:=fun _=>True) (okp:=fun _=>True) ?hr ?hp (fun _ hk=>hk) trivial (zbk _ _) (zav _) (by simp) ?_;(case hd=>rfl);(case hg=>rfl);(case hr=>first | (go_simp;done) | (go_simp;rfl));(case hp=>exact(zan (show Kd.M (Kd.int .i64) _ _ _ x7_2 [.int .i64 x7_2] from rfl) (zan (show Kd.M (Kd.int .i64) _ _ _ x8_2 [.int .i64 x8_2] from rfl) (zan (show Kd.M (Kd.int .i64) _ _ _ x9_2 [.int .i64 x9_2] from rfl) (zan (show Kd.M (Kd.int .i64) _ _ _ x10_2 [.int .i64 x10_2] from rfl) (zan (show Kd.M (Kd.int .i64) _ _ _ x11_2 [.int .i64 x11_2] from rfl) (zan (show Kd.M (Kd.int .i64) _ _ _ x12_2 [.int .i64 x12_2] from rfl) (zan (show Kd.M (Kd.int .i64) _ _ _ x13_2 [.int .i64 x13_2] from rfl) (zan (show Kd.M (Kd.int .i64) _ _ _ x14_2 [.int .i64 x14_2] from rfl) (zeb _ _))))))))));intro v174 w41 ho42 hb hg_ hnew_;have xb_:=below_ofs bq hb;clear hg_ hnew_;(first | rw[← Ny173.out] at ho42 | (simp only[Int.reduceToNat] at ho42;rw[← Ny173.out] at ho42));have qHO_5:=Kd.R_ofs (pR HO_5.out) hb;have n0_:=Aside0.mk (zbp qHO_5 (zba ho42) hb);have qHO_6:=Kd.R_ofs (pR HO_6.out) hb;have n1_:=Aside0.mk (zbp qHO_6 (zba ho42) hb);have n2_:=Aside0.mk (zaq (zby (zby ho42 (zca qHO_5)) (zca qHO_6)) (zah xb_));have n3_:=Aside0.mk (zal xb_ hb);clear qHO_5 HO_5;clear qHO_6 HO_6;clear HB;have HO_5:=n0_;have HO_6:=n1_;have HO175:=n2_;have HB:=n3_;clear n0_ n1_ n2_ n3_;clear xb_ hb ho42) | (refine jgd 133 ?_;(try(refine zdt (by rfl) ?_;dsimp only));refine jlt 133 (Kd.int .i64) 3 ?_;intro v177 w43 ho44 hb;have xb_:=below_ofs bq hb;(first | rw[← Ny176.out] at ho44 | (simp only[Int.reduceToNat] at ho44;rw[← Ny176.out] at ho44));have qHO_5:=Kd.R_ofs (pR HO_5.out) hb;have n0_:=Aside0.mk (zbp qHO_5 (zba ho44) hb);have qHO_6:=Kd.R_ofs (pR HO_6.out) hb;have n1_:=Aside0.mk (zbp qHO_6 (zba ho44) hb);have qHO175:=Kd.R_ofs (pR HO175.out) hb;have n2_:=Aside0.mk (zbp qHO175 (zba ho44) hb);have n3_:=Aside0.mk (zaq (zby (zby (zby ho44 (zca qHO_5)) (zca qHO_6)) (zca qHO175)) (zah xb_));have n4_:=Aside0.mk (zal xb_ hb);clear qHO175 HO_5;clear qHO_5 HO_6;clear qHO_6 HO175;clear HB;have HO_5:=n0_;have HO_6:=n1_;have HO175:=n2_;have HO178:=n3_;have HB:=n4_;clear n0_ n1_ n2_ n3_ n4_;clear xb_ hb ho44))
             go_loopg [21,22] k2 (fun kq v21 v22 w'=>∃ (x21_3:List Int) (x22_3:Int),v22= .int .i64 x22_3∧Aside0 (spec_HashBlock.l1 kq l0 y173 x21_3 x22_3=some r)∧Aside0 (kq≤k2)∧Aside0 (Kd.R (Kd.int .i64) 3 w' w.heap.size (fun k_=>some k_≠(v21:Value).ownBlock) v174 y173)∧Aside0 (Kd.R (Kd.int .i64) 3 w' w.heap.size (fun k_=>some k_≠(v174:Value).ownBlock) v21 x21_3)∧Aside0 (Below w.heap.size w w'))
             case atStart=>exact⟨(y176),(0),jer,H',⟨zav _⟩,⟨by(with_reducible repeat(first | apply zat | apply zau | apply zar));exact zao HO175.out (fun _ hk=>by first | exact hk.2 | (revert hk;(try simp only[zgf]);intros;assumption))⟩,⟨by(with_reducible repeat(first | apply zat | apply zau | apply zar));exact zao HO178.out (fun _ hk=>by first | exact hk.2 | (revert hk;(try simp only[zgf]);intros;assumption))⟩,⟨bq⟩⟩
             case round=>
              clear H'
              try clear c1
              try clear p1
              try clear q1
              try clear hx1
              try clear qi1
              try clear c2
              try clear p2
              try clear c3
              try clear c5
              try clear c6
              try clear p6
              try clear c7
              try clear c10
              try clear c10b0
              try clear c10b1
              try clear c12
              try clear c12b0
              try clear c12b1
              try clear c14
              try clear c14b0
              try clear c14b1
              try clear p15
              try clear q15
              try clear hx15
              try clear qi15
              try clear c16
              try clear c16b0
              try clear c16b1
              try clear p16
              try clear q16
              try clear hx16
              try clear qi16
              try clear c18
              try clear c18b0
              try clear c18b1
              try clear c20
              try clear c20b0
              try clear c20b1
              try clear c22
              try clear c22b0
              try clear c22b1
              try clear c24
              try clear c24b0
              try clear c24b1
              try clear c30
              try clear c30b0
              try clear c32
              try clear c32b0
              try clear c33
              try clear c33b0
              try clear c34
              try clear c34b0
              try clear hx151_0
              try clear hx153_0
              try clear hx155_0
              try clear hx157_0
              try clear hx159_0
              try clear hx161_0
              try clear hx163_0
              try clear hx165_0
              try clear hx168_0
              try clear hx169_0
              try clear p1
              try clear p15
              try clear p151
              try clear p153
              try clear p155
              try clear p157
              try clear p159
              try clear p16
              try clear p161
              try clear p163
              try clear p165
              try clear p168
              try clear p169
              try clear p2
              try clear q1
              try clear q15
              try clear q151
              try clear q153
              try clear q155
              try clear q157
              try clear q159
              try clear q16
              try clear q161
              try clear q163
              try clear q165
              try clear q168
              try clear q169
              obtain⟨x21_3,x22_3,rfl,HA,HK3,HO_20,HO_21,HB⟩:=hrel
              cases gk with
              | zero=>exact absurd HA.out (by simp [spec_HashBlock.l1])
              | succ k3=>
               have H:=HA.out
               clear HA
               simp only[spec_HashBlock.l1] at H
               by_cases c45:x22_3<8
               ·rw[if_pos c45] at H
                have c45b0:=zab c45
                clear c45
                by_cases c46:0≤x22_3
                ·rw[if_pos c46] at H
                 have c46b0:=zab c46
                 clear c46
                 by_cases c47:x22_3<(y173.length:Int)
                 ·rw[if_pos c47] at H
                  have c47b0:=zab c47
                  clear c47
                  by_cases c48:x22_3<(l0.length:Int)
                  ·rw[if_pos c48] at H
                   have c48b0:=zab c48
                   clear c48
                   obtain⟨t181,A49,H⟩:=bnd H
                   obtain⟨t182,A50,H⟩:=bnd H
                   by_cases c51:x21_3.length<17592186044416
                   ·rw[if_pos c51] at H
                    have LMc51:=Aside0.mk c51
                    clear c51
                    obtain⟨y183,hy183⟩:∃ y_:List Int,y_=(x21_3++[t182]):=⟨_,rfl⟩
                    replace H:(spec_HashBlock.l1 k3 l0 y173 y183 (wrap64 (x22_3+1)))=some r:=jrw hy183 H
                    have Ny183:=Aside0.mk hy183
                    clear hy183
                    have H':=Aside0.mk H
                    clear H
                    try go_wp2
                    have n_:=jA3 (zar HO_20.out) (zar HO_21.out) (zay HB.out)
                    clear HO_20 HO_21 HB
                    obtain⟨HO_20,HO_21,HB⟩:=n_
                    obtain⟨Ao53,co53,eo53⟩:=zbb HO_20.out
                    (first | subst eo53 | (injection eo53 with f1_ f2_ f3_;have f4_:=f1_.symm;have f5_:=f3_.symm;clear f1_ f2_ f3_;subst f4_;subst f5_))
                    have p179:0≤(x22_3:Int):=zad jab
                    have q179:x22_3<(y173.length:Int):=zad jab
                    obtain⟨ad179,e179,hx179_0⟩:=zcd (zam HO_20.out).2.2 x22_3 p179 q179
                    cases e179
                    replace p179:=zas p179
                    replace q179:=zas q179
                    have p180:0≤(x22_3:Int):=zad jab
                    have q180:x22_3<(l0.length:Int):=zad jab
                    obtain⟨ad180,e180,hx180_0⟩:=zcd HR0.out x22_3 p180 q180
                    have hw180_0:=hx180_0
                    obtain rfl:ad151=ad180:=(by injection e180)
                    replace hx180_0:=jcB HB.out hx180_0
                    replace p180:=zas p180
                    replace q180:=zas q180
                    refine start_ (n:=15) (S:=fun w'=>w'.cell? (ad179.add (x22_3).toNat)=some (.int .i64 (rd y173 x22_3))∧w'.cell? (ad151.add (x22_3).toNat)=some (.int .i64 (rd l0 x22_3))) (ds:=[12,13]) #[false,false,false,false,false,false,false,false,false,false,false,false,false,false,false] (by kernel_rfl) rfl rfl ⟨hx179_0,(jcB HB.out hw180_0:)⟩ (fun hHeld=>?_);refine zgh spec_HashBlock.tab27 spec_HashBlock.bits27 (fun HT_ HW_=>?_)
                    generalize wr.drew=w52 at HO_20 HO_21 HB hx179_0 hx180_0 hHeld ⊢
                    refine pu 0 138 HT_.out ?_
                    refine pu 1 139 HT_.out ?_
                    refine pu 2 140 HT_.out ?_
                    refine pu 3 141 HT_.out ?_
                    refine pu 5 143 HT_.out ?_
                    refine pu 6 144 HT_.out ?_
                    refine pu 7 145 HT_.out ?_
                    refine tk 4 142 HT_.out HW_.out hHeld ?_
                    refine tk 8 146 HT_.out HW_.out hHeld ?_
                    refine one_ (i:=9) (N:=some 147) #[true,true,true,true,true,true,true,true,true,true,false,false,false,false,false] rfl rfl (one_of HT_.out (by kernel_rfl)) (by decide) (fun K hK=>?_)
                    refine goes_ Try.func69 (by kernel_rfl) rfl #[.int .i64 (rd l0 x22_3)] (by rfl) rfl rfl jhl ?_
                    with_reducible refine(spec_Word.calls (rd l0 x22_3) t181 _ A49.out).mono ?_
                    rintro e w' ⟨rfl,⟨nd,rfl⟩⟩
                    refine⟨_,rfl,?_⟩
                    refine hK.out _ _ ⟨hHeld.1,(jcB HB.out hw180_0:)⟩ (fun hHeld=>?_)
                    clear hK K
                    refine norm_ (a':=?_) ?_ ?_
                    rotate_left
                    ·show Act.put _ (some 147) _=_
                     simp only[Act.put,zaa,zae,zaf,i64_w,i32_w]
                     rfl
                    refine pu 10 148 HT_.out ?_
                    refine one_ (i:=11) (N:=some 149) #[true,true,true,true,true,true,true,true,true,true,true,true,false,false,false] rfl rfl (one_of HT_.out (by kernel_rfl)) (by decide) (fun K hK=>?_)
                    refine goes_ Try.func69 (by kernel_rfl) rfl #[.int .i64 (wrap64 ((rd y173 x22_3)+t181))] (by rfl) rfl rfl jhl ?_
                    with_reducible refine(spec_Word.calls (wrap64 ((rd y173 x22_3)+t181)) t182 _ A50.out).mono ?_
                    rintro e w' ⟨rfl,⟨nd,rfl⟩⟩
                    refine⟨_,rfl,?_⟩
                    refine hK.out _ _ ⟨hHeld.1,(jcB HB.out hw180_0:)⟩ (fun hHeld=>?_)
                    clear hK K
                    refine norm_ (a':=?_) ?_ ?_
                    rotate_left
                    ·show Act.put _ (some 149) _=_
                     simp only[Act.put,zaa,zae,zaf,i64_w,i32_w]
                     rfl
                    refine last_ (i:=12) (N:=some 150) #[true,true,true,true,true,true,true,true,true,true,true,true,true,false,false] rfl rfl (one_of HT_.out (by kernel_rfl)) (by decide) (fun K hK=>?_)
                    refine value_ (w1:=?_) (v:=?_) (by rfl) rfl ?_ ?_
                    rotate_left 2
                    ·go_simp
                     constructor
                     ·rfl
                     rfl
                    refine hK.out _ _ ?_
                    clear hK K
                    refine norm_ (a':=?_) ?_ ?_
                    rotate_left
                    ·show Act.put _ (some 150) _=_
                     simp only[Act.put,zaa,zae,zaf,i64_w,i32_w]
                     rfl
                    refine last_ (i:=13) (N:=some 151) #[true,true,true,true,true,true,true,true,true,true,true,true,true,true,false] rfl rfl (one_of HT_.out (by kernel_rfl)) (by decide) (fun K hK=>?_)
                    refine Kd.R_append_step (Kd.int .i64) (w0:=w) w.heap.size (by rfl) (.tmp 138) (.tmp 150) 22 3 (.int .i64 0) 8 rfl Try.underlying22 info3 rfl (by decide) (by omega) u21 x21_3 t182 [.int .i64 t182] (fun k_=>some k_≠(.slice (some ad179) y173.length co53:Value).ownBlock) (fun _=>False) rfl rfl ?aP (fun _ hk=>hk.elim) ?aF ?aO ?aB ?aS ?aL ?_
                    (case aP=>exact rfl)
                    (case aB=>exact bq)
                    (case aF=>exact(fun k_ hk=>zdv (zca (pR HO_20.out)) k_ hk))
                    (case aO=>exact(pR HO_21.out))
                    (case aS=>exact(zah bq))
                    (case aL=>have:=LMc51.out;omega)
                    intro v184 w54 ho hb hg hat
                    rw[← Ny183.out] at ho
                    have n_:=jA3 (zdu (ok:=(fun _=>True)) (by(with_reducible repeat(first | apply zat | apply zau | apply zar));exact zao HO_20.out (fun _ hk=>⟨trivial,hk⟩)) hg hat) (hb) (ho)
                    clear HO_20 HB HO_21
                    obtain⟨HO_20,HB,HO185⟩:=n_
                    clear ho hb hg hat
                    refine hK.out _ _ ?_
                    clear hK K
                    refine norm_ (a':=?_) ?_ ?_
                    rotate_left
                    ·show Act.put _ (some 151) _=_
                     simp only[Act.put,zaa,zae,zaf,i64_w,i32_w]
                     rfl
                    refine pu 14 21 HT_.out ?_
                    refine done_ (done_of HT_.out (by kernel_rfl)) ?_
                    try go_wp2
                    go_roundg k3
                    case measure=>have:=HJ2.out;have:=HK2.out;have:=HK3.out;omega
                    case rel=>exact⟨(y183),(wrap64 (x22_3+1)),jer,H',⟨by have:=HJ2.out;have:=HK2.out;have:=HK3.out;omega⟩,⟨by(with_reducible repeat(first | apply zat | apply zau | apply zar));exact zao HO_20.out (fun _ hk=>by first | exact hk.2 | (revert hk;(try simp only[zgf]);intros;assumption))⟩,⟨pR HO185.out⟩,⟨bq⟩⟩
                   rw[if_neg c51] at H
                   exact absurd H (by simp)
                  rw[if_neg c48] at H
                  exact absurd H (by simp)
                 rw[if_neg c47] at H
                 exact absurd H (by simp)
                rw[if_neg c46] at H
                exact absurd H (by simp)
               rw[if_neg c45] at H
               have c45b0:=zbj c45
               clear c45
               obtain rfl:=Option.some.inj H
               go_wp2
               go_ret
               exact⟨_,jex,tqR HO_21.out,bq⟩
          rw[if_neg c24] at H
          exact absurd H (by simp)
         rw[if_neg c22] at H
         exact absurd H (by simp)
        rw[if_neg c20] at H
        exact absurd H (by simp)
       rw[if_neg c18] at H
       exact absurd H (by simp)
      rw[if_neg c16] at H
      exact absurd H (by simp)
     rw[if_neg c14] at H
     exact absurd H (by simp)
    rw[if_neg c12] at H
    exact absurd H (by simp)
   rw[if_neg c10] at H
   exact absurd H (by simp)
end Go.Proofs.Ytienlgcjohpphaa.P
