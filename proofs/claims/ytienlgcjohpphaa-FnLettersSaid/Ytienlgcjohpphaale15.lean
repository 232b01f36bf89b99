import Derived.Test.Ytienlgcjohpphaale14
namespace Go.Proofs.Ytienlgcjohpphaa.P
open Go.RowKit Go.Proofs.YtienlgcjohpphaaW.PrintWords Go.Proofs.YtienlgcjohpphaaW.PrintLast Go.Proofs.YtienlgcjohpphaaW.PrintMore
attribute [local go_sem] zcn zco zdk zdl zce zcf zcp zcq -- for this text's walks alone
set_option linter.unusedVariables false
set_option linter.unusedSimpArgs false
set_option maxHeartbeats 8000000
set_option maxRecDepth 100000

mutual
def spec_Mac.j0:Nat→List Int→List Int→Bool→Option (List Int)
 | 0,_,_,_=>none
 | k+1,x0,x1,x16=>if x16=true then(some (([]:List Int))) else((some (([]:List Int):List Int)).bind fun y736=>(if y736.length+x0.length<140737488355328 then((some (y736++x0:List Int)).bind fun y739=>(if(y739.length:Int)>64 then((spec_Hash.f k y739).bind fun t742=>(spec_Mac.j1 k x1 t742)) else(spec_Mac.j1 k x1 y739))) else(none)))
def spec_Mac.j1:Nat→List Int→List Int→Option (List Int)
 | 0,_,_=>none
 | k+1,x1,x5=>spec_Mac.l0 k x1 x5
def spec_Mac.l0:Nat→List Int→List Int→Option (List Int)
 | 0,_,_=>none
 | k+1,x1,x5=>if(x5.length:Int)<64 then(if x5.length<140737488355328 then(spec_Mac.l0 k x1 (x5++[0])) else(none)) else(spec_Mac.l1 k x1 x5 (([]:List Int)) (([]:List Int)) 0)
def spec_Mac.l1:Nat→List Int→List Int→List Int→List Int→Int→Option (List Int)
 | 0,_,_,_,_,_=>none
 | k+1,x1,x5,x6,x7,x8=>if x8<64 then(if 0≤x8 then(if x8<(x5.length:Int) then(if x6.length<140737488355328 then(if x7.length<140737488355328 then(spec_Mac.l1 k x1 x5 (x6++[Go.bits .xor .u8 (rd x5 x8) 54]) (x7++[Go.bits .xor .u8 (rd x5 x8) 92]) (wrap64 (x8+1))) else(none)) else(none)) else(none)) else(none)) else(if x6.length+x1.length<140737488355328 then((spec_Hash.f k (x6++x1)).bind fun t765=>(if x7.length+t765.length<140737488355328 then((spec_Hash.f k (x7++t765)).bind fun t771=>(some t771)) else(none))) else(none))
end
def spec_Mac.f (k:Nat) (l0:List Int) (l1:List Int):Option (List Int):=if(l0.length:Int)>3936 then(spec_Mac.j0 k l0 l1 true) else(spec_Mac.j0 k l0 l1 (decide ((l1.length:Int)>3936)))
theorem spec_Mac.mono_l:∀ k,(∀ y0 y1 y2,LeO (spec_Mac.j0 k y0 y1 y2) (spec_Mac.j0 (k+1) y0 y1 y2))∧(∀ y0 y1,LeO (spec_Mac.j1 k y0 y1) (spec_Mac.j1 (k+1) y0 y1))∧(∀ y0 y1,LeO (spec_Mac.l0 k y0 y1) (spec_Mac.l0 (k+1) y0 y1))∧(∀ y0 y1 y2 y3 y4,LeO (spec_Mac.l1 k y0 y1 y2 y3 y4) (spec_Mac.l1 (k+1) y0 y1 y2 y3 y4))
 | 0=>⟨fun _ _ _ r h=>by simp [spec_Mac.j0] at h,fun _ _ r h=>by simp [spec_Mac.j1] at h,fun _ _ r h=>by simp [spec_Mac.l0] at h,fun _ _ _ _ _ r h=>by simp [spec_Mac.l1] at h⟩
 | k+1=>by
  obtain⟨ih0,ih1,ih2,ih3⟩:=spec_Mac.mono_l k
  refine⟨?_,?_,?_,?_⟩
  ·intro y0 y1 y2
   unfold spec_Mac.j0
   have m0:=@spec_Hash.mono
   exact mt
  ·intro y0 y1
   unfold spec_Mac.j1
   have m0:=@spec_Hash.mono
   exact mt
  ·intro y0 y1
   unfold spec_Mac.l0
   have m0:=@spec_Hash.mono
   exact mt
  intro y0 y1 y2 y3 y4
  unfold spec_Mac.l1
  have m0:=@spec_Hash.mono
  exact mt
theorem spec_Mac.mono:∀ a0 a1 k,LeO (spec_Mac.f k a0 a1) (spec_Mac.f (k+1) a0 a1):=by
 intro a0 a1 k
 obtain⟨ih0,ih1,ih2,ih3⟩:=spec_Mac.mono_l k
 unfold spec_Mac.f
 have m0:=@spec_Hash.mono
 exact mt
theorem spec_Mac.calls (k:Nat) (A0:Option Addr) (c0:Nat) (l0:List Int) (A1:Option Addr) (c1:Nat) (l1:List Int) (r:List Int) (w:World) (hr0:Kd.C (Kd.int .u8) w A0 l0.length l0) (hc0:l0.length≤c0) (hr1:Kd.C (Kd.int .u8) w A1 l1.length l1) (hc1:l1.length≤c1) (h:spec_Mac.f k l0 l1=some r):
  Calls Try.prog 37 #[.slice A0 l0.length c0, .slice A1 l1.length c1] w fun e w'=>∃ v0_:Value,e= .returned (v0_)∧Kd.R (Kd.int .u8) 5 w' w.heap.size (fun _=>True) v0_ r∧Below w.heap.size w w':=by
 have HR0:=Aside0.mk hr0
 have HC0:=Aside0.mk hc0
 clear hr0 hc0
 have HR1:=Aside0.mk hr1
 have HC1:=Aside0.mk hc1
 clear hr1 hc1
 have HB:=Aside0.mk (zbk w.heap.size w)
 have H:(if(l0.length:Int)>3936 then(spec_Mac.j0 k l0 l1 true) else(spec_Mac.j0 k l0 l1 (decide ((l1.length:Int)>3936))))=some r:=h
 clear h
 have HC3:=Aside0.mk H
 clear H
 go_enter Try.func37,Try.ntmps37
 go_upto_region 1 with (fail)
 go_cut [16] (fun v16 wc=>∃ (kq:Nat) (x16_2:Bool),v16= .bool x16_2∧Aside0 (spec_Mac.j0 kq l0 l1 x16_2=some r)∧Aside0 (kq≤k)∧Aside0 (Below w.heap.size w wc))
 case first=>
  have H:=HC3.out
  clear HC3
  by_cases c4:(l0.length:Int)>3936
  ·rw[if_pos c4] at H
   have c4b0:=zab c4
   have c4b1:decide (3936<l0.length)=true:=zab (by omega)
   clear c4
   (first | rw[c4b0] | (simp only[i64_w,i32_w];rw[c4b0]) | skip)
   have H':=Aside0.mk H
   clear H
   go_wp2
   go_meet
   case rel=>exact⟨_,(true),jer,H',⟨by first | omega | exact zav _⟩,⟨bq⟩⟩
  rw[if_neg c4] at H
  have c4b0:=zbj c4
  have c4b1:decide (3936<l0.length)=false:=zbj (by omega)
  clear c4
  (first | rw[c4b0] | (simp only[i64_w,i32_w];rw[c4b0]) | skip)
  have H':=Aside0.mk H
  clear H
  go_wp2
  go_meet
  case rel=>exact⟨_,(decide ((l1.length:Int)>3936)),jer,H',⟨by first | omega | exact zav _⟩,⟨bq⟩⟩
 case rest=>
  clear HC3
  try clear c1
  try clear p2
  try clear c3
  try clear c4
  try clear c4b0
  try clear c4b1
  obtain⟨kq,x16_2,rfl,HA,HJ2,HB⟩:=hcut
  cases kq with
  | zero=>exact absurd HA.out (by simp [spec_Mac.j0])
  | succ kj2=>
   have H:=HA.out
   clear HA
   simp only[spec_Mac.j0] at H
   by_cases c5:x16_2=true
   ·subst c5
    rw[if_pos rfl] at H
    obtain⟨y733,hy733⟩:∃ y_:List Int,y_=(([]:List Int)):=⟨_,rfl⟩
    replace H:(some y733)=some r:=jrw hy733 H
    have Ny733:=Aside0.mk hy733
    clear hy733
    obtain rfl:=Option.some.inj H
    go_wp2_with (first | (refine jgd 17 ?_;(try(refine zdt (by rfl) ?_;dsimp only));refine jlt 17 (Kd.int .u8) 5 ?_;intro v734 w6 ho7 hb;have xb_:=below_ofs bq hb;(first | rw[← Ny733.out] at ho7 | (simp only[Int.reduceToNat] at ho7;rw[← Ny733.out] at ho7));have n_:=jA2 (zaq ho7 (zah xb_)) (zal xb_ hb);clear HB;obtain⟨HO735,HB⟩:=n_;clear xb_ hb ho7))
    go_ret
    exact⟨_,jex,by(with_reducible repeat(first | apply zat | apply zau | apply zar));exact HO735.out,bq⟩
   replace c5:=zds.mpr c5
   subst c5
   rw[if_neg (show ¬(false=true) by decide)] at H
   obtain⟨y736,hy736⟩:∃ y_:List Int,y_=(([]:List Int)):=⟨_,rfl⟩
   replace H:=bto hy736 H
   have Ny736:=Aside0.mk hy736
   clear hy736
   by_cases c8:y736.length+l0.length<140737488355328
   ·rw[if_pos c8] at H
    have LMc8:=Aside0.mk c8
    clear c8
    obtain⟨y739,hy739⟩:∃ y_:List Int,y_=(y736++l0):=⟨_,rfl⟩
    replace H:=bto hy739 H
    have Ny739:=Aside0.mk hy739
    clear hy739
    have HC9:=Aside0.mk H
    clear H
    go_upto_if 23 with (first | (refine jgd 18 ?_;(try(refine zdt (by rfl) ?_;dsimp only));refine jlt 18 (Kd.int .u8) 5 ?_;intro v737 w10 ho11 hb;have xb_:=below_ofs bq hb;(first | rw[← Ny736.out] at ho11 | (simp only[Int.reduceToNat] at ho11;rw[← Ny736.out] at ho11));have n_:=jA2 (zaq ho11 (zah xb_)) (zal xb_ hb);clear HB;obtain⟨HO738,HB⟩:=n_;clear xb_ hb ho11) | ((with_reducible refine zde (b:= .append) (xs:= #[.tmp 18, .tmp 19]) rfl ?_);(try(refine zdt (by rfl) ?_;dsimp only));at_builtin;refine zdw (Kd.int .u8) (w0:=w) w.heap.size rfl (.tmp 18) (.tmp 19) 23 5 (.int .u8 0) 1 rfl Try.underlying23 info5 rfl (by decide) (by omega) v737 y736 l0 _ _ _ (fun _=>True) (fun _=>False) rfl rfl ?aO ?aR (fun _ _ h=>h) (fun _ h=>h.elim) ?aF ?aB ?aS ?aL ?_;(case aR=>exact jcs HR0.out);(case aB=>exact bq);(case aF=>exact(fun _ _=>trivial));(case aO=>exact(pR HO738.out));(case aS=>exact(zah bq));(case aL=>have:=LMc8.out;omega);intro v740 w12 ho hb hg hat;rw[← Ny739.out] at ho;have n_:=jA2 (hb) (ho);clear HB HO738;obtain⟨HB,HO741⟩:=n_;clear ho hb hg hat;obtain⟨Ao13,co13,eo13⟩:=zbb HO741.out;subst eo13))
    (try simp only[Act.put,zaa,zae,zaf])
    go_cut [5] (fun v5 wc=>∃ (kq:Nat) (x5_8:List Int),Aside0 (spec_Mac.j1 kq l1 x5_8=some r)∧Aside0 (kq≤kj2)∧Aside0 (Kd.R (Kd.int .u8) 5 wc w.heap.size (fun _=>True) v5 x5_8)∧Aside0 (Below w.heap.size w wc))
    case first=>
     have H:=HC9.out
     clear HC9
     by_cases c14:(y739.length:Int)>64
     ·rw[if_pos c14] at H
      have c14b0:=zab c14
      have c14b1:decide (64<y739.length)=true:=zab (by omega)
      clear c14
      (first | rw[c14b0] | (simp only[i64_w,i32_w];rw[c14b0]) | skip)
      obtain⟨t742,A15,H⟩:=bnd H
      have H':=Aside0.mk H
      clear H
      go_wp2_with (first | (refine jgc 24 ?_;refine jgs 25 Try.func24 #[.slice Ao13 y739.length co13] ?_;(with_reducible refine(spec_Hash.calls kj2 _ _ y739 t742 _ ?side1 ?side2 A15.out).mono ?_);(case side1=>repeat(first | exact(zam HO741.out).2.2 | (with_reducible first | apply zbs | apply zbt | apply zcg)));(case side2=>exact(zam HO741.out).2.1);rintro e w16 ⟨v743,rfl,ho0,hb⟩;refine⟨_,rfl,?_⟩;have xb_:=below_ofs bq hb;have qHO741:=Kd.R_ofs (pR HO741.out) hb;have n_:=jA3 (zbp qHO741 (zba ho0) hb) (zaq (zby ho0 (zca qHO741)) (zah xb_)) (zal xb_ hb);clear qHO741 HO741 HB;obtain⟨HO741,HO744,HB⟩:=n_;clear xb_ hb ho0))
      go_meet
      case rel=>exact⟨_,(t742),H',⟨by have:=HJ2.out;first | omega | exact zav _⟩,⟨tqR HO744.out⟩,⟨bq⟩⟩
     rw[if_neg c14] at H
     have c14b0:=zbj c14
     have c14b1:decide (64<y739.length)=false:=zbj (by omega)
     clear c14
     (first | rw[c14b0] | (simp only[i64_w,i32_w];rw[c14b0]) | skip)
     have H':=Aside0.mk H
     clear H
     go_wp2
     go_meet
     case rel=>exact⟨_,(y739),H',⟨by have:=HJ2.out;first | omega | exact zav _⟩,⟨pR HO741.out⟩,⟨bq⟩⟩
    case rest=>
     clear HC9
     try clear c1
     try clear c2
     try clear p2
     try clear c3
     try clear c4
     try clear c4b0
     try clear c4b1
     try clear c5
     try clear c8
     try clear c14
     try clear c14b0
     try clear c14b1
     try clear p2
     obtain⟨kq,x5_8,HA,HJ8,HO_5,HB⟩:=hcut
     cases kq with
     | zero=>exact absurd HA.out (by simp [spec_Mac.j1])
     | succ kj8=>
      have H:=HA.out
      clear HA
      simp only[spec_Mac.j1] at H
      have H':=Aside0.mk H
      clear H
      go_wp2
      go_loopg [5] kj8 (fun kq v5 w'=>∃ (x5_3:List Int),Aside0 (spec_Mac.l0 kq l1 x5_3=some r)∧Aside0 (kq≤kj8)∧Aside0 (Kd.R (Kd.int .u8) 5 w' w.heap.size (fun _=>True) v5 x5_3)∧Aside0 (Below w.heap.size w w'))
      case atStart=>exact⟨(x5_8),H',⟨zav _⟩,⟨pR HO_5.out⟩,⟨bq⟩⟩
      case round=>
       clear H'
       try clear c1
       try clear c2
       try clear p2
       try clear c3
       try clear c4
       try clear c4b0
       try clear c4b1
       try clear c5
       try clear c8
       try clear c14
       try clear c14b0
       try clear c14b1
       try clear p2
       obtain⟨x5_3,HA,HK3,HO_5,HB⟩:=hrel
       cases gk with
       | zero=>exact absurd HA.out (by simp [spec_Mac.l0])
       | succ k3=>
        have H:=HA.out
        clear HA
        simp only[spec_Mac.l0] at H
        by_cases c17:(x5_3.length:Int)<64
        ·rw[if_pos c17] at H
         have c17b0:=zab c17
         have c17b1:decide (x5_3.length<64)=true:=zab (by omega)
         clear c17
         by_cases c18:x5_3.length<140737488355328
         ·rw[if_pos c18] at H
          have LMc18:=Aside0.mk c18
          clear c18
          obtain⟨y745,hy745⟩:∃ y_:List Int,y_=(x5_3++[0]):=⟨_,rfl⟩
          replace H:(spec_Mac.l0 k3 l1 y745)=some r:=jrw hy745 H
          have Ny745:=Aside0.mk hy745
          clear hy745
          have H':=Aside0.mk H
          clear H
          obtain⟨Ao19,co19,eo19⟩:=zbb HO_5.out
          subst eo19
          go_wp2_with (first | ((with_reducible refine zde (b:= .append) (xs:= #[.tmp 29, .tmp 30]) rfl ?_);(try(refine zdt (by rfl) ?_;dsimp only));at_builtin;refine zfr (Kd.int .u8) (w0:=w) w.heap.size rfl (.tmp 29) (.tmp 30) 23 5 (.int .u8 0) 1 rfl Try.underlying23 info5 rfl (by decide) (by omega) (.slice Ao19 x5_3.length co19) x5_3 0 [.int .u8 0] (fun _=>True) (fun _=>False) rfl rfl ?aP (fun _ hk=>hk.elim) ?aF ?aO ?aB ?aS ?aL ?_;(case aP=>exact rfl);(case aB=>exact bq);(case aF=>exact(fun _ _=>trivial));(case aO=>exact(pR HO_5.out));(case aS=>exact(zah bq));(case aL=>have:=LMc18.out;omega);intro v746 w20 ho hb hg hat;rw[← Ny745.out] at ho;have n_:=jA2 (hb) (ho);clear HB HO_5;obtain⟨HB,HO747⟩:=n_;clear ho hb hg hat))
          go_roundg k3
          case measure=>have:=HJ2.out;have:=HJ8.out;have:=HK3.out;omega
          case rel=>exact⟨(y745),H',⟨by have:=HJ2.out;have:=HJ8.out;have:=HK3.out;omega⟩,⟨pR HO747.out⟩,⟨bq⟩⟩
         rw[if_neg c18] at H
         exact absurd H (by simp)
        rw[if_neg c17] at H
        have c17b0:=zbj c17
        have c17b1:decide (x5_3.length<64)=false:=zbj (by omega)
        clear c17
        obtain⟨y748,hy748⟩:∃ y_:List Int,y_=(([]:List Int)):=⟨_,rfl⟩
        replace H:(spec_Mac.l1 k3 l1 x5_3 y748 (([]:List Int)) 0)=some r:=jrw hy748 H
        have Ny748:=Aside0.mk hy748
        clear hy748
        obtain⟨y751,hy751⟩:∃ y_:List Int,y_=(([]:List Int)):=⟨_,rfl⟩
        replace H:(spec_Mac.l1 k3 l1 x5_3 y748 y751 0)=some r:=jrw hy751 H
        have Ny751:=Aside0.mk hy751
        clear hy751
        have H':=Aside0.mk H
        clear H
        obtain⟨Ao21,co21,eo21⟩:=zbb HO_5.out
        subst eo21
        go_wp2_with (first | (refine jgd 32 ?_;(try(refine zdt (by rfl) ?_;dsimp only));refine jlt 32 (Kd.int .u8) 5 ?_;intro v749 w22 ho23 hb;have xb_:=below_ofs bq hb;(first | rw[← Ny748.out] at ho23 | (simp only[Int.reduceToNat] at ho23;rw[← Ny748.out] at ho23));have qHO_5:=Kd.R_ofs (pR HO_5.out) hb;have n_:=jA3 (zbp qHO_5 (zba ho23) hb) (zaq (zby ho23 (zca qHO_5)) (zah xb_)) (zal xb_ hb);clear qHO_5 HO_5 HB;obtain⟨HO_5,HO750,HB⟩:=n_;clear xb_ hb ho23) | (refine jgd 33 ?_;(try(refine zdt (by rfl) ?_;dsimp only));refine jlt 33 (Kd.int .u8) 5 ?_;intro v752 w24 ho25 hb;have xb_:=below_ofs bq hb;(first | rw[← Ny751.out] at ho25 | (simp only[Int.reduceToNat] at ho25;rw[← Ny751.out] at ho25));have qHO_5:=Kd.R_ofs (pR HO_5.out) hb;have n0_:=Aside0.mk (zbp qHO_5 (zba ho25) hb);have qHO750:=Kd.R_ofs (pR HO750.out) hb;have n1_:=Aside0.mk (zbp qHO750 (zba ho25) hb);have n2_:=Aside0.mk (zaq (zby (zby ho25 (zca qHO_5)) (zca qHO750)) (zah xb_));have n3_:=Aside0.mk (zal xb_ hb);clear qHO750 HO_5;clear qHO_5 HO750;clear HB;have HO_5:=n0_;have HO750:=n1_;have HO753:=n2_;have HB:=n3_;clear n0_ n1_ n2_ n3_;clear xb_ hb ho25))
        go_loopg [6,7,8] k3 (fun kq v6 v7 v8 w'=>∃ (x6_4:List Int) (x7_4:List Int) (x8_4:Int),v8= .int .i64 x8_4∧Aside0 (spec_Mac.l1 kq l1 x5_3 x6_4 x7_4 x8_4=some r)∧Aside0 (kq≤k3)∧Aside0 (Kd.R (Kd.int .u8) 5 w' w.heap.size (fun k_=>some k_≠(v6:Value).ownBlock∧some k_≠(v7:Value).ownBlock) (.slice Ao21 x5_3.length co21) x5_3)∧Aside0 (Kd.R (Kd.int .u8) 5 w' w.heap.size (fun k_=>some k_≠((.slice Ao21 x5_3.length co21):Value).ownBlock∧some k_≠(v7:Value).ownBlock) v6 x6_4)∧Aside0 (Kd.R (Kd.int .u8) 5 w' w.heap.size (fun k_=>some k_≠((.slice Ao21 x5_3.length co21):Value).ownBlock∧some k_≠(v6:Value).ownBlock) v7 x7_4)∧Aside0 (Below w.heap.size w w'))
        case atStart=>exact⟨(y748),(y751),(0),jer,H',⟨zav _⟩,⟨by(with_reducible repeat(first | apply zat | apply zau | apply zar));exact zao HO_5.out (fun _ hk=>⟨hk.1.2,hk.2⟩)⟩,⟨by(with_reducible repeat(first | apply zat | apply zau | apply zar));exact zao HO750.out (fun _ hk=>⟨hk.1.2,hk.2⟩)⟩,⟨by(with_reducible repeat(first | apply zat | apply zau | apply zar));exact zao HO753.out (fun _ hk=>⟨hk.1.2,hk.2⟩)⟩,⟨bq⟩⟩
        case round=>
         clear H'
         try clear c1
         try clear c2
         try clear p2
         try clear c3
         try clear c4
         try clear c4b0
         try clear c4b1
         try clear c5
         try clear c8
         try clear c14
         try clear c14b0
         try clear c14b1
         try clear c17
         try clear c17b0
         try clear c17b1
         try clear c18
         try clear c24
         try clear p2
         obtain⟨x6_4,x7_4,x8_4,rfl,HA,HK4,HO_5,HO_6,HO_7,HB⟩:=hrel
         cases gk with
         | zero=>exact absurd HA.out (by simp [spec_Mac.l1])
         | succ k4=>
          have H:=HA.out
          clear HA
          simp only[spec_Mac.l1] at H
          by_cases c26:x8_4<64
          ·rw[if_pos c26] at H
           have c26b0:=zab c26
           clear c26
           by_cases c27:0≤x8_4
           ·rw[if_pos c27] at H
            have c27b0:=zab c27
            clear c27
            by_cases c28:x8_4<(x5_3.length:Int)
            ·rw[if_pos c28] at H
             have c28b0:=zab c28
             clear c28
             by_cases c29:x6_4.length<140737488355328
             ·rw[if_pos c29] at H
              have LMc29:=Aside0.mk c29
              clear c29
              obtain⟨y755,hy755⟩:∃ y_:List Int,y_=(x6_4++[Go.bits .xor .u8 (rd x5_3 x8_4) 54]):=⟨_,rfl⟩
              replace H:(if x7_4.length<140737488355328 then(spec_Mac.l1 k4 l1 x5_3 y755 (x7_4++[Go.bits .xor .u8 (rd x5_3 x8_4) 92]) (wrap64 (x8_4+1))) else(none))=some r:=jrw hy755 H
              have Ny755:=Aside0.mk hy755
              clear hy755
              by_cases c30:x7_4.length<140737488355328
              ·rw[if_pos c30] at H
               have LMc30:=Aside0.mk c30
               clear c30
               obtain⟨y759,hy759⟩:∃ y_:List Int,y_=(x7_4++[Go.bits .xor .u8 (rd x5_3 x8_4) 92]):=⟨_,rfl⟩
               replace H:(spec_Mac.l1 k4 l1 x5_3 y755 y759 (wrap64 (x8_4+1)))=some r:=jrw hy759 H
               have Ny759:=Aside0.mk hy759
               clear hy759
               have H':=Aside0.mk H
               clear H
               have p754:0≤(x8_4:Int):=zad jab
               have q754:x8_4<(x5_3.length:Int):=zad jab
               obtain⟨ad754,e754,hx754_0⟩:=zcd (zam HO_5.out).2.2 x8_4 p754 q754
               cases e754
               replace p754:=zas p754
               replace q754:=zas q754
               go_wp2_with (first | ((with_reducible refine zde (b:= .append) (xs:= #[.tmp 38, .tmp 44]) rfl ?_);(try(refine zdt (by rfl) ?_;dsimp only));at_builtin;refine zfr (Kd.int .u8) (w0:=w) w.heap.size rfl (.tmp 38) (.tmp 44) 23 5 (.int .u8 0) 1 rfl Try.underlying23 info5 rfl (by decide) (by omega) u6 x6_4 (Go.bits .xor .u8 (rd x5_3 x8_4) 54) [.int .u8 (Go.bits .xor .u8 (rd x5_3 x8_4) 54)] (fun k_=>some k_≠(.slice (some ad754) x5_3.length co21:Value).ownBlock∧some k_≠(u7:Value).ownBlock) (fun _=>False) rfl rfl ?aP (fun _ hk=>hk.elim) ?aF ?aO ?aB ?aS ?aL ?_;(case aP=>exact rfl);(case aB=>exact bq);(case aF=>exact(fun k_ hk=>⟨zdv (zca (pR HO_5.out)) k_ hk,zdv (zca (pR HO_7.out)) k_ hk⟩));(case aO=>exact(pR HO_6.out));(case aS=>exact(zah bq));(case aL=>have:=LMc29.out;omega);intro v756 w31 ho hb hg hat;rw[← Ny755.out] at ho;have n_:=jA4 (zdu (ok:=(fun k_=>some k_≠(u7:Value).ownBlock)) (by(with_reducible repeat(first | apply zat | apply zau | apply zar));exact zao HO_5.out (fun _ hk=>⟨hk.2,hk.1⟩)) hg hat) (zdu (ok:=(fun k_=>some k_≠(.slice (some ad754) x5_3.length co21:Value).ownBlock)) (pR HO_7.out) hg hat) (hb) (ho);clear HO_5 HO_7 HB HO_6;obtain⟨HO_5,HO_7,HB,HO757⟩:=n_;clear ho hb hg hat;have p758:0≤(x8_4:Int):=zad jab;have q758:x8_4<(x5_3.length:Int):=zad jab;obtain⟨ad758,e758,hx758_0⟩:=zcd (zam HO_5.out).2.2 x8_4 p758 q758;obtain rfl:ad754=ad758:=(by injection e758);replace p758:=zas p758;replace q758:=zas q758) | ((with_reducible refine zde (b:= .append) (xs:= #[.tmp 46, .tmp 52]) rfl ?_);(try(refine zdt (by rfl) ?_;dsimp only));at_builtin;refine zfr (Kd.int .u8) (w0:=w) w.heap.size rfl (.tmp 46) (.tmp 52) 23 5 (.int .u8 0) 1 rfl Try.underlying23 info5 rfl (by decide) (by omega) u7 x7_4 (Go.bits .xor .u8 (rd x5_3 x8_4) 92) [.int .u8 (Go.bits .xor .u8 (rd x5_3 x8_4) 92)] (fun k_=>some k_≠(.slice (some ad754) x5_3.length co21:Value).ownBlock∧some k_≠(v756:Value).ownBlock) (fun _=>False) rfl rfl ?aP (fun _ hk=>hk.elim) ?aF ?aO ?aB ?aS ?aL ?_;(case aP=>exact rfl);(case aB=>exact bq);(case aF=>exact(fun k_ hk=>⟨zdv (zca (pR HO_5.out)) k_ hk,zdv (zca (pR HO757.out)) k_ hk⟩));(case aO=>exact(pR HO_7.out));(case aS=>exact(zah bq));(case aL=>have:=LMc30.out;omega);intro v760 w32 ho hb hg hat;rw[← Ny759.out] at ho;have n_:=jA4 (zdu (ok:=(fun k_=>some k_≠(v756:Value).ownBlock)) (by(with_reducible repeat(first | apply zat | apply zau | apply zar));exact zao HO_5.out (fun _ hk=>⟨hk.2,hk.1⟩)) hg hat) (zdu (ok:=(fun k_=>some k_≠(.slice (some ad754) x5_3.length co21:Value).ownBlock)) (pR HO757.out) hg hat) (hb) (ho);clear HO_5 HO757 HB HO_7;obtain⟨HO_5,HO757,HB,HO761⟩:=n_;clear ho hb hg hat))
               go_roundg k4
               case measure=>have:=HJ2.out;have:=HJ8.out;have:=HK3.out;have:=HK4.out;omega
               case rel=>exact⟨(y755),(y759),(wrap64 (x8_4+1)),jer,H',⟨by have:=HJ2.out;have:=HJ8.out;have:=HK3.out;have:=HK4.out;omega⟩,⟨pR HO_5.out⟩,⟨pR HO757.out⟩,⟨pR HO761.out⟩,⟨bq⟩⟩
              rw[if_neg c30] at H
              exact absurd H (by simp)
             rw[if_neg c29] at H
             exact absurd H (by simp)
            rw[if_neg c28] at H
            exact absurd H (by simp)
           rw[if_neg c27] at H
           exact absurd H (by simp)
          rw[if_neg c26] at H
          have c26b0:=zbj c26
          clear c26
          by_cases c33:x6_4.length+l1.length<140737488355328
          ·rw[if_pos c33] at H
           have LMc33:=Aside0.mk c33
           clear c33
           obtain⟨y762,hy762⟩:∃ y_:List Int,y_=(x6_4++l1):=⟨_,rfl⟩
           replace H:((spec_Hash.f k4 y762).bind fun t765=>(if x7_4.length+t765.length<140737488355328 then((spec_Hash.f k4 (x7_4++t765)).bind fun t771=>(some t771)) else(none)))=some r:=jrw hy762 H
           have Ny762:=Aside0.mk hy762
           clear hy762
           obtain⟨t765,A34,H⟩:=bnd H
           by_cases c35:x7_4.length+t765.length<140737488355328
           ·rw[if_pos c35] at H
            have LMc35:=Aside0.mk c35
            clear c35
            obtain⟨y768,hy768⟩:∃ y_:List Int,y_=(x7_4++t765):=⟨_,rfl⟩
            replace H:((spec_Hash.f k4 y768).bind fun t771=>(some t771))=some r:=jrw hy768 H
            have Ny768:=Aside0.mk hy768
            clear hy768
            obtain⟨t771,A36,H⟩:=bnd H
            obtain rfl:=Option.some.inj H
            go_wp2_with (first | ((with_reducible refine zde (b:= .append) (xs:= #[.tmp 55, .tmp 56]) rfl ?_);(try(refine zdt (by rfl) ?_;dsimp only));at_builtin;refine zdw (Kd.int .u8) (w0:=w) w.heap.size rfl (.tmp 55) (.tmp 56) 23 5 (.int .u8 0) 1 rfl Try.underlying23 info5 rfl (by decide) (by omega) u6 x6_4 l1 _ _ _ (fun k_=>some k_≠(.slice Ao21 x5_3.length co21:Value).ownBlock∧some k_≠(u7:Value).ownBlock) (fun _=>False) rfl rfl ?aO ?aR (fun _ _ h=>h) (fun _ h=>h.elim) ?aF ?aB ?aS ?aL ?_;(case aR=>exact jcs HR1.out);(case aB=>exact bq);(case aF=>exact(fun k_ hk=>⟨zdv (zca (pR HO_5.out)) k_ hk,zdv (zca (pR HO_7.out)) k_ hk⟩));(case aO=>exact(pR HO_6.out));(case aS=>exact(zah bq));(case aL=>have:=LMc33.out;omega);intro v763 w37 ho hb hg hat;rw[← Ny762.out] at ho;have n_:=jA4 (zdu (ok:=(fun k_=>some k_≠(u7:Value).ownBlock)) (by(with_reducible repeat(first | apply zat | apply zau | apply zar));exact zao HO_5.out (fun _ hk=>⟨hk.2,hk.1⟩)) hg hat) (zdu (ok:=(fun k_=>some k_≠(.slice Ao21 x5_3.length co21:Value).ownBlock)) (pR HO_7.out) hg hat) (hb) (ho);clear HO_5 HO_7 HB HO_6;obtain⟨HO_5,HO_7,HB,HO764⟩:=n_;clear ho hb hg hat;obtain⟨Ao38,co38,eo38⟩:=zbb HO764.out;subst eo38) | (refine jgc 24 ?_;refine jgs 58 Try.func24 #[.slice Ao38 y762.length co38] ?_;(with_reducible refine(spec_Hash.calls k4 _ _ y762 t765 _ ?side1 ?side2 A34.out).mono ?_);(case side1=>repeat(first | exact(zam HO764.out).2.2 | (with_reducible first | apply zbs | apply zbt | apply zcg)));(case side2=>exact(zam HO764.out).2.1);rintro e w39 ⟨v766,rfl,ho0,hb⟩;refine⟨_,rfl,?_⟩;have xb_:=below_ofs bq hb;have qHO_5:=Kd.R_ofs (pR HO_5.out) hb;have n0_:=Aside0.mk (zbp qHO_5 (zba ho0) hb);have qHO_7:=Kd.R_ofs (pR HO_7.out) hb;have n1_:=Aside0.mk (zbp qHO_7 (zba ho0) hb);have qHO764:=Kd.R_ofs (pR HO764.out) hb;have n2_:=Aside0.mk (zbp qHO764 (zba ho0) hb);have n3_:=Aside0.mk (zaq (zby (zby (zby ho0 (zca qHO_5)) (zca qHO_7)) (zca qHO764)) (zah xb_));have n4_:=Aside0.mk (zal xb_ hb);clear qHO764 HO_5;clear qHO_5 HO_7;clear qHO_7 HO764;clear HB;have HO_5:=n0_;have HO_7:=n1_;have HO764:=n2_;have HO767:=n3_;have HB:=n4_;clear n0_ n1_ n2_ n3_ n4_;clear xb_ hb ho0;obtain⟨Ao41,co41,eo41⟩:=zbb HO767.out;subst eo41) | ((with_reducible refine zde (b:= .append) (xs:= #[.tmp 54, .tmp 58]) rfl ?_);(try(refine zdt (by rfl) ?_;dsimp only));at_builtin;refine zdw (Kd.int .u8) (w0:=w) w.heap.size rfl (.tmp 54) (.tmp 58) 23 5 (.int .u8 0) 1 rfl Try.underlying23 info5 rfl (by decide) (by omega) u7 x7_4 t765 _ _ _ (fun k_=>some k_≠(.slice Ao21 x5_3.length co21:Value).ownBlock∧some k_≠(.slice Ao38 y762.length co38:Value).ownBlock∧some k_≠(.slice Ao41 t765.length co41:Value).ownBlock) (fun _=>False) rfl rfl ?aO ?aR (fun _ _ h=>h) (fun _ h=>h.elim) ?aF ?aB ?aS ?aL ?_;(case aR=>repeat(first | exact(zam HO767.out).2.2 | (with_reducible first | apply zbs | apply zbt | apply zcg)));(case aB=>exact bq);(case aF=>exact(fun k_ hk=>⟨zdv (zca (pR HO_5.out)) k_ hk,zdv (zca (pR HO764.out)) k_ hk,zdv (zca (pR HO767.out)) k_ hk⟩));(case aO=>exact(by(with_reducible repeat(first | apply zat | apply zau | apply zar));exact zao HO_7.out (fun _ hk=>⟨hk.1.1,⟨hk.1.2,hk.2⟩⟩)));(case aS=>exact(zah bq));(case aL=>have:=LMc35.out;omega);intro v769 w40 ho hb hg hat;rw[← Ny768.out] at ho;have n_:=jA5 (zdu (ok:=(fun k_=>some k_≠(.slice Ao38 y762.length co38:Value).ownBlock∧some k_≠(.slice Ao41 t765.length co41:Value).ownBlock)) (by(with_reducible repeat(first | apply zat | apply zau | apply zar));exact zao HO_5.out (fun _ hk=>⟨⟨hk.1.2,hk.2⟩,hk.1.1⟩)) hg hat) (zdu (ok:=(fun k_=>some k_≠(.slice Ao21 x5_3.length co21:Value).ownBlock∧some k_≠(.slice Ao41 t765.length co41:Value).ownBlock)) (by(with_reducible repeat(first | apply zat | apply zau | apply zar));exact zao HO764.out (fun _ hk=>⟨⟨hk.1.1,hk.2⟩,hk.1.2⟩)) hg hat) (zdu (ok:=(fun k_=>some k_≠(.slice Ao21 x5_3.length co21:Value).ownBlock∧some k_≠(.slice Ao38 y762.length co38:Value).ownBlock)) (by(with_reducible repeat(first | apply zat | apply zau | apply zar));exact zao HO767.out (fun _ hk=>⟨⟨hk.1.1.2,hk.2⟩,hk.1.2⟩)) hg hat) (hb) (ho);clear HO_5 HO764 HO767 HB HO_7;obtain⟨HO_5,HO764,HO767,HB,HO770⟩:=n_;clear ho hb hg hat;obtain⟨Ao42,co42,eo42⟩:=zbb HO770.out;subst eo42) | (refine jgc 24 ?_;refine jgs 60 Try.func24 #[.slice Ao42 y768.length co42] ?_;(with_reducible refine(spec_Hash.calls k4 _ _ y768 t771 _ ?side1 ?side2 A36.out).mono ?_);(case side1=>repeat(first | exact(zam HO770.out).2.2 | (with_reducible first | apply zbs | apply zbt | apply zcg)));(case side2=>exact(zam HO770.out).2.1);rintro e w43 ⟨v772,rfl,ho0,hb⟩;refine⟨_,rfl,?_⟩;have xb_:=below_ofs bq hb;have qHO_5:=Kd.R_ofs (pR HO_5.out) hb;have n0_:=Aside0.mk (zbp qHO_5 (zba ho0) hb);have qHO764:=Kd.R_ofs (pR HO764.out) hb;have n1_:=Aside0.mk (zbp qHO764 (zba ho0) hb);have qHO767:=Kd.R_ofs (pR HO767.out) hb;have n2_:=Aside0.mk (zbp qHO767 (zba ho0) hb);have qHO770:=Kd.R_ofs (pR HO770.out) hb;have n3_:=Aside0.mk (zbp qHO770 (zba ho0) hb);have n4_:=Aside0.mk (zaq (zby (zby (zby (zby ho0 (zca qHO_5)) (zca qHO764)) (zca qHO767)) (zca qHO770)) (zah xb_));have n5_:=Aside0.mk (zal xb_ hb);clear qHO764 HO_5;clear qHO767 HO764;clear qHO770 HO767;clear qHO_5 HO770;clear HB;have HO_5:=n0_;have HO764:=n1_;have HO767:=n2_;have HO770:=n3_;have HO773:=n4_;have HB:=n5_;clear n0_ n1_ n2_ n3_ n4_ n5_;clear xb_ hb ho0))
            go_ret
            exact⟨_,jex,tqR HO773.out,bq⟩
           rw[if_neg c35] at H
           exact absurd H (by simp)
          rw[if_neg c33] at H
          exact absurd H (by simp)
   rw[if_neg c8] at H
   exact absurd H (by simp)
def spec_Extract.f (k:Nat) (l0:List Int) (l1:List Int):Option (List Int):=if(l0.length:Int)=0 then(if 32≤281474976710656 then((spec_Mac.f k (List.replicate 32 0) l1).bind fun t842=>(some t842)) else(none)) else((spec_Mac.f k l0 l1).bind fun t845=>(some t845))
theorem spec_Extract.mono:∀ a0 a1 k,LeO (spec_Extract.f k a0 a1) (spec_Extract.f (k+1) a0 a1):=by
 intro a0 a1 k
 unfold spec_Extract.f
 have m0:=@spec_Mac.mono
 exact mt
theorem spec_Extract.wk {P:Prop} (h:P:=by
 go_enter Try.func39,Try.ntmps39
 go_wp2_with (first | (refine jgd 8 ?_;refine Kd.R_make (Kd.int .u8) _ 5 rfl (N:=8) rfl 23 _ _ rfl 32 rfl rfl Try.underlying23 (.int .u8 0) 1 info5 rfl (by decide) (by omega) 0 (ok:=fun _=>True) (okp:=fun _=>True) rfl (fun _ hk=>hk) trivial (by omega) (by omega) (zbk _ _) (zav _) ?_;intro v840 w_ ho7 hb hg_ hnew_;have xb_:=below_ofs bq hb;clear hg_ hnew_;(first | rw[← Ny839.out] at ho7 | (simp only[Int.reduceToNat] at ho7;rw[← Ny839.out] at ho7));have n_:=jA2 (zaq ho7 (zah xb_)) (zal xb_ hb);clear HB;obtain⟨HO841,HB⟩:=n_;clear xb_ hb ho7;obtain⟨Ao8,co8,eo8⟩:=zbb HO841.out;subst eo8) | (refine jgc 37 ?_;refine jgs 10 Try.func37 #[.slice Ao8 y839.length co8, .slice A1 l1.length c1] ?_;(with_reducible refine(spec_Mac.calls k _ _ y839 _ _ l1 t842 _ ?side1 ?side2 ?side3 ?side4 A5.out).mono ?_);(case side1=>repeat(first | exact(zam HO841.out).2.2 | (with_reducible first | apply zbs | apply zbt | apply zcg)));(case side2=>exact(zam HO841.out).2.1);(case side3=>exact jcs HR1.out);(case side4=>exact HC1.out);rintro e w_ ⟨v843,rfl,ho0,hb⟩;refine⟨_,rfl,?_⟩;have xb_:=below_ofs bq hb;have qHO841:=Kd.R_ofs (pR HO841.out) hb;have n_:=jA3 (zbp qHO841 (zba ho0) hb) (zaq (zby ho0 (zca qHO841)) (zah xb_)) (zal xb_ hb);clear qHO841 HO841 HB;obtain⟨HO841,HO844,HB⟩:=n_;clear xb_ hb ho0) | (refine jgc 37 ?_;refine jgs 13 Try.func37 #[.slice A0 l0.length c0, .slice A1 l1.length c1] ?_;(with_reducible refine(spec_Mac.calls k _ _ l0 _ _ l1 t845 _ ?side1 ?side2 ?side3 ?side4 A10.out).mono ?_);(case side1=>repeat(first | exact HR0.out | (with_reducible first | apply zbs | apply zbt | apply zcg)));(case side2=>exact HC0.out);(case side3=>repeat(first | exact HR1.out | (with_reducible first | apply zbs | apply zbt | apply zcg)));(case side4=>exact HC1.out);rintro e w_ ⟨v846,rfl,ho0,hb⟩;refine⟨_,rfl,?_⟩;have xb_:=below_ofs bq hb;have n_:=jA2 (zaq ho0 (zah xb_)) (zal xb_ hb);clear HB;obtain⟨HO847,HB⟩:=n_;clear xb_ hb ho0))
 go_ret
 first | (exact⟨_,jex,tqR HO844.out,bq⟩) | (exact⟨_,jex,by(with_reducible repeat(first | apply zat | apply zau | apply zar));exact HO847.out,bq⟩)):P:=h
theorem spec_Extract.calls (k:Nat) (A0:Option Addr) (c0:Nat) (l0:List Int) (A1:Option Addr) (c1:Nat) (l1:List Int) (r:List Int) (w:World) (hr0:Kd.C (Kd.int .u8) w A0 l0.length l0) (hc0:l0.length≤c0) (hr1:Kd.C (Kd.int .u8) w A1 l1.length l1) (hc1:l1.length≤c1) (h:spec_Extract.f k l0 l1=some r):
  Calls Try.prog 39 #[.slice A0 l0.length c0, .slice A1 l1.length c1] w fun e w'=>∃ v0_:Value,e= .returned (v0_)∧Kd.R (Kd.int .u8) 5 w' w.heap.size (fun _=>True) v0_ r∧Below w.heap.size w w':=by
 have HR0:=Aside0.mk hr0
 have HC0:=Aside0.mk hc0
 clear hr0 hc0
 have HR1:=Aside0.mk hr1
 have HC1:=Aside0.mk hc1
 clear hr1 hc1
 have HB:=Aside0.mk (zbk w.heap.size w)
 have H:(if(l0.length:Int)=0 then(if 32≤281474976710656 then((spec_Mac.f k (List.replicate 32 0) l1).bind fun t842=>(some t842)) else(none)) else((spec_Mac.f k l0 l1).bind fun t845=>(some t845)))=some r:=h
 clear h
 by_cases c3:(l0.length:Int)=0
 ·rw[if_pos c3] at H
  have c3b0:=beqT c3
  have c3b1:=zdm.mpr c3
  clear c3
  by_cases c4:32≤281474976710656
  ·rw[if_pos c4] at H
   have c4b0:=zas c4
   have c4b1:=zab c4
   clear c4
   obtain⟨y839,hy839⟩:∃ y_:List Int,y_=(List.replicate 32 0):=⟨_,rfl⟩
   replace H:((spec_Mac.f k y839 l1).bind fun t842=>(some t842))=some r:=jrw hy839 H
   have Ny839:=Aside0.mk hy839
   clear hy839
   obtain⟨t842,A5,H⟩:=bnd H
   obtain rfl:=Option.some.inj H
   exact spec_Extract.wk
  rw[if_neg c4] at H
  exact absurd H (by simp)
 rw[if_neg c3] at H
 have c3b0:=zcl.mpr c3
 have c3b1:=zez.mpr c3
 have c3b2:¬(l0=[]):=fun h_=>c3 (by rw[h_];rfl)
 obtain⟨t845,A10,H⟩:=bnd H
 obtain rfl:=Option.some.inj H
 exact spec_Extract.wk
end Go.Proofs.Ytienlgcjohpphaa.P
