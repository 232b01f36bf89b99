import Derived.Test.Ytienlgcjohpphaale15
namespace Go.Proofs.Ytienlgcjohpphaa.P
open Go.RowKit Go.Proofs.YtienlgcjohpphaaW.PrintWords Go.Proofs.YtienlgcjohpphaaW.PrintLast Go.Proofs.YtienlgcjohpphaaW.PrintMore
attribute [local go_sem] zcn zco zdk zdl zce zcf zcp zcq -- for this text's walks alone
set_option linter.unusedVariables false
set_option linter.unusedSimpArgs false
set_option maxHeartbeats 8000000
set_option maxRecDepth 100000

mutual
def spec_Expand.j0:Nat→List Int→List Int→Int→List Int→Bool→Option (List Int)
 | 0,_,_,_,_,_=>none
 | k+1,x0,x1,x2,x7,x24=>if x24=true then(some x7) else(spec_Expand.l0 k x0 x1 x2 x7 (([]:List Int)) 1)
def spec_Expand.l0:Nat→List Int→List Int→Int→List Int→List Int→Int→Option (List Int)
 | 0,_,_,_,_,_,_=>none
 | k+1,x0,x1,x2,x7,x8,x9=>if(x7.length:Int)<x2 then((some (([]:List Int):List Int)).bind fun y956=>(if y956.length+x8.length<140737488355328 then((some (y956++x8:List Int)).bind fun y959=>(if y959.length+x1.length<140737488355328 then((some (y959++x1:List Int)).bind fun y962=>(if y962.length<140737488355328 then((spec_Mac.f k x0 (y962++[(x9) % 256])).bind fun t968=>(if x7.length+t968.length<140737488355328 then(spec_Expand.l0 k x0 x1 x2 (x7++t968) t968 (wrap64 (x9+1))) else(none))) else(none))) else(none))) else(none))) else((some (([]:List Int):List Int)).bind fun y974=>(if 0≤x2 then(if x2≤(x7.length:Int) then((some (x7.take (x2:Int).toNat:List Int)).bind fun y977=>(if y974.length+y977.length<140737488355328 then(some (y974++y977)) else(none))) else(none)) else(none)))
end
def spec_Expand.f (k:Nat) (l0:List Int) (l1:List Int) (a2:Int):Option (List Int):=(some (([]:List Int):List Int)).bind fun y949=>((spec_l1In.f a2 1 8160).bind fun t952=>(if t952=true then(if(l1.length:Int)>400 then(spec_Expand.j0 k l0 l1 a2 y949 true) else(spec_Expand.j0 k l0 l1 a2 y949 (decide ((l0.length:Int)>400)))) else(spec_Expand.j0 k l0 l1 a2 y949 true)))
theorem spec_Expand.mono_l:∀ k,(∀ y0 y1 y2 y3 y4,LeO (spec_Expand.j0 k y0 y1 y2 y3 y4) (spec_Expand.j0 (k+1) y0 y1 y2 y3 y4))∧(∀ y0 y1 y2 y3 y4 y5,LeO (spec_Expand.l0 k y0 y1 y2 y3 y4 y5) (spec_Expand.l0 (k+1) y0 y1 y2 y3 y4 y5))
 | 0=>⟨fun _ _ _ _ _ r h=>by simp [spec_Expand.j0] at h,fun _ _ _ _ _ _ r h=>by simp [spec_Expand.l0] at h⟩
 | k+1=>by
  obtain⟨ih0,ih1⟩:=spec_Expand.mono_l k
  refine⟨?_,?_⟩
  ·intro y0 y1 y2 y3 y4
   unfold spec_Expand.j0
   have m0:=@spec_Mac.mono
   exact mt
  intro y0 y1 y2 y3 y4 y5
  unfold spec_Expand.l0
  have m0:=@spec_Mac.mono
  exact mt
theorem spec_Expand.mono:∀ a0 a1 a2 k,LeO (spec_Expand.f k a0 a1 a2) (spec_Expand.f (k+1) a0 a1 a2):=by
 intro a0 a1 a2 k
 obtain⟨ih0,ih1⟩:=spec_Expand.mono_l k
 unfold spec_Expand.f
 have m0:=@spec_Mac.mono
 exact mt
theorem spec_Expand.calls (k:Nat) (A0:Option Addr) (c0:Nat) (l0:List Int) (A1:Option Addr) (c1:Nat) (l1:List Int) (a2:Int) (r:List Int) (w:World) (hr0:Kd.C (Kd.int .u8) w A0 l0.length l0) (hc0:l0.length≤c0) (hr1:Kd.C (Kd.int .u8) w A1 l1.length l1) (hc1:l1.length≤c1) (h:spec_Expand.f k l0 l1 a2=some r):
  Calls Try.prog 43 #[.slice A0 l0.length c0, .slice A1 l1.length c1, .int .i64 a2] w fun e w'=>∃ v0_:Value,e= .returned (v0_)∧Kd.R (Kd.int .u8) 5 w' w.heap.size (fun _=>True) v0_ r∧Below w.heap.size w w':=by
 have HR0:=Aside0.mk hr0
 have HC0:=Aside0.mk hc0
 clear hr0 hc0
 have HR1:=Aside0.mk hr1
 have HC1:=Aside0.mk hc1
 clear hr1 hc1
 have HB:=Aside0.mk (zbk w.heap.size w)
 have H:((some (([]:List Int):List Int)).bind fun y949=>((spec_l1In.f a2 1 8160).bind fun t952=>(if t952=true then(if(l1.length:Int)>400 then(spec_Expand.j0 k l0 l1 a2 y949 true) else(spec_Expand.j0 k l0 l1 a2 y949 (decide ((l0.length:Int)>400)))) else(spec_Expand.j0 k l0 l1 a2 y949 true))))=some r:=h
 clear h
 obtain⟨y949,hy949⟩:∃ y_:List Int,y_=(([]:List Int)):=⟨_,rfl⟩
 replace H:=bto hy949 H
 have Ny949:=Aside0.mk hy949
 clear hy949
 have HC4:=Aside0.mk H
 clear H
 go_enter Try.func43,Try.ntmps43
 go_upto_region 2 with (first | (refine jgd 11 ?_;(try(refine zdt (by rfl) ?_;dsimp only));refine jlt 11 (Kd.int .u8) 5 ?_;intro v950 w5 ho6 hb;have xb_:=below_ofs bq hb;(first | rw[← Ny949.out] at ho6 | (simp only[Int.reduceToNat] at ho6;rw[← Ny949.out] at ho6));have n_:=jA2 (zaq ho6 (zah xb_)) (zal xb_ hb);clear HB;obtain⟨HO951,HB⟩:=n_;clear xb_ hb ho6))
 (try simp only[Act.put,zaa,zae,zaf])
 go_cut [24] (fun v24 wc=>∃ (kq:Nat) (x24_3:Bool),v24= .bool x24_3∧Aside0 (spec_Expand.j0 kq l0 l1 a2 y949 x24_3=some r)∧Aside0 (kq≤k)∧Aside0 (Kd.R (Kd.int .u8) 5 wc w.heap.size (fun _=>True) v950 y949)∧Aside0 (Below w.heap.size w wc))
 case first=>
  have H:=HC4.out
  clear HC4
  obtain⟨t952,A7,H⟩:=bnd H
  by_cases c8:t952=true
  ·subst c8
   rw[if_pos rfl] at H
   by_cases c9:(l1.length:Int)>400
   ·rw[if_pos c9] at H
    have c9b0:=zab c9
    have c9b1:decide (400<l1.length)=true:=zab (by omega)
    clear c9
    (first | rw[c9b0] | (simp only[i64_w,i32_w];rw[c9b0]) | skip)
    have H':=Aside0.mk H
    clear H
    go_wp2_with (first | (refine jgc 89 ?_;refine jgs 13 Try.func89 #[.int .i64 a2, .int .i64 1, .int .i64 8160] ?_;(with_reducible refine(spec_l1In.calls a2 1 8160 true _ A7.out).mono ?_);rintro e w' ⟨rfl,⟨nd,rfl⟩⟩;refine⟨_,rfl,?_⟩))
    go_meet
    case rel=>exact⟨_,(true),jer,H',⟨by first | omega | exact zav _⟩,⟨pR HO951.out⟩,⟨bq⟩⟩
   rw[if_neg c9] at H
   have c9b0:=zbj c9
   have c9b1:decide (400<l1.length)=false:=zbj (by omega)
   clear c9
   (first | rw[c9b0] | (simp only[i64_w,i32_w];rw[c9b0]) | skip)
   have H':=Aside0.mk H
   clear H
   go_wp2_with (first | (refine jgc 89 ?_;refine jgs 13 Try.func89 #[.int .i64 a2, .int .i64 1, .int .i64 8160] ?_;(with_reducible refine(spec_l1In.calls a2 1 8160 true _ A7.out).mono ?_);rintro e w' ⟨rfl,⟨nd,rfl⟩⟩;refine⟨_,rfl,?_⟩))
   go_meet
   case rel=>exact⟨_,(decide ((l0.length:Int)>400)),jer,H',⟨by first | omega | exact zav _⟩,⟨pR HO951.out⟩,⟨bq⟩⟩
  replace c8:=zds.mpr c8
  subst c8
  rw[if_neg (show ¬(false=true) by decide)] at H
  have H':=Aside0.mk H
  clear H
  go_wp2_with (first | (refine jgc 89 ?_;refine jgs 13 Try.func89 #[.int .i64 a2, .int .i64 1, .int .i64 8160] ?_;(with_reducible refine(spec_l1In.calls a2 1 8160 false _ A7.out).mono ?_);rintro e w' ⟨rfl,⟨nd,rfl⟩⟩;refine⟨_,rfl,?_⟩))
  go_meet
  case rel=>exact⟨_,(true),jer,H',⟨by first | omega | exact zav _⟩,⟨pR HO951.out⟩,⟨bq⟩⟩
 case rest=>
  clear HC4
  try clear c1
  try clear p2
  try clear c4
  try clear c8
  try clear c9
  try clear c9b0
  try clear c9b1
  obtain⟨kq,x24_3,rfl,HA,HJ3,HO_7,HB⟩:=hcut
  cases kq with
  | zero=>exact absurd HA.out (by simp [spec_Expand.j0])
  | succ kj3=>
   have H:=HA.out
   clear HA
   simp only[spec_Expand.j0] at H
   by_cases c10:x24_3=true
   ·subst c10
    rw[if_pos rfl] at H
    obtain rfl:=Option.some.inj H
    go_wp2
    go_ret
    exact⟨_,jex,by(with_reducible repeat(first | apply zat | apply zau | apply zar));exact HO_7.out,bq⟩
   replace c10:=zds.mpr c10
   subst c10
   rw[if_neg (show ¬(false=true) by decide)] at H
   obtain⟨y953,hy953⟩:∃ y_:List Int,y_=(([]:List Int)):=⟨_,rfl⟩
   replace H:(spec_Expand.l0 kj3 l0 l1 a2 y949 y953 1)=some r:=jrw hy953 H
   have Ny953:=Aside0.mk hy953
   clear hy953
   have H':=Aside0.mk H
   clear H
   go_wp2_with (first | (refine jgd 26 ?_;(try(refine zdt (by rfl) ?_;dsimp only));refine jlt 26 (Kd.int .u8) 5 ?_;intro v954 w11 ho12 hb;have xb_:=below_ofs bq hb;(first | rw[← Ny953.out] at ho12 | (simp only[Int.reduceToNat] at ho12;rw[← Ny953.out] at ho12));have qHO_7:=Kd.R_ofs (pR HO_7.out) hb;have n_:=jA3 (zbp qHO_7 (zba ho12) hb) (zaq (zby ho12 (zca qHO_7)) (zah xb_)) (zal xb_ hb);clear qHO_7 HO_7 HB;obtain⟨HO_7,HO955,HB⟩:=n_;clear xb_ hb ho12))
   go_loopg [7,8,9] kj3 (fun kq v7 v8 v9 w'=>∃ (x7_2:List Int) (x8_2:List Int) (x9_2:Int),v9= .int .i64 x9_2∧Aside0 (spec_Expand.l0 kq l0 l1 a2 x7_2 x8_2 x9_2=some r)∧Aside0 (kq≤kj3)∧Aside0 (Kd.R (Kd.int .u8) 5 w' w.heap.size (fun k_=>some k_≠(v8:Value).ownBlock) v7 x7_2)∧Aside0 (Kd.R (Kd.int .u8) 5 w' w.heap.size (fun k_=>some k_≠(v7:Value).ownBlock) v8 x8_2)∧Aside0 (Below w.heap.size w w'))
   case atStart=>exact⟨(y949),(y953),(1),jer,H',⟨zav _⟩,⟨by(with_reducible repeat(first | apply zat | apply zau | apply zar));exact zao HO_7.out (fun _ hk=>hk.2)⟩,⟨by(with_reducible repeat(first | apply zat | apply zau | apply zar));exact zao HO955.out (fun _ hk=>hk.2)⟩,⟨bq⟩⟩
   case round=>
    clear H'
    try clear c1
    try clear p2
    try clear c4
    try clear c8
    try clear c9
    try clear c9b0
    try clear c9b1
    try clear c10
    try clear p2
    obtain⟨x7_2,x8_2,x9_2,rfl,HA,HK2,HO_7,HO_8,HB⟩:=hrel
    cases gk with
    | zero=>exact absurd HA.out (by simp [spec_Expand.l0])
    | succ k2=>
     have H:=HA.out
     clear HA
     simp only[spec_Expand.l0] at H
     by_cases c13:(x7_2.length:Int)<a2
     ·rw[if_pos c13] at H
      have c13b0:=zab c13
      clear c13
      obtain⟨y956,hy956⟩:∃ y_:List Int,y_=(([]:List Int)):=⟨_,rfl⟩
      replace H:=bto hy956 H
      have Ny956:=Aside0.mk hy956
      clear hy956
      by_cases c14:y956.length+x8_2.length<140737488355328
      ·rw[if_pos c14] at H
       have LMc14:=Aside0.mk c14
       clear c14
       obtain⟨y959,hy959⟩:∃ y_:List Int,y_=(y956++x8_2):=⟨_,rfl⟩
       replace H:=bto hy959 H
       have Ny959:=Aside0.mk hy959
       clear hy959
       by_cases c15:y959.length+l1.length<140737488355328
       ·rw[if_pos c15] at H
        have LMc15:=Aside0.mk c15
        clear c15
        obtain⟨y962,hy962⟩:∃ y_:List Int,y_=(y959++l1):=⟨_,rfl⟩
        replace H:=bto hy962 H
        have Ny962:=Aside0.mk hy962
        clear hy962
        by_cases c16:y962.length<140737488355328
        ·rw[if_pos c16] at H
         have LMc16:=Aside0.mk c16
         clear c16
         obtain⟨y965,hy965⟩:∃ y_:List Int,y_=(y962++[(x9_2) % 256]):=⟨_,rfl⟩
         replace H:((spec_Mac.f k2 l0 y965).bind fun t968=>(if x7_2.length+t968.length<140737488355328 then(spec_Expand.l0 k2 l0 l1 a2 (x7_2++t968) t968 (wrap64 (x9_2+1))) else(none)))=some r:=jrw hy965 H
         have Ny965:=Aside0.mk hy965
         clear hy965
         obtain⟨t968,A17,H⟩:=bnd H
         by_cases c18:x7_2.length+t968.length<140737488355328
         ·rw[if_pos c18] at H
          have LMc18:=Aside0.mk c18
          clear c18
          obtain⟨y971,hy971⟩:∃ y_:List Int,y_=(x7_2++t968):=⟨_,rfl⟩
          replace H:(spec_Expand.l0 k2 l0 l1 a2 y971 t968 (wrap64 (x9_2+1)))=some r:=jrw hy971 H
          have Ny971:=Aside0.mk hy971
          clear hy971
          have H':=Aside0.mk H
          clear H
          obtain⟨Ao19,co19,eo19⟩:=zbb HO_7.out
          subst eo19
          go_wp2_with (first | (refine jgd 33 ?_;(try(refine zdt (by rfl) ?_;dsimp only));refine jlt 33 (Kd.int .u8) 5 ?_;intro v957 w20 ho21 hb;have xb_:=below_ofs bq hb;(first | rw[← Ny956.out] at ho21 | (simp only[Int.reduceToNat] at ho21;rw[← Ny956.out] at ho21));have qHO_7:=Kd.R_ofs (pR HO_7.out) hb;have n0_:=Aside0.mk (zbp qHO_7 (zba ho21) hb);have qHO_8:=Kd.R_ofs (pR HO_8.out) hb;have n1_:=Aside0.mk (zbp qHO_8 (zba ho21) hb);have n2_:=Aside0.mk (zaq (zby (zby ho21 (zca qHO_7)) (zca qHO_8)) (zah xb_));have n3_:=Aside0.mk (zal xb_ hb);clear qHO_7 HO_7;clear qHO_8 HO_8;clear HB;have HO_7:=n0_;have HO_8:=n1_;have HO958:=n2_;have HB:=n3_;clear n0_ n1_ n2_ n3_;clear xb_ hb ho21;obtain⟨Ao23,co23,eo23⟩:=zbb HO_8.out;subst eo23) | ((with_reducible refine zde (b:= .append) (xs:= #[.tmp 33, .tmp 34]) rfl ?_);(try(refine zdt (by rfl) ?_;dsimp only));at_builtin;refine zdw (Kd.int .u8) (w0:=w) w.heap.size rfl (.tmp 33) (.tmp 34) 23 5 (.int .u8 0) 1 rfl Try.underlying23 info5 rfl (by decide) (by omega) v957 y956 x8_2 _ _ _ (fun k_=>some k_≠(.slice Ao19 x7_2.length co19:Value).ownBlock∧some k_≠(.slice Ao23 x8_2.length co23:Value).ownBlock) (fun _=>False) rfl rfl ?aO ?aR (fun _ _ h=>h) (fun _ h=>h.elim) ?aF ?aB ?aS ?aL ?_;(case aR=>repeat(first | exact(zam HO_8.out).2.2 | (with_reducible first | apply zbs | apply zbt | apply zcg)));(case aB=>exact bq);(case aF=>exact(fun k_ hk=>⟨zdv (zca (pR HO_7.out)) k_ hk,zdv (zca (pR HO_8.out)) k_ hk⟩));(case aO=>exact(by(with_reducible repeat(first | apply zat | apply zau | apply zar));exact zao HO958.out (fun _ hk=>⟨hk.1.2,hk.2⟩)));(case aS=>exact(zah bq));(case aL=>have:=LMc14.out;omega);intro v960 w22 ho hb hg hat;rw[← Ny959.out] at ho;have n_:=jA4 (zdu (ok:=(fun k_=>some k_≠(.slice Ao23 x8_2.length co23:Value).ownBlock)) (pR HO_7.out) hg hat) (zdu (ok:=(fun k_=>some k_≠(.slice Ao19 x7_2.length co19:Value).ownBlock)) (pR HO_8.out) hg hat) (hb) (ho);clear HO_7 HO_8 HB HO958;obtain⟨HO_7,HO_8,HB,HO961⟩:=n_;clear ho hb hg hat) | ((with_reducible refine zde (b:= .append) (xs:= #[.tmp 35, .tmp 36]) rfl ?_);(try(refine zdt (by rfl) ?_;dsimp only));at_builtin;refine zdw (Kd.int .u8) (w0:=w) w.heap.size rfl (.tmp 35) (.tmp 36) 23 5 (.int .u8 0) 1 rfl Try.underlying23 info5 rfl (by decide) (by omega) v960 y959 l1 _ _ _ (fun k_=>some k_≠(.slice Ao19 x7_2.length co19:Value).ownBlock∧some k_≠(.slice Ao23 x8_2.length co23:Value).ownBlock) (fun _=>False) rfl rfl ?aO ?aR (fun _ _ h=>h) (fun _ h=>h.elim) ?aF ?aB ?aS ?aL ?_;(case aR=>exact jcs HR1.out);(case aB=>exact bq);(case aF=>exact(fun k_ hk=>⟨zdv (zca (pR HO_7.out)) k_ hk,zdv (zca (pR HO_8.out)) k_ hk⟩));(case aO=>exact(pR HO961.out));(case aS=>exact(zah bq));(case aL=>have:=LMc15.out;omega);intro v963 w24 ho hb hg hat;rw[← Ny962.out] at ho;have n_:=jA4 (zdu (ok:=(fun k_=>some k_≠(.slice Ao23 x8_2.length co23:Value).ownBlock)) (pR HO_7.out) hg hat) (zdu (ok:=(fun k_=>some k_≠(.slice Ao19 x7_2.length co19:Value).ownBlock)) (pR HO_8.out) hg hat) (hb) (ho);clear HO_7 HO_8 HB HO961;obtain⟨HO_7,HO_8,HB,HO964⟩:=n_;clear ho hb hg hat) | ((with_reducible refine zde (b:= .append) (xs:= #[.tmp 39, .tmp 42]) rfl ?_);(try(refine zdt (by rfl) ?_;dsimp only));at_builtin;refine zfr (Kd.int .u8) (w0:=w) w.heap.size rfl (.tmp 39) (.tmp 42) 23 5 (.int .u8 0) 1 rfl Try.underlying23 info5 rfl (by decide) (by omega) v963 y962 ((x9_2) % 256) [.int .u8 ((x9_2) % 256)] (fun k_=>some k_≠(.slice Ao19 x7_2.length co19:Value).ownBlock∧some k_≠(.slice Ao23 x8_2.length co23:Value).ownBlock) (fun _=>False) rfl rfl ?aP (fun _ hk=>hk.elim) ?aF ?aO ?aB ?aS ?aL ?_;(case aP=>exact rfl);(case aB=>exact bq);(case aF=>exact(fun k_ hk=>⟨zdv (zca (pR HO_7.out)) k_ hk,zdv (zca (pR HO_8.out)) k_ hk⟩));(case aO=>exact(pR HO964.out));(case aS=>exact(zah bq));(case aL=>have:=LMc16.out;omega);intro v966 w25 ho hb hg hat;rw[← Ny965.out] at ho;have n_:=jA4 (zdu (ok:=(fun k_=>some k_≠(.slice Ao23 x8_2.length co23:Value).ownBlock)) (pR HO_7.out) hg hat) (zdu (ok:=(fun k_=>some k_≠(.slice Ao19 x7_2.length co19:Value).ownBlock)) (pR HO_8.out) hg hat) (hb) (ho);clear HO_7 HO_8 HB HO964;obtain⟨HO_7,HO_8,HB,HO967⟩:=n_;clear ho hb hg hat;obtain⟨Ao26,co26,eo26⟩:=zbb HO967.out;subst eo26) | (refine jgc 37 ?_;refine jgs 44 Try.func37 #[.slice A0 l0.length c0, .slice Ao26 y965.length co26] ?_;(with_reducible refine(spec_Mac.calls k2 _ _ l0 _ _ y965 t968 _ ?side1 ?side2 ?side3 ?side4 A17.out).mono ?_);(case side1=>exact jcs HR0.out);(case side2=>exact HC0.out);(case side3=>repeat(first | exact(zam HO967.out).2.2 | (with_reducible first | apply zbs | apply zbt | apply zcg)));(case side4=>exact(zam HO967.out).2.1);rintro e w27 ⟨v969,rfl,ho0,hb⟩;refine⟨_,rfl,?_⟩;have xb_:=below_ofs bq hb;have qHO_7:=Kd.R_ofs (pR HO_7.out) hb;have n0_:=Aside0.mk (zbp qHO_7 (zba ho0) hb);have qHO_8:=Kd.R_ofs (pR HO_8.out) hb;have n1_:=Aside0.mk (zbp qHO_8 (zba ho0) hb);have qHO967:=Kd.R_ofs (pR HO967.out) hb;have n2_:=Aside0.mk (zbp qHO967 (zba ho0) hb);have n3_:=Aside0.mk (zaq (zby (zby (zby ho0 (zca qHO_7)) (zca qHO_8)) (zca qHO967)) (zah xb_));have n4_:=Aside0.mk (zal xb_ hb);clear qHO967 HO_7;clear qHO_7 HO_8;clear qHO_8 HO967;clear HB;have HO_7:=n0_;have HO_8:=n1_;have HO967:=n2_;have HO970:=n3_;have HB:=n4_;clear n0_ n1_ n2_ n3_ n4_;clear xb_ hb ho0;obtain⟨Ao29,co29,eo29⟩:=zbb HO970.out;subst eo29) | ((with_reducible refine zde (b:= .append) (xs:= #[.tmp 45, .tmp 46]) rfl ?_);(try(refine zdt (by rfl) ?_;dsimp only));at_builtin;refine zdw (Kd.int .u8) (w0:=w) w.heap.size rfl (.tmp 45) (.tmp 46) 23 5 (.int .u8 0) 1 rfl Try.underlying23 info5 rfl (by decide) (by omega) (.slice Ao19 x7_2.length co19) x7_2 t968 _ _ _ (fun k_=>some k_≠(.slice Ao23 x8_2.length co23:Value).ownBlock∧some k_≠(.slice Ao26 y965.length co26:Value).ownBlock∧some k_≠(.slice Ao29 t968.length co29:Value).ownBlock) (fun _=>False) rfl rfl ?aO ?aR (fun _ _ h=>h) (fun _ h=>h.elim) ?aF ?aB ?aS ?aL ?_;(case aR=>repeat(first | exact(zam HO970.out).2.2 | (with_reducible first | apply zbs | apply zbt | apply zcg)));(case aB=>exact bq);(case aF=>exact(fun k_ hk=>⟨zdv (zca (pR HO_8.out)) k_ hk,zdv (zca (pR HO967.out)) k_ hk,zdv (zca (pR HO970.out)) k_ hk⟩));(case aO=>exact(by(with_reducible repeat(first | apply zat | apply zau | apply zar));exact zao HO_7.out (fun _ hk=>⟨hk.1.1,⟨hk.1.2,hk.2⟩⟩)));(case aS=>exact(zah bq));(case aL=>have:=LMc18.out;omega);intro v972 w28 ho hb hg hat;rw[← Ny971.out] at ho;have n_:=jA5 (zdu (ok:=(fun k_=>some k_≠(.slice Ao26 y965.length co26:Value).ownBlock∧some k_≠(.slice Ao29 t968.length co29:Value).ownBlock)) (by(with_reducible repeat(first | apply zat | apply zau | apply zar));exact zao HO_8.out (fun _ hk=>⟨⟨hk.1.2,hk.2⟩,hk.1.1⟩)) hg hat) (zdu (ok:=(fun k_=>some k_≠(.slice Ao23 x8_2.length co23:Value).ownBlock∧some k_≠(.slice Ao29 t968.length co29:Value).ownBlock)) (by(with_reducible repeat(first | apply zat | apply zau | apply zar));exact zao HO967.out (fun _ hk=>⟨⟨hk.1.2,hk.2⟩,hk.1.1⟩)) hg hat) (zdu (ok:=(fun k_=>some k_≠(.slice Ao23 x8_2.length co23:Value).ownBlock∧some k_≠(.slice Ao26 y965.length co26:Value).ownBlock)) (by(with_reducible repeat(first | apply zat | apply zau | apply zar));exact zao HO970.out (fun _ hk=>⟨⟨hk.1.2,hk.2⟩,hk.1.1.2⟩)) hg hat) (hb) (ho);clear HO_8 HO967 HO970 HB HO_7;obtain⟨HO_8,HO967,HO970,HB,HO973⟩:=n_;clear ho hb hg hat))
          go_roundg k2
          case measure=>have:=HJ3.out;have:=HK2.out;omega
          case rel=>exact⟨(y971),(t968),(wrap64 (x9_2+1)),jer,H',⟨by have:=HJ3.out;have:=HK2.out;omega⟩,⟨by(with_reducible repeat(first | apply zat | apply zau | apply zar));exact zao HO973.out (fun _ hk=>hk.2.2)⟩,⟨by(with_reducible repeat(first | apply zat | apply zau | apply zar));exact zao HO970.out (fun _ hk=>hk.2)⟩,⟨bq⟩⟩
         rw[if_neg c18] at H
         exact absurd H (by simp)
        rw[if_neg c16] at H
        exact absurd H (by simp)
       rw[if_neg c15] at H
       exact absurd H (by simp)
      rw[if_neg c14] at H
      exact absurd H (by simp)
     rw[if_neg c13] at H
     have c13b0:=zbj c13
     clear c13
     obtain⟨y974,hy974⟩:∃ y_:List Int,y_=(([]:List Int)):=⟨_,rfl⟩
     replace H:=bto hy974 H
     have Ny974:=Aside0.mk hy974
     clear hy974
     by_cases c30:0≤a2
     ·rw[if_pos c30] at H
      have c30b0:=zas c30
      have c30b1:=zab c30
      clear c30
      by_cases c31:a2≤(x7_2.length:Int)
      ·rw[if_pos c31] at H
       have c31b0:=zas c31
       have c31b1:=zab c31
       clear c31
       obtain⟨y977,hy977⟩:∃ y_:List Int,y_=(x7_2.take (a2:Int).toNat):=⟨_,rfl⟩
       replace H:=bto hy977 H
       have Ny977:=Aside0.mk hy977
       clear hy977
       by_cases c32:y974.length+y977.length<140737488355328
       ·rw[if_pos c32] at H
        have LMc32:=Aside0.mk c32
        clear c32
        obtain⟨y981,hy981⟩:∃ y_:List Int,y_=(y974++y977):=⟨_,rfl⟩
        replace H:(some y981)=some r:=jrw hy981 H
        have Ny981:=Aside0.mk hy981
        clear hy981
        obtain rfl:=Option.some.inj H
        obtain⟨Ao33,co33,eo33⟩:=zbb HO_7.out
        subst eo33
        go_wp2_with (first | (refine jgd 48 ?_;(try(refine zdt (by rfl) ?_;dsimp only));refine jlt 48 (Kd.int .u8) 5 ?_;intro v975 w34 ho35 hb;have xb_:=below_ofs bq hb;(first | rw[← Ny974.out] at ho35 | (simp only[Int.reduceToNat] at ho35;rw[← Ny974.out] at ho35));have qHO_7:=Kd.R_ofs (pR HO_7.out) hb;have n0_:=Aside0.mk (zbp qHO_7 (zba ho35) hb);have qHO_8:=Kd.R_ofs (pR HO_8.out) hb;have n1_:=Aside0.mk (zbp qHO_8 (zba ho35) hb);have n2_:=Aside0.mk (zaq (zby (zby ho35 (zca qHO_7)) (zca qHO_8)) (zah xb_));have n3_:=Aside0.mk (zal xb_ hb);clear qHO_7 HO_7;clear qHO_8 HO_8;clear HB;have HO_7:=n0_;have HO_8:=n1_;have HO976:=n2_;have HB:=n3_;clear n0_ n1_ n2_ n3_;clear xb_ hb ho35;have q36:(a2:Int)≤((x7_2.length:Int):Int):=zad jab;obtain⟨i036,hi036,_,hsz36,_⟩:=info_parts info5;have hroom36:x7_2.length≤co33:=(zam HO_7.out).2.1;have hC36:Kd.C (Kd.int .u8) _ Ao33 x7_2.length x7_2:=(zam HO_7.out).2.2;have hcut36:=cut_to (P:=Try.prog) 23 5 .i64 Try.underlying23 hi036 Ao33 x7_2.length co33 a2 (zad jab) q36 hroom36;have hr36:=Kd.C_take (m:=(a2:Int).toNat) hC36 (by omega);have hy36:y977.length=(a2:Int).toNat:=(by rw[Ny977.out,zdc];omega);rw[← Ny977.out] at hr36;rw[← hy36] at hcut36;have HR980:=Aside0.mk hr36;have HC980:=Aside0.mk (show y977.length≤co33 from by omega);clear hr36 hC36 hroom36 hi036 hsz36;have KY36:=Aside0.mk hy36;clear hy36;have KL36:=Aside0.mk (show(a2:Int).toNat≤x7_2.length from by omega);replace q36:=zas q36) | ((with_reducible refine zde (b:= .append) (xs:= #[.tmp 48, .tmp 51]) rfl ?_);(try(refine zdt (by rfl) ?_;dsimp only));at_builtin;refine zdw (Kd.int .u8) (w0:=w) w.heap.size rfl (.tmp 48) (.tmp 51) 23 5 (.int .u8 0) 1 rfl Try.underlying23 info5 rfl (by decide) (by omega) v975 y974 y977 _ _ _ (fun k_=>some k_≠(.slice Ao33 x7_2.length co33:Value).ownBlock∧some k_≠(u8:Value).ownBlock) (fun _=>False) rfl rfl ?aO ?aR (fun _ _ h=>h) (fun _ h=>h.elim) ?aF ?aB ?aS ?aL ?_;(case aR=>repeat(first | exact(by repeat(first | (with_reducible exact HR980.out) | (with_reducible first | apply zbs | apply zbt | apply zcg) | exact HR980.out)) | (with_reducible first | apply zbs | apply zbt | apply zcg)));(case aB=>exact bq);(case aF=>exact(fun k_ hk=>⟨zdv (zca (pR HO_7.out)) k_ hk,zdv (zca (pR HO_8.out)) k_ hk⟩));(case aO=>exact(by(with_reducible repeat(first | apply zat | apply zau | apply zar));exact zao HO976.out (fun _ hk=>⟨hk.1.2,hk.2⟩)));(case aS=>exact(zah bq));(case aL=>have:=LMc32.out;omega);intro v982 w37 ho hb hg hat;rw[← Ny981.out] at ho;have n_:=jA5 (zdu (ok:=(fun k_=>some k_≠(u8:Value).ownBlock)) (pR HO_7.out) hg hat) (zdu (ok:=(fun k_=>some k_≠(.slice Ao33 x7_2.length co33:Value).ownBlock)) (pR HO_8.out) hg hat) (hb) (show Kd.C (Kd.int .u8) w37 Ao33 y977.length y977 from by rw[Ny977.out];exact Kd.C_take (m:=(a2:Int).toNat) ((zam (zdu (ok:=(fun k_=>some k_≠(u8:Value).ownBlock)) (pR HO_7.out) hg hat)).2.2) KL36.out) (ho);clear HO_7 HO_8 HB HR980 HO976;obtain⟨HO_7,HO_8,HB,HR980,HO983⟩:=n_;clear ho hb hg hat))
        go_ret
        exact⟨_,jex,tqR HO983.out,bq⟩
       rw[if_neg c32] at H
       exact absurd H (by simp)
      rw[if_neg c31] at H
      exact absurd H (by simp)
     rw[if_neg c30] at H
     exact absurd H (by simp)
def spec_Derive.f (k:Nat) (l0:List Int) (l1:List Int) (l2:List Int) (a3:Int):Option (List Int):=(spec_Extract.f k l0 l1).bind fun t1055=>((spec_Expand.f k t1055 l2 a3).bind fun t1058=>(some t1058))
theorem spec_Derive.mono:∀ a0 a1 a2 a3 k,LeO (spec_Derive.f k a0 a1 a2 a3) (spec_Derive.f (k+1) a0 a1 a2 a3):=by
 intro a0 a1 a2 a3 k
 unfold spec_Derive.f
 have m0:=@spec_Expand.mono
 have m1:=@spec_Extract.mono
 exact mt
theorem spec_Derive.calls (k:Nat) (A0:Option Addr) (c0:Nat) (l0:List Int) (A1:Option Addr) (c1:Nat) (l1:List Int) (A2:Option Addr) (c2:Nat) (l2:List Int) (a3:Int) (r:List Int) (w:World) (hr0:Kd.C (Kd.int .u8) w A0 l0.length l0) (hc0:l0.length≤c0) (hr1:Kd.C (Kd.int .u8) w A1 l1.length l1) (hc1:l1.length≤c1) (hr2:Kd.C (Kd.int .u8) w A2 l2.length l2) (hc2:l2.length≤c2) (h:spec_Derive.f k l0 l1 l2 a3=some r):
  Calls Try.prog 45 #[.slice A0 l0.length c0, .slice A1 l1.length c1, .slice A2 l2.length c2, .int .i64 a3] w fun e w'=>∃ v0_:Value,e= .returned (v0_)∧Kd.R (Kd.int .u8) 5 w' w.heap.size (fun _=>True) v0_ r∧Below w.heap.size w w':=by
 have HR0:=Aside0.mk hr0
 have HC0:=Aside0.mk hc0
 clear hr0 hc0
 have HR1:=Aside0.mk hr1
 have HC1:=Aside0.mk hc1
 clear hr1 hc1
 have HR2:=Aside0.mk hr2
 have HC2:=Aside0.mk hc2
 clear hr2 hc2
 have HB:=Aside0.mk (zbk w.heap.size w)
 have H:((spec_Extract.f k l0 l1).bind fun t1055=>((spec_Expand.f k t1055 l2 a3).bind fun t1058=>(some t1058)))=some r:=h
 clear h
 obtain⟨t1055,A5,H⟩:=bnd H
 obtain⟨t1058,A6,H⟩:=bnd H
 obtain rfl:=Option.some.inj H
 go_enter Try.func45,Try.ntmps45
 go_wp2_with (first | (refine jgc 39 ?_;refine jgs 11 Try.func39 #[.slice A0 l0.length c0, .slice A1 l1.length c1] ?_;(with_reducible refine(spec_Extract.calls k _ _ l0 _ _ l1 t1055 _ ?side1 ?side2 ?side3 ?side4 A5.out).mono ?_);(case side1=>repeat(first | exact HR0.out | (with_reducible first | apply zbs | apply zbt | apply zcg)));(case side2=>exact HC0.out);(case side3=>repeat(first | exact HR1.out | (with_reducible first | apply zbs | apply zbt | apply zcg)));(case side4=>exact HC1.out);rintro e w7 ⟨v1056,rfl,ho0,hb⟩;refine⟨_,rfl,?_⟩;have xb_:=below_ofs bq hb;have n_:=jA2 (zaq ho0 (zah xb_)) (zal xb_ hb);clear HB;obtain⟨HO1057,HB⟩:=n_;clear xb_ hb ho0;obtain⟨Ao8,co8,eo8⟩:=zbb HO1057.out;subst eo8) | (refine jgc 43 ?_;refine jgs 14 Try.func43 #[.slice Ao8 t1055.length co8, .slice A2 l2.length c2, .int .i64 a3] ?_;(with_reducible refine(spec_Expand.calls k _ _ t1055 _ _ l2 a3 t1058 _ ?side1 ?side2 ?side3 ?side4 A6.out).mono ?_);(case side1=>repeat(first | exact(zam HO1057.out).2.2 | (with_reducible first | apply zbs | apply zbt | apply zcg)));(case side2=>exact(zam HO1057.out).2.1);(case side3=>exact jcs HR2.out);(case side4=>exact HC2.out);rintro e w9 ⟨v1059,rfl,ho0,hb⟩;refine⟨_,rfl,?_⟩;have xb_:=below_ofs bq hb;have qHO1057:=Kd.R_ofs (pR HO1057.out) hb;have n_:=jA3 (zbp qHO1057 (zba ho0) hb) (zaq (zby ho0 (zca qHO1057)) (zah xb_)) (zal xb_ hb);clear qHO1057 HO1057 HB;obtain⟨HO1057,HO1060,HB⟩:=n_;clear xb_ hb ho0))
 go_ret
 exact⟨_,jex,tqR HO1060.out,bq⟩
end Go.Proofs.Ytienlgcjohpphaa.P
