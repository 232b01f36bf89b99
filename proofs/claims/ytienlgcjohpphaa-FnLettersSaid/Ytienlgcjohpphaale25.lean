import Derived.Test.Ytienlgcjohpphaale24
namespace Go.Proofs.Ytienlgcjohpphaa.P
open Go.RowKit Go.Proofs.YtienlgcjohpphaaW.PrintWords Go.Proofs.YtienlgcjohpphaaW.PrintLast Go.Proofs.YtienlgcjohpphaaW.PrintMore
attribute [local go_sem] zcn zco zdk zdl zce zcf zcp zcq -- for this text's walks alone
set_option linter.unusedVariables false
set_option linter.unusedSimpArgs false
set_option maxHeartbeats 8000000
set_option maxRecDepth 100000

mutual
def impl_Expand.j0:Nat→List Int→List Int→Int→Bool→Option (List Int)
 | 0,_,_,_,_=>none
 | k+1,x0,x1,x2,x22=>if x22=true then(some ([]:List Int)) else(impl_Expand.l0 k x0 x1 x2 (([]:List Int)) (([]:List Int)) 1)
def impl_Expand.l0:Nat→List Int→List Int→Int→List Int→List Int→Int→Option (List Int)
 | 0,_,_,_,_,_,_=>none
 | k+1,x0,x1,x2,x7,x8,x9=>if(x7.length:Int)<x2 then((impl_joined.f (([x8,x1,(([(x9) % 256]:List Int))]:List (List Int)))).bind fun t997=>((impl_Mac.f k x0 t997).bind fun t1000=>(if x7.length+t1000.length<140737488355328 then(impl_Expand.l0 k x0 x1 x2 (x7++t1000) t1000 (wrap64 (x9+1))) else(none)))) else(if 0≤x2 then(if x2≤(x7.length:Int) then(some (x7.take (x2:Int).toNat)) else(none)) else(none))
end
def impl_Expand.f (k:Nat) (l0:List Int) (l1:List Int) (a2:Int):Option (List Int):=(impl_in.f a2 1 8160).bind fun t984=>(if t984=true then(if(l1.length:Int)>400 then(impl_Expand.j0 k l0 l1 a2 true) else(impl_Expand.j0 k l0 l1 a2 (decide ((l0.length:Int)>400)))) else(impl_Expand.j0 k l0 l1 a2 true))
theorem impl_Expand.mono_l:∀ k,(∀ y0 y1 y2 y3,LeO (impl_Expand.j0 k y0 y1 y2 y3) (impl_Expand.j0 (k+1) y0 y1 y2 y3))∧(∀ y0 y1 y2 y3 y4 y5,LeO (impl_Expand.l0 k y0 y1 y2 y3 y4 y5) (impl_Expand.l0 (k+1) y0 y1 y2 y3 y4 y5))
 | 0=>⟨fun _ _ _ _ r h=>by simp [impl_Expand.j0] at h,fun _ _ _ _ _ _ r h=>by simp [impl_Expand.l0] at h⟩
 | k+1=>by
  obtain⟨ih0,ih1⟩:=impl_Expand.mono_l k
  refine⟨?_,?_⟩
  ·intro y0 y1 y2 y3
   unfold impl_Expand.j0
   have m0:=@impl_Mac.mono
   exact mt
  intro y0 y1 y2 y3 y4 y5
  unfold impl_Expand.l0
  have m0:=@impl_Mac.mono
  exact mt
theorem impl_Expand.mono:∀ a0 a1 a2 k,LeO (impl_Expand.f k a0 a1 a2) (impl_Expand.f (k+1) a0 a1 a2):=by
 intro a0 a1 a2 k
 obtain⟨ih0,ih1⟩:=impl_Expand.mono_l k
 unfold impl_Expand.f
 have m0:=@impl_Mac.mono
 exact mt
theorem impl_Expand.calls (k:Nat) (A0:Option Addr) (c0:Nat) (l0:List Int) (P1_:Nat→Prop) (A1:Option Addr) (c1:Nat) (l1:List Int) (a2:Int) (r:List Int) (w:World) (hr0:Kd.C (Kd.int .u8) w A0 l0.length l0) (hc0:l0.length≤c0) (hs1:Kd.V (Kd.int .u8) 5 w w.heap.size (fun k_=>P1_ k_) (.slice A1 l1.length c1) l1) (h:impl_Expand.f k l0 l1 a2=some r):
  Calls Try.prog 44 #[.slice A0 l0.length c0, .slice A1 l1.length c1, .int .i64 a2] w fun e w'=>∃ v0_:Value,e= .returned (v0_)∧Kd.R (Kd.int .u8) 5 w' w.heap.size (fun k_=>(w.heap.size≤k_)) v0_ r∧Below w.heap.size w w':=by
 have HR0:=Aside0.mk hr0
 have HC0:=Aside0.mk hc0
 clear hr0 hc0
 have HO1:=Aside0.mk (show Kd.V (Kd.int .u8) 5 w w.heap.size (fun k_=>(P1_ k_∨w.heap.size≤k_)) (.slice A1 l1.length c1) l1 from zbh hs1 (fun k_ hk=> .inl hk))
 have HB:=Aside0.mk (zbk w.heap.size w)
 have H:((impl_in.f a2 1 8160).bind fun t984=>(if t984=true then(if(l1.length:Int)>400 then(impl_Expand.j0 k l0 l1 a2 true) else(impl_Expand.j0 k l0 l1 a2 (decide ((l0.length:Int)>400)))) else(impl_Expand.j0 k l0 l1 a2 true)))=some r:=h
 clear h
 have HC4:=Aside0.mk H
 clear H
 go_enter Try.func44,Try.ntmps44
 go_upto_region 1 with (fail)
 go_cut [22] (fun v22 wc=>∃ (kq:Nat) (x22_3:Bool),v22= .bool x22_3∧Aside0 (impl_Expand.j0 kq l0 l1 a2 x22_3=some r)∧Aside0 (kq≤k)∧Aside0 (Kd.V (Kd.int .u8) 5 wc w.heap.size (fun k_=>(P1_ k_∨w.heap.size≤k_)) (.slice A1 l1.length c1) l1)∧Aside0 (Below w.heap.size w wc))
 case first=>
  have H:=HC4.out
  clear HC4
  obtain⟨t984,A5,H⟩:=bnd H
  by_cases c6:t984=true
  ·subst c6
   rw[if_pos rfl] at H
   by_cases c7:(l1.length:Int)>400
   ·rw[if_pos c7] at H
    have c7b0:=zab c7
    have c7b1:decide (400<l1.length)=true:=zab (by omega)
    clear c7
    (first | rw[c7b0] | (simp only[i64_w,i32_w];rw[c7b0]) | skip)
    have H':=Aside0.mk H
    clear H
    go_wp2_with (first | (refine jgc 94 ?_;refine jgs 11 Try.func94 #[.int .i64 a2, .int .i64 1, .int .i64 8160] ?_;(with_reducible refine(impl_in.calls a2 1 8160 true _ A5.out).mono ?_);rintro e w' ⟨rfl,⟨nd,rfl⟩⟩;refine⟨_,rfl,?_⟩))
    go_meet
    case rel=>exact⟨_,(true),jer,H',⟨by first | omega | exact zav _⟩,⟨pV HO1.out⟩,⟨bq⟩⟩
   rw[if_neg c7] at H
   have c7b0:=zbj c7
   have c7b1:decide (400<l1.length)=false:=zbj (by omega)
   clear c7
   (first | rw[c7b0] | (simp only[i64_w,i32_w];rw[c7b0]) | skip)
   have H':=Aside0.mk H
   clear H
   go_wp2_with (first | (refine jgc 94 ?_;refine jgs 11 Try.func94 #[.int .i64 a2, .int .i64 1, .int .i64 8160] ?_;(with_reducible refine(impl_in.calls a2 1 8160 true _ A5.out).mono ?_);rintro e w' ⟨rfl,⟨nd,rfl⟩⟩;refine⟨_,rfl,?_⟩))
   go_meet
   case rel=>exact⟨_,(decide ((l0.length:Int)>400)),jer,H',⟨by first | omega | exact zav _⟩,⟨pV HO1.out⟩,⟨bq⟩⟩
  replace c6:=zds.mpr c6
  subst c6
  rw[if_neg (show ¬(false=true) by decide)] at H
  have H':=Aside0.mk H
  clear H
  go_wp2_with (first | (refine jgc 94 ?_;refine jgs 11 Try.func94 #[.int .i64 a2, .int .i64 1, .int .i64 8160] ?_;(with_reducible refine(impl_in.calls a2 1 8160 false _ A5.out).mono ?_);rintro e w' ⟨rfl,⟨nd,rfl⟩⟩;refine⟨_,rfl,?_⟩))
  go_meet
  case rel=>exact⟨_,(true),jer,H',⟨by first | omega | exact zav _⟩,⟨pV HO1.out⟩,⟨bq⟩⟩
 case rest=>
  clear HC4
  try clear c1
  try clear p2
  try clear c4
  try clear c6
  try clear c7
  try clear c7b0
  try clear c7b1
  obtain⟨kq,x22_3,rfl,HA,HJ3,HO_1,HB⟩:=hcut
  cases kq with
  | zero=>exact absurd HA.out (by simp [impl_Expand.j0])
  | succ kj3=>
   have H:=HA.out
   clear HA
   simp only[impl_Expand.j0] at H
   by_cases c8:x22_3=true
   ·subst c8
    rw[if_pos rfl] at H
    obtain rfl:=Option.some.inj H
    go_wp2
    go_ret
    exact⟨_,jex,by first | exact Kd.R_nil _ _ _ _ _ | exact Kd.N_nil _ _ _ _ _ | exact Kd.V_nil _ _ _ _ _ | exact Kd.Q_nil _ _ _ _ _ | exact Kd.S_nil _ _ _ _ _,bq⟩
   replace c8:=zds.mpr c8
   subst c8
   rw[if_neg (show ¬(false=true) by decide)] at H
   obtain⟨y985,hy985⟩:∃ y_:List Int,y_=(([]:List Int)):=⟨_,rfl⟩
   replace H:(impl_Expand.l0 kj3 l0 l1 a2 y985 (([]:List Int)) 1)=some r:=jrw hy985 H
   have Ny985:=Aside0.mk hy985
   clear hy985
   obtain⟨y988,hy988⟩:∃ y_:List Int,y_=(([]:List Int)):=⟨_,rfl⟩
   replace H:(impl_Expand.l0 kj3 l0 l1 a2 y985 y988 1)=some r:=jrw hy988 H
   have Ny988:=Aside0.mk hy988
   clear hy988
   have H':=Aside0.mk H
   clear H
   go_wp2_with (first | (refine jgd 23 ?_;(try(refine zdt (by rfl) ?_;dsimp only));refine jlt 23 (Kd.int .u8) 5 ?_;intro v986 w9 ho10 hb;have xb_:=below_ofs bq hb;(first | rw[← Ny985.out] at ho10 | (simp only[Int.reduceToNat] at ho10;rw[← Ny985.out] at ho10));have n_:=jA3 (zbw (pV HO_1.out) (zba ho10) hb) (zaq (zfx (M:=fun k_=>(w.heap.size≤k_)) ho10 (zah xb_) (fun k_ h_=>h_)) (zah xb_)) (zal xb_ hb);clear HO_1 HB;obtain⟨HO_1,HO987,HB⟩:=n_;clear xb_ hb ho10) | (refine jgd 24 ?_;(try(refine zdt (by rfl) ?_;dsimp only));refine jlt 24 (Kd.int .u8) 5 ?_;intro v989 w11 ho12 hb;have xb_:=below_ofs bq hb;(first | rw[← Ny988.out] at ho12 | (simp only[Int.reduceToNat] at ho12;rw[← Ny988.out] at ho12));have n0_:=Aside0.mk (zbw (pV HO_1.out) (zba ho12) hb);have qHO987:=Kd.R_ofs (pR HO987.out) hb;have n1_:=Aside0.mk (zbp qHO987 (zba ho12) hb);have n2_:=Aside0.mk (zaq (zby (zfx (M:=fun k_=>(w.heap.size≤k_)) ho12 (zah xb_) (fun k_ h_=>h_)) (zca qHO987)) (zah xb_));have n3_:=Aside0.mk (zal xb_ hb);clear qHO987 HO_1;clear HO987 HB;have HO_1:=n0_;have HO987:=n1_;have HO990:=n2_;have HB:=n3_;clear n0_ n1_ n2_ n3_;clear xb_ hb ho12))
   go_loopg [7,8,9] kj3 (fun kq v7 v8 v9 w'=>∃ (x7_2:List Int) (x8_2:List Int) (x9_2:Int),v9= .int .i64 x9_2∧Aside0 (impl_Expand.l0 kq l0 l1 a2 x7_2 x8_2 x9_2=some r)∧Aside0 (kq≤kj3)∧Aside0 (Kd.V (Kd.int .u8) 5 w' w.heap.size (fun k_=>(P1_ k_∨w.heap.size≤k_)∧some k_≠(v7:Value).ownBlock∧some k_≠(v8:Value).ownBlock) (.slice A1 l1.length c1) l1)∧Aside0 (Kd.R (Kd.int .u8) 5 w' w.heap.size (fun k_=>(w.heap.size≤k_)∧some k_≠(v8:Value).ownBlock) v7 x7_2)∧Aside0 (Kd.R (Kd.int .u8) 5 w' w.heap.size (fun k_=>(w.heap.size≤k_)∧some k_≠(v7:Value).ownBlock) v8 x8_2)∧Aside0 (Below w.heap.size w w'))
   case atStart=>exact⟨(y985),(y988),(1),jer,H',⟨zav _⟩,⟨by(with_reducible repeat(first | apply zbn | apply zbo | apply zbu));exact zbh HO_1.out (fun _ hk=>⟨hk.1.1,⟨hk.1.2,hk.2⟩⟩)⟩,⟨by(with_reducible repeat(first | apply zat | apply zau | apply zar));exact zao HO987.out (fun _ hk=>⟨hk.1.1,hk.2⟩)⟩,⟨by(with_reducible repeat(first | apply zat | apply zau | apply zar));exact zao HO990.out (fun _ hk=>⟨hk.1.1,hk.2⟩)⟩,⟨bq⟩⟩
   case round=>
    clear H'
    try clear c1
    try clear p2
    try clear c4
    try clear c6
    try clear c7
    try clear c7b0
    try clear c7b1
    try clear c8
    try clear c9
    try clear p2
    obtain⟨x7_2,x8_2,x9_2,rfl,HA,HK2,HO_1,HO_7,HO_8,HB⟩:=hrel
    cases gk with
    | zero=>exact absurd HA.out (by simp [impl_Expand.l0])
    | succ k2=>
     have H:=HA.out
     clear HA
     simp only[impl_Expand.l0] at H
     by_cases c13:(x7_2.length:Int)<a2
     ·rw[if_pos c13] at H
      have c13b0:=zab c13
      clear c13
      obtain⟨y991,hy991⟩:∃ y_:List Int,y_=(([(x9_2) % 256]:List Int)):=⟨_,rfl⟩
      replace H:((impl_joined.f (([x8_2,l1,y991]:List (List Int)))).bind fun t997=>((impl_Mac.f k2 l0 t997).bind fun t1000=>(if x7_2.length+t1000.length<140737488355328 then(impl_Expand.l0 k2 l0 l1 a2 (x7_2++t1000) t1000 (wrap64 (x9_2+1))) else(none))))=some r:=jrw hy991 H
      have Ny991:=Aside0.mk hy991
      clear hy991
      obtain⟨y994,hy994⟩:∃ y_:List (List Int),y_=(([x8_2,l1,y991]:List (List Int))):=⟨_,rfl⟩
      replace H:((impl_joined.f y994).bind fun t997=>((impl_Mac.f k2 l0 t997).bind fun t1000=>(if x7_2.length+t1000.length<140737488355328 then(impl_Expand.l0 k2 l0 l1 a2 (x7_2++t1000) t1000 (wrap64 (x9_2+1))) else(none))))=some r:=jrw hy994 H
      have Ny994:=Aside0.mk hy994
      clear hy994
      obtain⟨t997,A14,H⟩:=bnd H
      obtain⟨t1000,A15,H⟩:=bnd H
      by_cases c16:x7_2.length+t1000.length<140737488355328
      ·rw[if_pos c16] at H
       have LMc16:=Aside0.mk c16
       clear c16
       obtain⟨y1003,hy1003⟩:∃ y_:List Int,y_=(x7_2++t1000):=⟨_,rfl⟩
       replace H:(impl_Expand.l0 k2 l0 l1 a2 y1003 t1000 (wrap64 (x9_2+1)))=some r:=jrw hy1003 H
       have Ny1003:=Aside0.mk hy1003
       clear hy1003
       have H':=Aside0.mk H
       clear H
       obtain⟨Ao17,co17,eo17⟩:=zbb HO_7.out
       subst eo17
       go_wp2_with (first | (refine jgd 36 ?_;(try(refine zdt (by rfl) ?_;dsimp only));refine Kd.R_lit (Kd.int .u8) _ 5 ?hg (N:=36) ?hd (xs:=([(x9_2) % 256]:List Int)) (inner:=[.int .u8 ((x9_2) % 256)]) (ok:=fun _=>True) (okp:=fun _=>True) ?hr ?hp (fun _ hk=>hk) trivial (zbk _ _) (zav _) (by simp) ?_;(case hd=>rfl);(case hg=>rfl);(case hr=>first | (go_simp;done) | (go_simp;rfl));(case hp=>exact(zan (show Kd.M (Kd.int .u8) _ _ _ ((x9_2) % 256) [.int .u8 ((x9_2) % 256)] from rfl) (zeb _ _)));intro v992 w18 ho19 hb hg_ hnew_;have xb_:=below_ofs bq hb;clear hg_ hnew_;(first | rw[← Ny991.out] at ho19 | (simp only[Int.reduceToNat] at ho19;rw[← Ny991.out] at ho19));have n0_:=Aside0.mk (zbw (pV HO_1.out) (zba ho19) hb);have qHO_7:=Kd.R_ofs (pR HO_7.out) hb;have n1_:=Aside0.mk (zbp qHO_7 (zba ho19) hb);have qHO_8:=Kd.R_ofs (pR HO_8.out) hb;have n2_:=Aside0.mk (zbp qHO_8 (zba ho19) hb);have n3_:=Aside0.mk (zaq (zby (zby (zfx (M:=fun k_=>(w.heap.size≤k_)) ho19 (zah xb_) (fun k_ h_=>h_)) (zca qHO_7)) (zca qHO_8)) (zah xb_));have n4_:=Aside0.mk (zal xb_ hb);clear qHO_7 HO_1;clear qHO_8 HO_7;clear HO_8 HB;have HO_1:=n0_;have HO_7:=n1_;have HO_8:=n2_;have HO993:=n3_;have HB:=n4_;clear n0_ n1_ n2_ n3_ n4_;clear xb_ hb ho19;obtain⟨Ao20,co20,eo20⟩:=zbb HO_8.out;subst eo20;obtain⟨Ao21,co21,eo21⟩:=zbb HO993.out;subst eo21) | (refine jgd 37 ?_;(try(refine zdt (by rfl) ?_;dsimp only));refine Kd.N_lit (Kd.slice 5 (Kd.int .u8)) _ 23 ?hg (N':=37) ?hd (xs:=([x8_2,l1,y991]:List (List Int))) (inner:=[.slice Ao20 x8_2.length co20, .slice A1 l1.length c1, .slice Ao21 y991.length co21]) (ok:=(fun k_=>(P1_ k_∨w.heap.size≤k_)∧some k_≠(.slice Ao17 x7_2.length co17:Value).ownBlock)) (okp:=(fun k_=>(P1_ k_∨w.heap.size≤k_)∧some k_≠(.slice Ao17 x7_2.length co17:Value).ownBlock)) ?hr ?hp (fun _ hk=>hk) ((show ∀ k_,w18.heap.size≤k_→(fun k_=>(P1_ k_∨w.heap.size≤k_)∧some k_≠(.slice Ao17 x7_2.length co17:Value).ownBlock) k_ from fun k_ hk=>⟨(.inr (zdo (zah bq) hk)),zdv (zca (pR HO_7.out)) k_ hk⟩) _ (zav _)) (zbk _ _) (zav _) (by simp) ?_;(case hd=>rfl);(case hg=>rfl);(case hr=>first | (go_simp;done) | (go_simp;rfl));(case hp=>exact(zan (show Kd.FK (Kd.slice 5 (Kd.int .u8)) _ _ x8_2 [.slice Ao20 x8_2.length co20] from(zcy (zam (zao (ok':=(fun k_=>(P1_ k_∨w.heap.size≤k_)∧some k_≠(.slice Ao17 x7_2.length co17:Value).ownBlock)) (HO_8.out) (fun k_ hk=>⟨(.inr (hk.1.1)),hk.1.2⟩))).2.1 (Kd.R_F (zao (ok':=(fun k_=>(P1_ k_∨w.heap.size≤k_)∧some k_≠(.slice Ao17 x7_2.length co17:Value).ownBlock)) (HO_8.out) (fun k_ hk=>⟨(.inr (hk.1.1)),hk.1.2⟩))))) (zan (show Kd.FK (Kd.slice 5 (Kd.int .u8)) _ _ l1 [.slice A1 l1.length c1] from(zcy (zbx (zbh (ok':=(fun k_=>(P1_ k_∨w.heap.size≤k_)∧some k_≠(.slice Ao17 x7_2.length co17:Value).ownBlock)) (HO_1.out) (fun k_ hk=>⟨hk.1.1,hk.1.2.1⟩))).2.1 (Kd.V_F (zbh (ok':=(fun k_=>(P1_ k_∨w.heap.size≤k_)∧some k_≠(.slice Ao17 x7_2.length co17:Value).ownBlock)) (HO_1.out) (fun k_ hk=>⟨hk.1.1,hk.1.2.1⟩))))) (zan (show Kd.FK (Kd.slice 5 (Kd.int .u8)) _ _ y991 [.slice Ao21 y991.length co21] from(zcy (zam (zao (ok':=(fun k_=>(P1_ k_∨w.heap.size≤k_)∧some k_≠(.slice Ao17 x7_2.length co17:Value).ownBlock)) (HO993.out) (fun k_ hk=>⟨(.inr (hk.1.1.1)),hk.1.2⟩))).2.1 (Kd.R_F (zao (ok':=(fun k_=>(P1_ k_∨w.heap.size≤k_)∧some k_≠(.slice Ao17 x7_2.length co17:Value).ownBlock)) (HO993.out) (fun k_ hk=>⟨(.inr (hk.1.1.1)),hk.1.2⟩))))) (zeb _ _)))));intro v995 w22 ho23 hb hg_ hnew_;have xb_:=below_ofs bq hb;clear hg_ hnew_;(first | rw[← Ny994.out] at ho23 | (simp only[Int.reduceToNat] at ho23;rw[← Ny994.out] at ho23));have n_:=jA4 (zbw (pV HO_1.out) (zea ho23) hb) (zen (pR HO_7.out) hb) (zfe ho23 (zah xb_)) (zal xb_ hb);clear HO_1 HO_7 HB HO993 HO_8;obtain⟨HO_1,HO_7,HO996,HB⟩:=n_;clear xb_ hb ho23;obtain⟨Ao24,co24,eo24⟩:=zge HO996.out;subst eo24) | (refine jgc 79 ?_;refine jgs 38 Try.func79 #[.slice Ao24 y994.length co24] ?_;(with_reducible refine(impl_joined.calls _ _ y994 t997 _ ?side1 ?side2 A14.out).mono ?_);(case side1=>repeat(first | exact(zee HO996.out).2.2 | (with_reducible first | apply zbs | apply zbt | apply zcg)));(case side2=>exact(zee HO996.out).2.1);rintro e w25 ⟨v998,rfl,ho0,hb⟩;refine⟨_,rfl,?_⟩;have xb_:=below_ofs bq hb;have n0_:=Aside0.mk (zbw (pV HO_1.out) (zba ho0) hb);have qHO_7:=Kd.R_ofs (pR HO_7.out) hb;have n1_:=Aside0.mk (zbp qHO_7 (zba ho0) hb);have n2_:=Aside0.mk (zew (pN HO996.out) (zba ho0) hb);have n3_:=Aside0.mk (zaq (zby (zfx (M:=fun k_=>(w.heap.size≤k_)) ho0 (zah xb_) (fun k_ h_=>h_)) (zca qHO_7)) (zah xb_));have n4_:=Aside0.mk (zal xb_ hb);clear qHO_7 HO_1;clear HO_7 HO996 HB;have HO_1:=n0_;have HO_7:=n1_;have HO996:=n2_;have HO999:=n3_;have HB:=n4_;clear n0_ n1_ n2_ n3_ n4_;clear xb_ hb ho0;obtain⟨Ao26,co26,eo26⟩:=zbb HO999.out;subst eo26) | (refine jgc 38 ?_;refine jgs 39 Try.func38 #[.slice A0 l0.length c0, .slice Ao26 t997.length co26] ?_;(with_reducible refine(impl_Mac.calls k2 _ _ l0 _ _ t997 t1000 _ ?side1 ?side2 ?side3 ?side4 A15.out).mono ?_);(case side1=>exact jcs HR0.out);(case side2=>exact HC0.out);(case side3=>repeat(first | exact(zam HO999.out).2.2 | (with_reducible first | apply zbs | apply zbt | apply zcg)));(case side4=>exact(zam HO999.out).2.1);rintro e w27 ⟨v1001,rfl,ho0,hb⟩;refine⟨_,rfl,?_⟩;have xb_:=below_ofs bq hb;have n0_:=Aside0.mk (zbw (pV HO_1.out) (zba ho0) hb);have qHO_7:=Kd.R_ofs (pR HO_7.out) hb;have n1_:=Aside0.mk (zbp qHO_7 (zba ho0) hb);have n2_:=Aside0.mk (zew (pN HO996.out) (zba ho0) hb);have qHO999:=Kd.R_ofs (pR HO999.out) hb;have n3_:=Aside0.mk (zbp qHO999 (zba ho0) hb);have n4_:=Aside0.mk (zaq (zby (zby (zfx (M:=fun k_=>(w.heap.size≤k_)) ho0 (zah xb_) (fun k_ h_=>h_)) (zca qHO_7)) (zca qHO999)) (zah xb_));have n5_:=Aside0.mk (zal xb_ hb);clear qHO999 HO_1;clear qHO_7 HO_7;clear HO996 HO999 HB;have HO_1:=n0_;have HO_7:=n1_;have HO996:=n2_;have HO999:=n3_;have HO1002:=n4_;have HB:=n5_;clear n0_ n1_ n2_ n3_ n4_ n5_;clear xb_ hb ho0;obtain⟨Ao29,co29,eo29⟩:=zbb HO1002.out;subst eo29) | ((with_reducible refine zde (b:= .append) (xs:= #[.tmp 40, .tmp 41]) rfl ?_);(try(refine zdt (by rfl) ?_;dsimp only));at_builtin;refine zdw (Kd.int .u8) (w0:=w) w.heap.size rfl (.tmp 40) (.tmp 41) 23 5 (.int .u8 0) 1 rfl Try.underlying23 info5 rfl (by decide) (by omega) (.slice Ao17 x7_2.length co17) x7_2 t1000 _ _ _ (fun k_=>(w.heap.size≤k_)∧some k_≠(.slice Ao26 t997.length co26:Value).ownBlock∧some k_≠(.slice Ao29 t1000.length co29:Value).ownBlock) (fun _=>False) rfl rfl ?aO ?aR (fun _ _ h=>h) (fun _ h=>h.elim) ?aF ?aB ?aS ?aL ?_;(case aR=>repeat(first | exact(zam HO1002.out).2.2 | (with_reducible first | apply zbs | apply zbt | apply zcg)));(case aB=>exact bq);(case aF=>exact(fun k_ hk=>⟨(zdo (zah bq) hk),zdv (zca (pR HO999.out)) k_ hk,zdv (zca (pR HO1002.out)) k_ hk⟩));(case aO=>exact(by(with_reducible repeat(first | apply zat | apply zau | apply zar));exact zao HO_7.out (fun _ hk=>⟨hk.1.1.1.1,⟨hk.1.2,hk.2⟩⟩)));(case aS=>exact(zah bq));(case aL=>have:=LMc16.out;omega);intro v1004 w28 ho hb hg hat;rw[← Ny1003.out] at ho;have n_:=jA6 (Kd.V_afterv (ok:=(fun k_=>(P1_ k_∨w.heap.size≤k_)∧some k_≠(.slice Ao24 y994.length co24:Value).ownBlock∧some k_≠(.slice Ao26 t997.length co26:Value).ownBlock∧some k_≠(.slice Ao29 t1000.length co29:Value).ownBlock)) (by(with_reducible repeat(first | apply zbn | apply zbo | apply zbu));exact zbh HO_1.out (fun _ hk=>⟨⟨hk.1.1.1.1.1,⟨hk.1.1.2,⟨hk.1.2,hk.2⟩⟩⟩,hk.1.1.1.1.2.1⟩)) hg hat) (Kd.N_afterv (ok:=(fun k_=>(P1_ k_∨w.heap.size≤k_)∧some k_≠(.slice Ao26 t997.length co26:Value).ownBlock∧some k_≠(.slice Ao29 t1000.length co29:Value).ownBlock)) (by(with_reducible repeat(first | apply zei | apply zej | apply zet));exact zem HO996.out (fun _ hk=>⟨⟨hk.1.1.1,⟨hk.1.2,hk.2⟩⟩,hk.1.1.2⟩)) hg hat) (zdu (ok:=(fun k_=>(w.heap.size≤k_)∧some k_≠(.slice Ao29 t1000.length co29:Value).ownBlock)) (by(with_reducible repeat(first | apply zat | apply zau | apply zar));exact zao HO999.out (fun _ hk=>⟨⟨hk.1.1.1,hk.2⟩,hk.1.2⟩)) hg hat) (zdu (ok:=(fun k_=>(w.heap.size≤k_)∧some k_≠(.slice Ao26 t997.length co26:Value).ownBlock)) (by(with_reducible repeat(first | apply zat | apply zau | apply zar));exact zao HO1002.out (fun _ hk=>⟨⟨hk.1.1.1,hk.2⟩,hk.1.2⟩)) hg hat) (hb) (ho);clear HO_1 HO996 HO999 HO1002 HB HO_7;obtain⟨HO_1,HO996,HO999,HO1002,HB,HO1005⟩:=n_;clear ho hb hg hat))
       go_roundg k2
       case measure=>have:=HJ3.out;have:=HK2.out;omega
       case rel=>exact⟨(y1003),(t1000),(wrap64 (x9_2+1)),jer,H',⟨by have:=HJ3.out;have:=HK2.out;omega⟩,⟨by(with_reducible repeat(first | apply zbn | apply zbo | apply zbu));exact zbh HO_1.out (fun _ hk=>⟨hk.1.1,⟨hk.2,hk.1.2.2.2⟩⟩)⟩,⟨by(with_reducible repeat(first | apply zat | apply zau | apply zar));exact zao HO1005.out (fun _ hk=>⟨hk.1,hk.2.2⟩)⟩,⟨by(with_reducible repeat(first | apply zat | apply zau | apply zar));exact zao HO1002.out (fun _ hk=>⟨hk.1.1,hk.2⟩)⟩,⟨bq⟩⟩
      rw[if_neg c16] at H
      exact absurd H (by simp)
     rw[if_neg c13] at H
     have c13b0:=zbj c13
     clear c13
     by_cases c30:0≤a2
     ·rw[if_pos c30] at H
      have c30b0:=zas c30
      have c30b1:=zab c30
      clear c30
      by_cases c31:a2≤(x7_2.length:Int)
      ·rw[if_pos c31] at H
       have c31b0:=zas c31
       have c31b1:=zab c31
       clear c31
       obtain⟨y1006,hy1006⟩:∃ y_:List Int,y_=(x7_2.take (a2:Int).toNat):=⟨_,rfl⟩
       replace H:(some y1006)=some r:=jrw hy1006 H
       have Ny1006:=Aside0.mk hy1006
       clear hy1006
       obtain rfl:=Option.some.inj H
       obtain⟨Ao32,co32,eo32⟩:=zbb HO_7.out
       subst eo32
       have q33:(a2:Int)≤((x7_2.length:Int):Int):=zad jab
       obtain⟨i033,hi033,_,hsz33,_⟩:=info_parts info5
       have hcut33:=cut_to (P:=Try.prog) 23 5 .i64 Try.underlying23 hi033 Ao32 x7_2.length co32 a2 (zad jab) q33 (zam HO_7.out).2.1
       have hr33:=Kd.R_take (m:=(a2:Int).toNat) HO_7.out (by omega)
       have hy33:y1006.length=(a2:Int).toNat:=(by rw[Ny1006.out,zdc];omega)
       rw[← Ny1006.out] at hr33
       rw[← hy33] at hr33 hcut33
       clear hy33 hi033 hsz33 HO_7
       have HO1008:=Aside0.mk hr33
       clear hr33
       replace q33:=zas q33
       go_wp2
       go_ret
       exact⟨_,jex,by(with_reducible repeat(first | apply zat | apply zau | apply zar));exact zao HO1008.out (fun _ hk=>hk.1),bq⟩
      rw[if_neg c31] at H
      exact absurd H (by simp)
     rw[if_neg c30] at H
     exact absurd H (by simp)
def impl_Derive.f (k:Nat) (l0:List Int) (l1:List Int) (l2:List Int) (a3:Int):Option (List Int):=(impl_Extract.f k l0 l1).bind fun t1061=>((impl_Expand.f k t1061 l2 a3).bind fun t1064=>(some t1064))
theorem impl_Derive.mono:∀ a0 a1 a2 a3 k,LeO (impl_Derive.f k a0 a1 a2 a3) (impl_Derive.f (k+1) a0 a1 a2 a3):=by
 intro a0 a1 a2 a3 k
 unfold impl_Derive.f
 have m0:=@impl_Expand.mono
 have m1:=@impl_Extract.mono
 exact mt
theorem impl_Derive.calls (k:Nat) (A0:Option Addr) (c0:Nat) (l0:List Int) (A1:Option Addr) (c1:Nat) (l1:List Int) (A2:Option Addr) (c2:Nat) (l2:List Int) (a3:Int) (r:List Int) (w:World) (hr0:Kd.C (Kd.int .u8) w A0 l0.length l0) (hc0:l0.length≤c0) (hr1:Kd.C (Kd.int .u8) w A1 l1.length l1) (hc1:l1.length≤c1) (hr2:Kd.C (Kd.int .u8) w A2 l2.length l2) (hc2:l2.length≤c2) (h:impl_Derive.f k l0 l1 l2 a3=some r):
  Calls Try.prog 46 #[.slice A0 l0.length c0, .slice A1 l1.length c1, .slice A2 l2.length c2, .int .i64 a3] w fun e w'=>∃ v0_:Value,e= .returned (v0_)∧Kd.R (Kd.int .u8) 5 w' w.heap.size (fun _=>True) v0_ r∧Below w.heap.size w w':=by
 have HR0:=Aside0.mk hr0
 have HC0:=Aside0.mk hc0
 clear hr0 hc0
 have HR1:=Aside0.mk hr1
 have HC1:=Aside0.mk hc1
 clear hr1 hc1
 have HR2:=Aside0.mk hr2
 have HC2:=Aside0.mk hc2
 clear hr2 hc2
 have HB:=Aside0.mk (zbk w.heap.size w)
 have H:((impl_Extract.f k l0 l1).bind fun t1061=>((impl_Expand.f k t1061 l2 a3).bind fun t1064=>(some t1064)))=some r:=h
 clear h
 obtain⟨t1061,A5,H⟩:=bnd H
 obtain⟨t1064,A6,H⟩:=bnd H
 obtain rfl:=Option.some.inj H
 go_enter Try.func46,Try.ntmps46
 go_wp2_with (first | (refine jgc 40 ?_;refine jgs 11 Try.func40 #[.slice A0 l0.length c0, .slice A1 l1.length c1] ?_;(with_reducible refine(impl_Extract.calls k _ _ l0 _ _ l1 t1061 _ ?side1 ?side2 ?side3 ?side4 A5.out).mono ?_);(case side1=>repeat(first | exact HR0.out | (with_reducible first | apply zbs | apply zbt | apply zcg)));(case side2=>exact HC0.out);(case side3=>repeat(first | exact HR1.out | (with_reducible first | apply zbs | apply zbt | apply zcg)));(case side4=>exact HC1.out);rintro e w7 ⟨v1062,rfl,ho0,hb⟩;refine⟨_,rfl,?_⟩;have xb_:=below_ofs bq hb;have n_:=jA2 (zaq ho0 (zah xb_)) (zal xb_ hb);clear HB;obtain⟨HO1063,HB⟩:=n_;clear xb_ hb ho0;obtain⟨Ao8,co8,eo8⟩:=zbb HO1063.out;subst eo8) | (refine jgc 44 ?_;refine jgs 14 Try.func44 #[.slice Ao8 t1061.length co8, .slice A2 l2.length c2, .int .i64 a3] ?_;(with_reducible refine(impl_Expand.calls k _ _ t1061 (fun k_=>k_<w.heap.size) _ _ l2 a3 t1064 _ ?side1 ?side2 ?side3 A6.out).mono ?_);(case side1=>repeat(first | exact(zam HO1063.out).2.2 | (with_reducible first | apply zbs | apply zbt | apply zcg)));(case side2=>exact(zam HO1063.out).2.1);(case side3=>exact zga HC2.out (Kd.F_below (Kd.C_F (zgg .u8) HR2.out) bq));rintro e w9 ⟨v1065,rfl,ho0,hb⟩;refine⟨_,rfl,?_⟩;have xb_:=below_ofs bq hb;have qHO1063:=Kd.R_ofs (pR HO1063.out) hb;have n_:=jA3 (zbp qHO1063 (zba ho0) hb) (zaq (zby (zao (ok':=fun k_=>True) ho0 (fun _ hk_=>trivial)) (zca qHO1063)) (zah xb_)) (zal xb_ hb);clear qHO1063 HO1063 HB;obtain⟨HO1063,HO1066,HB⟩:=n_;clear xb_ hb ho0))
 go_ret
 exact⟨_,jex,tqR HO1066.out,bq⟩
end Go.Proofs.Ytienlgcjohpphaa.P
