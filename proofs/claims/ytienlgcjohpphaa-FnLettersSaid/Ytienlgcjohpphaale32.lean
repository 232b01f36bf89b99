import Derived.Test.Ytienlgcjohpphaale29
namespace Go.Proofs.Ytienlgcjohpphaa.P
open Go.RowKit Go.Proofs.YtienlgcjohpphaaW.PrintWords Go.Proofs.YtienlgcjohpphaaW.PrintLast Go.Proofs.YtienlgcjohpphaaW.PrintMore
attribute [local go_sem] zcn zco zdk zdl zce zcf zcp zcq -- for this text's walks alone
set_option linter.unusedVariables false
set_option linter.unusedSimpArgs false

def impl_LetterOfV.j0:Nat→List Int→Bool→Option (Int×List Int×List Int×Bool)
 | 0,_,_=>none
 | k+1,x0,x13=>if x13=true then(some (0,([]:List Int),([]:List Int),false)) else(if 1<(x0.length:Int) then(if 2<(x0.length:Int) then(if 3≤35 then(if 35≤(x0.length:Int) then((impl_joined.f (([((x0.take 35).drop 3)]:List (List Int)))).bind fun t1564=>((impl_joined.f (([(x0.drop 35)]:List (List Int)))).bind fun t1575=>((impl_LetterOk.f (Go.bits .or .i64 (wrap64 ((wrap64 (rd x0 1))*256)) (wrap64 (rd x0 2))) t1564 t1575).bind fun t1579=>(if t1579=true then(some (Go.bits .or .i64 (wrap64 ((wrap64 (rd x0 1))*256)) (wrap64 (rd x0 2)),t1564,t1575,true)) else(some (0,([]:List Int),([]:List Int),false)))))) else(none)) else(none)) else(none)) else(none))
def impl_LetterOfV.f (k:Nat) (l0:List Int):Option (Int×List Int×List Int×Bool):=if(l0.length:Int)<35 then(impl_LetterOfV.j0 k l0 true) else(if 0<(l0.length:Int) then(impl_LetterOfV.j0 k l0 ((rd l0 0) != 1)) else(none))
theorem impl_LetterOfV.mono_l:∀ k,(∀ y0 y1,LeO (impl_LetterOfV.j0 k y0 y1) (impl_LetterOfV.j0 (k+1) y0 y1))
 | 0=>fun _ _ r h=>by simp [impl_LetterOfV.j0] at h
 | k+1=>by
  have ih0:=impl_LetterOfV.mono_l k
  intro y0 y1
  unfold impl_LetterOfV.j0
  exact mt
theorem impl_LetterOfV.mono:∀ a0 k,LeO (impl_LetterOfV.f k a0) (impl_LetterOfV.f (k+1) a0):=by
 intro a0 k
 have ih0:=impl_LetterOfV.mono_l k
 unfold impl_LetterOfV.f
 exact mt
def impl_LetterOfV.T3:Bool×List (List Nat×List Nat):=(true,[([],[]),([0],[0]),([1],[1]),([2],[2]),([3],[3]),([],[]),([5],[5]),([6],[6]),([7],[7]),([4,8],[4,8]),([],[]),([10],[10]),([11],[11]),([12],[12]),([],[]),([14],[14]),([15],[15]),([16,13],[16]),([9,13,17],[9,13,17]),([],[]),([19,18,17,0,1,2,3,4,5,6,7,8,9,10,11,12,13,14,15,16,17,18,19],[18,19])])
def impl_LetterOfV.B3:List Nat:=[0,1,3,7,15,0,32,96,224,511,0,1024,3072,7168,0,16384,49152,130048,262143,0,1048575]
theorem impl_LetterOfV.tab3:rtab .any (opsOf Try.f59 3)=impl_LetterOfV.T3:=by kernel_rfl
theorem impl_LetterOfV.bits3:waitsOk impl_LetterOfV.T3.2 impl_LetterOfV.B3=true:=by kernel_rfl
set_option maxHeartbeats 8000000 in
set_option maxRecDepth 100000 in
theorem impl_LetterOfV.calls (k:Nat) (P0_:Nat→Prop) (A0:Option Addr) (c0:Nat) (l0:List Int) (r1:Int) (r2:List Int) (r3:List Int) (r4:Bool) (w:World) (hs0:Kd.V (Kd.int .u8) 5 w w.heap.size (fun k_=>P0_ k_) (.slice A0 l0.length c0) l0) (h:impl_LetterOfV.f k l0=some (r1,r2,r3,r4)):
  Calls Try.prog 59 #[.slice A0 l0.length c0] w fun e w'=>∃ v1_ v2_:Value,e= .returned (.tuple #[.agg #[.int .i64 r1,v1_,v2_], .bool r4])∧Kd.R (Kd.int .u8) 5 w' w.heap.size (fun k_=>(w.heap.size≤k_)∧some k_≠(v2_:Value).ownBlock) v1_ r2∧Kd.R (Kd.int .u8) 5 w' w.heap.size (fun k_=>(w.heap.size≤k_)∧some k_≠(v1_:Value).ownBlock) v2_ r3∧Below w.heap.size w w':=by
 have hu55:=Try.underlying55
 have HO0:=Aside0.mk (show Kd.V (Kd.int .u8) 5 w w.heap.size (fun k_=>(P0_ k_∨w.heap.size≤k_)) (.slice A0 l0.length c0) l0 from zbh hs0 (fun k_ hk=> .inl hk))
 have HB:=Aside0.mk (zbk w.heap.size w)
 have H:(if(l0.length:Int)<35 then(impl_LetterOfV.j0 k l0 true) else(if 0<(l0.length:Int) then(impl_LetterOfV.j0 k l0 ((rd l0 0) != 1)) else(none)))=some (r1,r2,r3,r4):=h
 clear h
 have HC2:=Aside0.mk H
 clear H
 go_enter Try.func59,Try.ntmps59
 go_upto_region 1 with (first | (refine jgd 2 ?_;refine bx 2 (#[.int .i64 0, .slice none 0 0, .slice none 0 0]) 55 ?_;intro gb1552 hg w3 hbox hb;have xb_:=below_ofs bq hb;have n_:=jA5 (zcw (zep (pV HO0.out) gb1552 (zdq hg.symm)) hb) (zal xb_ hb) (hbox) (ge0 hg xb_:w.heap.size≤gb1552) (ge0 hg xb_:w.heap.size≤gb1552);clear HO0 HB;obtain⟨HO0,HB,BK1552,GW1552,GE1552⟩:=n_;clear xb_ hb hbox hg))
 (try simp only[Act.put,zaa,zae,zaf])
 go_cut [13] (fun v13 wc=>∃ (kq:Nat) (x13_1:Bool),v13= .bool x13_1∧Aside0 (impl_LetterOfV.j0 kq l0 x13_1=some (r1,r2,r3,r4))∧Aside0 (kq≤k)∧Aside0 (Kd.V (Kd.int .u8) 5 wc w.heap.size (fun k_=>(P0_ k_∨w.heap.size≤k_)∧k_≠gb1552) (.slice A0 l0.length c0) l0)∧Aside0 (wc.heap[gb1552]? =some (.cells #[.int .i64 0,(.slice none 0 0),(.slice none 0 0)] 55 (0,0)))∧Aside0 (Below w.heap.size w wc))
 case first=>
  have H:=HC2.out
  clear HC2
  by_cases c4:(l0.length:Int)<35
  ·rw[if_pos c4] at H
   have c4b0:=zab c4
   have c4b1:decide (l0.length<35)=true:=zab (by omega)
   clear c4
   (first | rw[c4b0] | (simp only[i64_w,i32_w];rw[c4b0]) | skip)
   have H':=Aside0.mk H
   clear H
   go_wp2
   go_meet
   case rel=>exact⟨_,(true),jer,H',⟨by first | omega | exact zav _⟩,⟨pV HO0.out⟩,⟨pB BK1552.out⟩,⟨bs1 GE1552.out⟩⟩
  rw[if_neg c4] at H
  have c4b0:=zbj c4
  have c4b1:decide (l0.length<35)=false:=zbj (by omega)
  clear c4
  (first | rw[c4b0] | (simp only[i64_w,i32_w];rw[c4b0]) | skip)
  by_cases c5:0<(l0.length:Int)
  ·rw[if_pos c5] at H
   have c5b0:=zab c5
   have c5b1:decide (0<l0.length)=true:=zab (by omega)
   clear c5
   have H':=Aside0.mk H
   clear H
   have p1553:0≤(0:Int):=(by omega)
   have q1553:0<(l0.length:Int):=zad jab
   obtain⟨ad1553,e1553,hx1553_0⟩:=zcd (zbx HO0.out).2.2 0 p1553 q1553
   cases e1553
   have qi1553:(0<l0.length)=True:=zas (by omega)
   (try rw[show((0:Int)).toNat=0 from rfl] at hx1553_0)
   (try rw[zfm] at hx1553_0)
   replace p1553:=zas p1553
   replace q1553:=zas q1553
   go_wp2
   go_meet
   case rel=>exact⟨_,(((rd l0 0) != 1)),jer,H',⟨by first | omega | exact zav _⟩,⟨pV HO0.out⟩,⟨pB BK1552.out⟩,⟨bs1 GE1552.out⟩⟩
  rw[if_neg c5] at H
  exact absurd H (by simp)
 case rest=>
  clear HC2
  try clear p1
  try clear q1
  try clear hx1
  try clear qi1
  try clear p2
  try clear c4
  try clear c4b0
  try clear c4b1
  try clear c5
  try clear c5b0
  try clear c5b1
  try clear hx1553_0
  try clear p1553
  try clear q1553
  obtain⟨kq,x13_1,rfl,HA,HJ1,HO_0,BK1552,HB⟩:=hcut
  cases kq with
  | zero=>exact absurd HA.out (by simp [impl_LetterOfV.j0])
  | succ kj1=>
   have H:=HA.out
   clear HA
   simp only[impl_LetterOfV.j0] at H
   by_cases c6:x13_1=true
   ·subst c6
    rw[if_pos rfl] at H
    simp only[zcb,zcu] at H
    obtain⟨rfl,rfl,rfl,rfl⟩:=H
    have hcz7_0:wc.cell? ⟨gb1552,0,none⟩=some (.int .i64 0):=(zbd BK1552.out 0).trans rfl
    have hcz7_1:wc.cell? ⟨gb1552,1,none⟩=some (.slice none 0 0):=(zbd BK1552.out 1).trans rfl
    have hcz7_2:wc.cell? ⟨gb1552,2,none⟩=some (.slice none 0 0):=(zbd BK1552.out 2).trans rfl
    have hfz7_0:=zaw BK1552.out 0
    have hfz7_1:=zaw BK1552.out 1
    have hfz7_2:=zaw BK1552.out 2
    go_wp2
    refine zfw (results_ct rfl _ _ gb1552 55 #[.int .i64 0, .slice none 0 0, .slice none 0 0] (0,0) _ rfl (by(with_reducible repeat(first | refine zbl ?_ _ | refine zbr ?_ | refine zbm ?_ _));refine zed (cs:= #[.int .i64 0, .slice none 0 0, .slice none 0 0]) ?_ 2 _ rfl;(with_reducible repeat(first | refine zbl ?_ _ | refine zbr ?_ | refine zbm ?_ _));refine zed (cs:= #[.int .i64 0, .slice none 0 0, .slice none 0 0]) ?_ 1 _ rfl;(with_reducible repeat(first | refine zbl ?_ _ | refine zbr ?_ | refine zbm ?_ _));refine zed (cs:= #[.int .i64 0, .slice none 0 0, .slice none 0 0]) ?_ 0 _ rfl;(with_reducible repeat(first | refine zbl ?_ _ | refine zbr ?_ | refine zbm ?_ _));exact BK1552.out) Try.underlying55 rfl (by kernel_rfl)) rfl ?_
    exact⟨_,_,jex,by first | exact Kd.R_nil _ _ _ _ _ | exact Kd.N_nil _ _ _ _ _ | exact Kd.V_nil _ _ _ _ _ | exact Kd.Q_nil _ _ _ _ _ | exact Kd.S_nil _ _ _ _ _,by first | exact Kd.R_nil _ _ _ _ _ | exact Kd.N_nil _ _ _ _ _ | exact Kd.V_nil _ _ _ _ _ | exact Kd.Q_nil _ _ _ _ _ | exact Kd.S_nil _ _ _ _ _,(bs1 GE1552.out)⟩
   replace c6:=zds.mpr c6
   subst c6
   rw[if_neg (show ¬(false=true) by decide)] at H
   by_cases c8:1<(l0.length:Int)
   ·rw[if_pos c8] at H
    have c8b0:=zab c8
    have c8b1:decide (1<l0.length)=true:=zab (by omega)
    clear c8
    by_cases c9:2<(l0.length:Int)
    ·rw[if_pos c9] at H
     have c9b0:=zab c9
     have c9b1:decide (2<l0.length)=true:=zab (by omega)
     clear c9
     by_cases c10:3≤35
     ·rw[if_pos c10] at H
      have c10b0:=zas c10
      have c10b1:=zab c10
      clear c10
      by_cases c11:35≤(l0.length:Int)
      ·rw[if_pos c11] at H
       have c11b0:=zas c11
       have c11b1:=zab c11
       clear c11
       obtain⟨y1556,hy1556⟩:∃ y_:List Int,y_=((l0.take 35).drop 3):=⟨_,rfl⟩
       replace H:((impl_joined.f (([y1556]:List (List Int)))).bind fun t1564=>((impl_joined.f (([(l0.drop 35)]:List (List Int)))).bind fun t1575=>((impl_LetterOk.f (Go.bits .or .i64 (wrap64 ((wrap64 (rd l0 1))*256)) (wrap64 (rd l0 2))) t1564 t1575).bind fun t1579=>(if t1579=true then(some (Go.bits .or .i64 (wrap64 ((wrap64 (rd l0 1))*256)) (wrap64 (rd l0 2)),t1564,t1575,true)) else(some (0,([]:List Int),([]:List Int),false))))))=some (r1,r2,r3,r4):=jrw hy1556 H
       have Ny1556:=Aside0.mk hy1556
       clear hy1556
       obtain⟨y1561,hy1561⟩:∃ y_:List (List Int),y_=(([y1556]:List (List Int))):=⟨_,rfl⟩
       replace H:((impl_joined.f y1561).bind fun t1564=>((impl_joined.f (([(l0.drop 35)]:List (List Int)))).bind fun t1575=>((impl_LetterOk.f (Go.bits .or .i64 (wrap64 ((wrap64 (rd l0 1))*256)) (wrap64 (rd l0 2))) t1564 t1575).bind fun t1579=>(if t1579=true then(some (Go.bits .or .i64 (wrap64 ((wrap64 (rd l0 1))*256)) (wrap64 (rd l0 2)),t1564,t1575,true)) else(some (0,([]:List Int),([]:List Int),false))))))=some (r1,r2,r3,r4):=jrw hy1561 H
       have Ny1561:=Aside0.mk hy1561
       clear hy1561
       obtain⟨t1564,A12,H⟩:=bnd H
       have c13b0:=zas (zad jab:35≤(l0.length:Int))
       obtain⟨y1567,hy1567⟩:∃ y_:List Int,y_=(l0.drop 35):=⟨_,rfl⟩
       replace H:((impl_joined.f (([y1567]:List (List Int)))).bind fun t1575=>((impl_LetterOk.f (Go.bits .or .i64 (wrap64 ((wrap64 (rd l0 1))*256)) (wrap64 (rd l0 2))) t1564 t1575).bind fun t1579=>(if t1579=true then(some (Go.bits .or .i64 (wrap64 ((wrap64 (rd l0 1))*256)) (wrap64 (rd l0 2)),t1564,t1575,true)) else(some (0,([]:List Int),([]:List Int),false)))))=some (r1,r2,r3,r4):=jrw hy1567 H
       have Ny1567:=Aside0.mk hy1567
       clear hy1567
       obtain⟨y1572,hy1572⟩:∃ y_:List (List Int),y_=(([y1567]:List (List Int))):=⟨_,rfl⟩
       replace H:((impl_joined.f y1572).bind fun t1575=>((impl_LetterOk.f (Go.bits .or .i64 (wrap64 ((wrap64 (rd l0 1))*256)) (wrap64 (rd l0 2))) t1564 t1575).bind fun t1579=>(if t1579=true then(some (Go.bits .or .i64 (wrap64 ((wrap64 (rd l0 1))*256)) (wrap64 (rd l0 2)),t1564,t1575,true)) else(some (0,([]:List Int),([]:List Int),false)))))=some (r1,r2,r3,r4):=jrw hy1572 H
       have Ny1572:=Aside0.mk hy1572
       clear hy1572
       obtain⟨t1575,A14,H⟩:=bnd H
       obtain⟨t1579,A15,H⟩:=bnd H
       have HZ_:=Aside0.mk H
       clear H
       try go_wp2
       have n_:=jA3 (zbu HO_0.out) (zbr BK1552.out) (zay HB.out)
       clear HO_0 BK1552 HB
       obtain⟨HO_0,BK1552,HB⟩:=n_
       have p1554:0≤(1:Int):=(by omega)
       have q1554:1<(l0.length:Int):=zad jab
       obtain⟨ad1554,e1554,hx1554_0⟩:=zcd (zbx HO_0.out).2.2 1 p1554 q1554
       cases e1554
       (try simp only[show(1:Int).toNat=1 from rfl,Nat.reduceMul,Nat.reduceEqDiff,Go.Addr.add, ↓reduceIte] at hx1554_0)
       have qi1554:(1<l0.length)=True:=zas (by omega)
       (try rw[show((1:Int)).toNat=1 from rfl] at hx1554_0)
       replace p1554:=zas p1554
       replace q1554:=zas q1554
       have p1555:0≤(2:Int):=(by omega)
       have q1555:2<(l0.length:Int):=zad jab
       obtain⟨ad1555,e1555,hx1555_0⟩:=zcd (zbx HO_0.out).2.2 2 p1555 q1555
       obtain rfl:ad1554=ad1555:=(by injection e1555)
       (try simp only[show(2:Int).toNat=2 from rfl,Nat.reduceMul,Nat.reduceEqDiff,Go.Addr.add, ↓reduceIte] at hx1555_0)
       have qi1555:(2<l0.length)=True:=zas (by omega)
       (try rw[show((2:Int)).toNat=2 from rfl] at hx1555_0)
       replace p1555:=zas p1555
       replace q1555:=zas q1555
       have q18:(35:Int)≤((l0.length:Int):Int):=zad jab
       obtain⟨i018,hi018,_,hsz18,_⟩:=info_parts info5
       have hroom18:l0.length≤c0:=(zbx HO_0.out).2.1
       have hC18:Kd.F (Kd.int .u8) _ _ (some ad1554) l0.length l0:=(Kd.V_at (base:=w.heap.size) HO_0.out).2.2
       have ql18:(3:Int)≤(35:Int):=(by omega)
       have hcut18:=cut_mid (P:=Try.prog) 23 5 .i64 .i64 Try.underlying23 hi018 1 hsz18 (some ad1554) l0.length c0 3 35 (by omega) ql18 q18 hroom18
       have hr18:=Kd.F_mid (lo:=(3:Int).toNat) (hi:=(35:Int).toNat) (c:=c0) hC18 (by omega) (by omega) hroom18
       obtain⟨A18,hA18⟩:∃ A1,A1=(if c0=(3:Int).toNat then(some ad1554) else((some ad1554):Option Addr).map (·.add ((3:Int).toNat*1))):=⟨_,rfl⟩
       obtain⟨c18,hc18⟩:∃ c1,c1=c0 - (3:Int).toNat:=⟨_,rfl⟩
       have hy18:y1556.length=(35:Int).toNat - (3:Int).toNat:=(by rw[Ny1556.out,zdb,zdc] <;> omega)
       rw[show((l0).take (35:Int).toNat).drop (3:Int).toNat=y1556 from Ny1556.out.symm] at hr18
       replace hr18:Kd.F (Kd.int .u8) _ _ A18 y1556.length y1556:=(by rw[hA18];exact hr18)
       rw[← hy18, ← hA18, ← hc18] at hcut18
       have HO1560:=Aside0.mk (show Kd.V (Kd.int .u8) 5 _ w.heap.size _ (.slice A18 y1556.length c18) y1556 from zga (by rw[hy18,hc18];exact zgi (zdo (by omega) hroom18) _) hr18)
       have HC1560:=Aside0.mk (show y1556.length≤c18 from by rw[hy18,hc18];exact zgi (zdo (by omega) hroom18) _)
       clear hr18 hC18 hroom18 hi018 hsz18 hc18
       have KY18:=Aside0.mk hy18
       have KA18:=Aside0.mk hA18
       clear hy18 hA18
       replace q18:=zas q18
       have q19:(35:Int)≤((l0.length:Int):Int):=zad jab
       obtain⟨i019,hi019,_,hsz19,_⟩:=info_parts info5
       have hroom19:l0.length≤c0:=(zbx HO_0.out).2.1
       have hC19:Kd.F (Kd.int .u8) _ _ (some ad1554) l0.length l0:=(Kd.V_at (base:=w.heap.size) HO_0.out).2.2
       have hcut19:=cut_from (P:=Try.prog) 23 5 .i64 Try.underlying23 hi019 1 hsz19 (some ad1554) l0.length c0 35 (by omega) q19
       have hr19:=Kd.F_cut (m:=(35:Int).toNat) (c:=c0) hC19 (by omega) hroom19
       obtain⟨A19,hA19⟩:∃ A1,A1=(if c0=(35:Int).toNat then(some ad1554) else((some ad1554):Option Addr).map (·.add ((35:Int).toNat*1))):=⟨_,rfl⟩
       obtain⟨c19,hc19⟩:∃ c1,c1=c0 - (35:Int).toNat:=⟨_,rfl⟩
       have hy19:y1567.length=l0.length - (35:Int).toNat:=(by rw[Ny1567.out,zdb] <;> omega)
       rw[show(l0).drop (35:Int).toNat=y1567 from Ny1567.out.symm] at hr19
       replace hr19:Kd.F (Kd.int .u8) _ _ A19 y1567.length y1567:=(by rw[hA19];exact hr19)
       rw[← hy19, ← hA19, ← hc19] at hcut19
       have HO1571:=Aside0.mk (show Kd.V (Kd.int .u8) 5 _ w.heap.size _ (.slice A19 y1567.length c19) y1567 from zga (by rw[hy19,hc19];exact zgi hroom19 _) hr19)
       have HC1571:=Aside0.mk (show y1567.length≤c19 from by rw[hy19,hc19];exact zgi hroom19 _)
       clear hr19 hC19 hroom19 hi019 hsz19 hc19
       have KY19:=Aside0.mk hy19
       have KA19:=Aside0.mk hA19
       clear hy19 hA19
       replace q19:=zas q19
       refine start_ (n:=21) (S:=fun w'=>w'.cell? ⟨ad1554.block,ad1554.off+1,none⟩=some (.int .u8 (rd l0 1))∧w'.cell? ⟨ad1554.block,ad1554.off+2,none⟩=some (.int .u8 (rd l0 2))) (ds:=[]) #[false,false,false,false,false,false,false,false,false,false,false,false,false,false,false,false,false,false,false,false,false] (by kernel_rfl) rfl rfl ⟨hx1554_0,hx1555_0⟩ (fun hHeld=>?_);refine zgh impl_LetterOfV.tab3 impl_LetterOfV.bits3 (fun HT_ HW_=>?_)
       generalize wc.drew=w17 at HO_0 BK1552 HB HO1560 HO1571 hx1554_0 hx1555_0 hHeld ⊢
       refine pu 0 15 HT_.out ?_
       refine pu 1 16 HT_.out ?_
       refine pu 5 20 HT_.out ?_
       refine pu 6 21 HT_.out ?_
       refine pu 10 25 HT_.out ?_
       refine pu 11 26 HT_.out ?_
       refine pu 14 29 HT_.out ?_
       refine pu 15 30 HT_.out ?_
       refine tk 2 17 HT_.out HW_.out hHeld ?_
       refine pu 3 18 HT_.out ?_
       refine pu 4 19 HT_.out ?_
       refine tk 7 22 HT_.out HW_.out hHeld ?_
       refine pu 8 23 HT_.out ?_
       refine pu 9 24 HT_.out ?_
       refine join_ (σ:=Value×Value×Value×Value×Nat) 1 #[true,true,true,true,true,true,true,true,true,true,true,true,true,true,true,true,true,true,true,true,false] (fun s_=>[(27,s_.1),(28,s_.2.1),(31,s_.2.2.1),(32,s_.2.2.2.1),(4, .pointer (some ⟨s_.2.2.2.2,0,none⟩)),(33, .agg #[.int .i64 (Go.bits .or .i64 (wrap64 ((wrap64 (rd l0 1))*256)) (wrap64 (rd l0 2))),s_.2.1,s_.2.2.2.1])]) (fun s_ w'=>(w'.cell? ⟨ad1554.block,ad1554.off+1,none⟩=some (.int .u8 (rd l0 1))∧w'.cell? ⟨ad1554.block,ad1554.off+2,none⟩=some (.int .u8 (rd l0 2)))∧(Kd.V (Kd.int .u8) 5 w' w.heap.size (fun k_=>(P0_ k_∨w.heap.size≤k_)∧some k_≠(s_.1:Value).ownBlock∧some k_≠(s_.2.1:Value).ownBlock∧some k_≠(s_.2.2.1:Value).ownBlock∧some k_≠(s_.2.2.2.1:Value).ownBlock∧k_≠gb1552∧k_≠s_.2.2.2.2) (.slice A18 y1556.length c18) y1556)∧(Kd.N (Kd.slice 5 (Kd.int .u8)) 23 w' w.heap.size (fun k_=>(P0_ k_∨w.heap.size≤k_)∧some k_≠(s_.2.1:Value).ownBlock∧some k_≠(s_.2.2.1:Value).ownBlock∧some k_≠(s_.2.2.2.1:Value).ownBlock∧k_≠gb1552∧k_≠s_.2.2.2.2) s_.1 y1561)∧(Kd.R (Kd.int .u8) 5 w' w.heap.size (fun k_=>(w.heap.size≤k_)∧some k_≠(s_.2.2.2.1:Value).ownBlock) s_.2.1 t1564)∧(Kd.V (Kd.int .u8) 5 w' w.heap.size (fun k_=>(P0_ k_∨w.heap.size≤k_)∧some k_≠(s_.1:Value).ownBlock∧some k_≠(s_.2.1:Value).ownBlock∧some k_≠(s_.2.2.1:Value).ownBlock∧some k_≠(s_.2.2.2.1:Value).ownBlock∧k_≠gb1552∧k_≠s_.2.2.2.2) (.slice A19 y1567.length c19) y1567)∧(Kd.N (Kd.slice 5 (Kd.int .u8)) 23 w' w.heap.size (fun k_=>(P0_ k_∨w.heap.size≤k_)∧some k_≠(s_.1:Value).ownBlock∧some k_≠(s_.2.1:Value).ownBlock∧some k_≠(s_.2.2.2.1:Value).ownBlock∧k_≠gb1552∧k_≠s_.2.2.2.2) s_.2.2.1 y1572)∧(Kd.R (Kd.int .u8) 5 w' w.heap.size (fun k_=>(w.heap.size≤k_)∧some k_≠(s_.2.1:Value).ownBlock) s_.2.2.2.1 t1575)∧(Kd.V (Kd.int .u8) 5 w' w.heap.size (fun k_=>(P0_ k_∨w.heap.size≤k_)∧some k_≠(s_.1:Value).ownBlock∧some k_≠(s_.2.1:Value).ownBlock∧some k_≠(s_.2.2.1:Value).ownBlock∧some k_≠(s_.2.2.2.1:Value).ownBlock∧k_≠gb1552∧k_≠s_.2.2.2.2) (.slice (some ad1554) l0.length c0) l0)∧(w'.heap[gb1552]? =some (.cells #[.int .i64 0, .slice none 0 0, .slice none 0 0] 55 (0,0)))∧(w'.heap[s_.2.2.2.2]? =some (.cells #[.int .i64 0, .slice none 0 0, .slice none 0 0] 55 (0,0)))∧(w.heap.size≤s_.2.2.2.2)∧(w.heap.size≤s_.2.2.2.2)∧(gb1552≠s_.2.2.2.2)∧(s_.2.2.2.2≠gb1552)∧(Below w.heap.size w w')) ?_ ?_
       rotate_left
       ·intro hJ12_13_16_17_19
        refine join_ (σ:=Value×Value×Value×Value) 2 #[true,true,true,true,true,true,true,true,true,true,true,true,true,true,true,true,true,true,true,false,false] (fun s_=>[(27,s_.1),(28,s_.2.1),(31,s_.2.2.1),(32,s_.2.2.2),(33, .agg #[.int .i64 (Go.bits .or .i64 (wrap64 ((wrap64 (rd l0 1))*256)) (wrap64 (rd l0 2))),s_.2.1,s_.2.2.2])]) (fun s_ w'=>(w'.cell? ⟨ad1554.block,ad1554.off+1,none⟩=some (.int .u8 (rd l0 1))∧w'.cell? ⟨ad1554.block,ad1554.off+2,none⟩=some (.int .u8 (rd l0 2)))∧(Kd.V (Kd.int .u8) 5 w' w.heap.size (fun k_=>(P0_ k_∨w.heap.size≤k_)∧some k_≠(s_.1:Value).ownBlock∧some k_≠(s_.2.1:Value).ownBlock∧some k_≠(s_.2.2.1:Value).ownBlock∧some k_≠(s_.2.2.2:Value).ownBlock∧k_≠gb1552) (.slice A18 y1556.length c18) y1556)∧(Kd.N (Kd.slice 5 (Kd.int .u8)) 23 w' w.heap.size (fun k_=>(P0_ k_∨w.heap.size≤k_)∧some k_≠(s_.2.1:Value).ownBlock∧some k_≠(s_.2.2.1:Value).ownBlock∧some k_≠(s_.2.2.2:Value).ownBlock∧k_≠gb1552) s_.1 y1561)∧(Kd.R (Kd.int .u8) 5 w' w.heap.size (fun k_=>(w.heap.size≤k_)∧some k_≠(s_.2.2.2:Value).ownBlock) s_.2.1 t1564)∧(Kd.V (Kd.int .u8) 5 w' w.heap.size (fun k_=>(P0_ k_∨w.heap.size≤k_)∧some k_≠(s_.1:Value).ownBlock∧some k_≠(s_.2.1:Value).ownBlock∧some k_≠(s_.2.2.1:Value).ownBlock∧some k_≠(s_.2.2.2:Value).ownBlock∧k_≠gb1552) (.slice A19 y1567.length c19) y1567)∧(Kd.N (Kd.slice 5 (Kd.int .u8)) 23 w' w.heap.size (fun k_=>(P0_ k_∨w.heap.size≤k_)∧some k_≠(s_.1:Value).ownBlock∧some k_≠(s_.2.1:Value).ownBlock∧some k_≠(s_.2.2.2:Value).ownBlock∧k_≠gb1552) s_.2.2.1 y1572)∧(Kd.R (Kd.int .u8) 5 w' w.heap.size (fun k_=>(w.heap.size≤k_)∧some k_≠(s_.2.1:Value).ownBlock) s_.2.2.2 t1575)∧(Kd.V (Kd.int .u8) 5 w' w.heap.size (fun k_=>(P0_ k_∨w.heap.size≤k_)∧some k_≠(s_.1:Value).ownBlock∧some k_≠(s_.2.1:Value).ownBlock∧some k_≠(s_.2.2.1:Value).ownBlock∧some k_≠(s_.2.2.2:Value).ownBlock∧k_≠gb1552) (.slice (some ad1554) l0.length c0) l0)∧(w'.heap[gb1552]? =some (.cells #[.int .i64 0, .slice none 0 0, .slice none 0 0] 55 (0,0)))∧(Below w.heap.size w w')) ?_ ?_
        rotate_left
        ·intro hJ12_13_16_17
         refine join_ (σ:=Value×Value×Value×Nat) 3 #[true,true,true,true,true,true,true,true,true,true,true,true,true,true,true,true,true,false,false,true,false] (fun s_=>[(27,s_.1),(28,s_.2.1),(31,s_.2.2.1),(4, .pointer (some ⟨s_.2.2.2,0,none⟩))]) (fun s_ w'=>(w'.cell? ⟨ad1554.block,ad1554.off+1,none⟩=some (.int .u8 (rd l0 1))∧w'.cell? ⟨ad1554.block,ad1554.off+2,none⟩=some (.int .u8 (rd l0 2)))∧(Kd.V (Kd.int .u8) 5 w' w.heap.size (fun k_=>(P0_ k_∨w.heap.size≤k_)∧some k_≠(s_.1:Value).ownBlock∧some k_≠(s_.2.1:Value).ownBlock∧some k_≠(s_.2.2.1:Value).ownBlock∧k_≠gb1552∧k_≠s_.2.2.2) (.slice A18 y1556.length c18) y1556)∧(Kd.N (Kd.slice 5 (Kd.int .u8)) 23 w' w.heap.size (fun k_=>(P0_ k_∨w.heap.size≤k_)∧some k_≠(s_.2.1:Value).ownBlock∧some k_≠(s_.2.2.1:Value).ownBlock∧k_≠gb1552∧k_≠s_.2.2.2) s_.1 y1561)∧(Kd.R (Kd.int .u8) 5 w' w.heap.size (fun k_=>(w.heap.size≤k_)) s_.2.1 t1564)∧(Kd.V (Kd.int .u8) 5 w' w.heap.size (fun k_=>(P0_ k_∨w.heap.size≤k_)∧some k_≠(s_.1:Value).ownBlock∧some k_≠(s_.2.1:Value).ownBlock∧some k_≠(s_.2.2.1:Value).ownBlock∧k_≠gb1552∧k_≠s_.2.2.2) (.slice A19 y1567.length c19) y1567)∧(Kd.N (Kd.slice 5 (Kd.int .u8)) 23 w' w.heap.size (fun k_=>(P0_ k_∨w.heap.size≤k_)∧some k_≠(s_.1:Value).ownBlock∧some k_≠(s_.2.1:Value).ownBlock∧k_≠gb1552∧k_≠s_.2.2.2) s_.2.2.1 y1572)∧(Kd.V (Kd.int .u8) 5 w' w.heap.size (fun k_=>(P0_ k_∨w.heap.size≤k_)∧some k_≠(s_.1:Value).ownBlock∧some k_≠(s_.2.1:Value).ownBlock∧some k_≠(s_.2.2.1:Value).ownBlock∧k_≠gb1552∧k_≠s_.2.2.2) (.slice (some ad1554) l0.length c0) l0)∧(w'.heap[gb1552]? =some (.cells #[.int .i64 0, .slice none 0 0, .slice none 0 0] 55 (0,0)))∧(w'.heap[s_.2.2.2]? =some (.cells #[.int .i64 0, .slice none 0 0, .slice none 0 0] 55 (0,0)))∧(w.heap.size≤s_.2.2.2)∧(w.heap.size≤s_.2.2.2)∧(gb1552≠s_.2.2.2)∧(s_.2.2.2≠gb1552)∧(Below w.heap.size w w')) ?_ ?_
         rotate_left
         ·intro hJ12_13_16_19
          refine join_ (σ:=Value×Value×Value) 4 #[true,true,true,true,true,true,true,true,true,true,true,true,true,true,true,true,true,false,false,false,false] (fun s_=>[(27,s_.1),(28,s_.2.1),(31,s_.2.2)]) (fun s_ w'=>(w'.cell? ⟨ad1554.block,ad1554.off+1,none⟩=some (.int .u8 (rd l0 1))∧w'.cell? ⟨ad1554.block,ad1554.off+2,none⟩=some (.int .u8 (rd l0 2)))∧(Kd.V (Kd.int .u8) 5 w' w.heap.size (fun k_=>(P0_ k_∨w.heap.size≤k_)∧some k_≠(s_.1:Value).ownBlock∧some k_≠(s_.2.1:Value).ownBlock∧some k_≠(s_.2.2:Value).ownBlock∧k_≠gb1552) (.slice A18 y1556.length c18) y1556)∧(Kd.N (Kd.slice 5 (Kd.int .u8)) 23 w' w.heap.size (fun k_=>(P0_ k_∨w.heap.size≤k_)∧some k_≠(s_.2.1:Value).ownBlock∧some k_≠(s_.2.2:Value).ownBlock∧k_≠gb1552) s_.1 y1561)∧(Kd.R (Kd.int .u8) 5 w' w.heap.size (fun k_=>(w.heap.size≤k_)) s_.2.1 t1564)∧(Kd.V (Kd.int .u8) 5 w' w.heap.size (fun k_=>(P0_ k_∨w.heap.size≤k_)∧some k_≠(s_.1:Value).ownBlock∧some k_≠(s_.2.1:Value).ownBlock∧some k_≠(s_.2.2:Value).ownBlock∧k_≠gb1552) (.slice A19 y1567.length c19) y1567)∧(Kd.N (Kd.slice 5 (Kd.int .u8)) 23 w' w.heap.size (fun k_=>(P0_ k_∨w.heap.size≤k_)∧some k_≠(s_.1:Value).ownBlock∧some k_≠(s_.2.1:Value).ownBlock∧k_≠gb1552) s_.2.2 y1572)∧(Kd.V (Kd.int .u8) 5 w' w.heap.size (fun k_=>(P0_ k_∨w.heap.size≤k_)∧some k_≠(s_.1:Value).ownBlock∧some k_≠(s_.2.1:Value).ownBlock∧some k_≠(s_.2.2:Value).ownBlock∧k_≠gb1552) (.slice (some ad1554) l0.length c0) l0)∧(w'.heap[gb1552]? =some (.cells #[.int .i64 0, .slice none 0 0, .slice none 0 0] 55 (0,0)))∧(Below w.heap.size w w')) ?_ ?_
          rotate_left
          ·intro hJ12_13_16
           refine join_ (σ:=Value×Value×Nat) 4 #[true,true,true,true,true,true,true,true,true,true,true,true,true,true,true,true,false,false,false,true,false] (fun s_=>[(27,s_.1),(28,s_.2.1),(4, .pointer (some ⟨s_.2.2,0,none⟩))]) (fun s_ w'=>(w'.cell? ⟨ad1554.block,ad1554.off+1,none⟩=some (.int .u8 (rd l0 1))∧w'.cell? ⟨ad1554.block,ad1554.off+2,none⟩=some (.int .u8 (rd l0 2)))∧(Kd.V (Kd.int .u8) 5 w' w.heap.size (fun k_=>(P0_ k_∨w.heap.size≤k_)∧some k_≠(s_.1:Value).ownBlock∧some k_≠(s_.2.1:Value).ownBlock∧k_≠gb1552∧k_≠s_.2.2) (.slice A18 y1556.length c18) y1556)∧(Kd.N (Kd.slice 5 (Kd.int .u8)) 23 w' w.heap.size (fun k_=>(P0_ k_∨w.heap.size≤k_)∧some k_≠(s_.2.1:Value).ownBlock∧k_≠gb1552∧k_≠s_.2.2) s_.1 y1561)∧(Kd.R (Kd.int .u8) 5 w' w.heap.size (fun k_=>(w.heap.size≤k_)) s_.2.1 t1564)∧(Kd.V (Kd.int .u8) 5 w' w.heap.size (fun k_=>(P0_ k_∨w.heap.size≤k_)∧some k_≠(s_.1:Value).ownBlock∧some k_≠(s_.2.1:Value).ownBlock∧k_≠gb1552∧k_≠s_.2.2) (.slice A19 y1567.length c19) y1567)∧(Kd.V (Kd.int .u8) 5 w' w.heap.size (fun k_=>(P0_ k_∨w.heap.size≤k_)∧some k_≠(s_.1:Value).ownBlock∧some k_≠(s_.2.1:Value).ownBlock∧k_≠gb1552∧k_≠s_.2.2) (.slice (some ad1554) l0.length c0) l0)∧(w'.heap[gb1552]? =some (.cells #[.int .i64 0, .slice none 0 0, .slice none 0 0] 55 (0,0)))∧(w'.heap[s_.2.2]? =some (.cells #[.int .i64 0, .slice none 0 0, .slice none 0 0] 55 (0,0)))∧(w.heap.size≤s_.2.2)∧(w.heap.size≤s_.2.2)∧(gb1552≠s_.2.2)∧(s_.2.2≠gb1552)∧(Below w.heap.size w w')) ?_ ?_
           rotate_left
           ·intro hJ12_13_19
            refine join_ (σ:=Value×Value×Nat) 4 #[true,true,true,true,true,true,true,true,true,true,true,true,true,false,true,true,true,false,false,true,false] (fun s_=>[(27,s_.1),(31,s_.2.1),(4, .pointer (some ⟨s_.2.2,0,none⟩))]) (fun s_ w'=>(w'.cell? ⟨ad1554.block,ad1554.off+1,none⟩=some (.int .u8 (rd l0 1))∧w'.cell? ⟨ad1554.block,ad1554.off+2,none⟩=some (.int .u8 (rd l0 2)))∧(Kd.V (Kd.int .u8) 5 w' w.heap.size (fun k_=>(P0_ k_∨w.heap.size≤k_)∧some k_≠(s_.1:Value).ownBlock∧some k_≠(s_.2.1:Value).ownBlock∧k_≠gb1552∧k_≠s_.2.2) (.slice A18 y1556.length c18) y1556)∧(Kd.N (Kd.slice 5 (Kd.int .u8)) 23 w' w.heap.size (fun k_=>(P0_ k_∨w.heap.size≤k_)∧some k_≠(s_.2.1:Value).ownBlock∧k_≠gb1552∧k_≠s_.2.2) s_.1 y1561)∧(Kd.V (Kd.int .u8) 5 w' w.heap.size (fun k_=>(P0_ k_∨w.heap.size≤k_)∧some k_≠(s_.1:Value).ownBlock∧some k_≠(s_.2.1:Value).ownBlock∧k_≠gb1552∧k_≠s_.2.2) (.slice A19 y1567.length c19) y1567)∧(Kd.N (Kd.slice 5 (Kd.int .u8)) 23 w' w.heap.size (fun k_=>(P0_ k_∨w.heap.size≤k_)∧some k_≠(s_.1:Value).ownBlock∧k_≠gb1552∧k_≠s_.2.2) s_.2.1 y1572)∧(Kd.V (Kd.int .u8) 5 w' w.heap.size (fun k_=>(P0_ k_∨w.heap.size≤k_)∧some k_≠(s_.1:Value).ownBlock∧some k_≠(s_.2.1:Value).ownBlock∧k_≠gb1552∧k_≠s_.2.2) (.slice (some ad1554) l0.length c0) l0)∧(w'.heap[gb1552]? =some (.cells #[.int .i64 0, .slice none 0 0, .slice none 0 0] 55 (0,0)))∧(w'.heap[s_.2.2]? =some (.cells #[.int .i64 0, .slice none 0 0, .slice none 0 0] 55 (0,0)))∧(w.heap.size≤s_.2.2)∧(w.heap.size≤s_.2.2)∧(gb1552≠s_.2.2)∧(s_.2.2≠gb1552)∧(Below w.heap.size w w')) ?_ ?_
            rotate_left
            ·intro hJ12_16_19
             refine join_ (σ:=Value×Value) 5 #[true,true,true,true,true,true,true,true,true,true,true,true,true,true,true,true,false,false,false,false,false] (fun s_=>[(27,s_.1),(28,s_.2)]) (fun s_ w'=>(w'.cell? ⟨ad1554.block,ad1554.off+1,none⟩=some (.int .u8 (rd l0 1))∧w'.cell? ⟨ad1554.block,ad1554.off+2,none⟩=some (.int .u8 (rd l0 2)))∧(Kd.V (Kd.int .u8) 5 w' w.heap.size (fun k_=>(P0_ k_∨w.heap.size≤k_)∧some k_≠(s_.1:Value).ownBlock∧some k_≠(s_.2:Value).ownBlock∧k_≠gb1552) (.slice A18 y1556.length c18) y1556)∧(Kd.N (Kd.slice 5 (Kd.int .u8)) 23 w' w.heap.size (fun k_=>(P0_ k_∨w.heap.size≤k_)∧some k_≠(s_.2:Value).ownBlock∧k_≠gb1552) s_.1 y1561)∧(Kd.R (Kd.int .u8) 5 w' w.heap.size (fun k_=>(w.heap.size≤k_)) s_.2 t1564)∧(Kd.V (Kd.int .u8) 5 w' w.heap.size (fun k_=>(P0_ k_∨w.heap.size≤k_)∧some k_≠(s_.1:Value).ownBlock∧some k_≠(s_.2:Value).ownBlock∧k_≠gb1552) (.slice A19 y1567.length c19) y1567)∧(Kd.V (Kd.int .u8) 5 w' w.heap.size (fun k_=>(P0_ k_∨w.heap.size≤k_)∧some k_≠(s_.1:Value).ownBlock∧some k_≠(s_.2:Value).ownBlock∧k_≠gb1552) (.slice (some ad1554) l0.length c0) l0)∧(w'.heap[gb1552]? =some (.cells #[.int .i64 0, .slice none 0 0, .slice none 0 0] 55 (0,0)))∧(Below w.heap.size w w')) ?_ ?_
             rotate_left
             ·intro hJ12_13
              refine join_ (σ:=Value×Value) 5 #[true,true,true,true,true,true,true,true,true,true,true,true,true,false,true,true,true,false,false,false,false] (fun s_=>[(27,s_.1),(31,s_.2)]) (fun s_ w'=>(w'.cell? ⟨ad1554.block,ad1554.off+1,none⟩=some (.int .u8 (rd l0 1))∧w'.cell? ⟨ad1554.block,ad1554.off+2,none⟩=some (.int .u8 (rd l0 2)))∧(Kd.V (Kd.int .u8) 5 w' w.heap.size (fun k_=>(P0_ k_∨w.heap.size≤k_)∧some k_≠(s_.1:Value).ownBlock∧some k_≠(s_.2:Value).ownBlock∧k_≠gb1552) (.slice A18 y1556.length c18) y1556)∧(Kd.N (Kd.slice 5 (Kd.int .u8)) 23 w' w.heap.size (fun k_=>(P0_ k_∨w.heap.size≤k_)∧some k_≠(s_.2:Value).ownBlock∧k_≠gb1552) s_.1 y1561)∧(Kd.V (Kd.int .u8) 5 w' w.heap.size (fun k_=>(P0_ k_∨w.heap.size≤k_)∧some k_≠(s_.1:Value).ownBlock∧some k_≠(s_.2:Value).ownBlock∧k_≠gb1552) (.slice A19 y1567.length c19) y1567)∧(Kd.N (Kd.slice 5 (Kd.int .u8)) 23 w' w.heap.size (fun k_=>(P0_ k_∨w.heap.size≤k_)∧some k_≠(s_.1:Value).ownBlock∧k_≠gb1552) s_.2 y1572)∧(Kd.V (Kd.int .u8) 5 w' w.heap.size (fun k_=>(P0_ k_∨w.heap.size≤k_)∧some k_≠(s_.1:Value).ownBlock∧some k_≠(s_.2:Value).ownBlock∧k_≠gb1552) (.slice (some ad1554) l0.length c0) l0)∧(w'.heap[gb1552]? =some (.cells #[.int .i64 0, .slice none 0 0, .slice none 0 0] 55 (0,0)))∧(Below w.heap.size w w')) ?_ ?_
              rotate_left
              ·intro hJ12_16
               refine join_ (σ:=Value×Nat) 5 #[true,true,true,true,true,true,true,true,true,true,true,true,true,false,true,true,false,false,false,true,false] (fun s_=>[(27,s_.1),(4, .pointer (some ⟨s_.2,0,none⟩))]) (fun s_ w'=>(w'.cell? ⟨ad1554.block,ad1554.off+1,none⟩=some (.int .u8 (rd l0 1))∧w'.cell? ⟨ad1554.block,ad1554.off+2,none⟩=some (.int .u8 (rd l0 2)))∧(Kd.V (Kd.int .u8) 5 w' w.heap.size (fun k_=>(P0_ k_∨w.heap.size≤k_)∧some k_≠(s_.1:Value).ownBlock∧k_≠gb1552∧k_≠s_.2) (.slice A18 y1556.length c18) y1556)∧(Kd.N (Kd.slice 5 (Kd.int .u8)) 23 w' w.heap.size (fun k_=>(P0_ k_∨w.heap.size≤k_)∧k_≠gb1552∧k_≠s_.2) s_.1 y1561)∧(Kd.V (Kd.int .u8) 5 w' w.heap.size (fun k_=>(P0_ k_∨w.heap.size≤k_)∧some k_≠(s_.1:Value).ownBlock∧k_≠gb1552∧k_≠s_.2) (.slice A19 y1567.length c19) y1567)∧(Kd.V (Kd.int .u8) 5 w' w.heap.size (fun k_=>(P0_ k_∨w.heap.size≤k_)∧some k_≠(s_.1:Value).ownBlock∧k_≠gb1552∧k_≠s_.2) (.slice (some ad1554) l0.length c0) l0)∧(w'.heap[gb1552]? =some (.cells #[.int .i64 0, .slice none 0 0, .slice none 0 0] 55 (0,0)))∧(w'.heap[s_.2]? =some (.cells #[.int .i64 0, .slice none 0 0, .slice none 0 0] 55 (0,0)))∧(w.heap.size≤s_.2)∧(w.heap.size≤s_.2)∧(gb1552≠s_.2)∧(s_.2≠gb1552)∧(Below w.heap.size w w')) ?_ ?_
               rotate_left
               ·intro hJ12_19
                refine join_ (σ:=Value×Nat) 5 #[true,true,true,true,true,true,true,true,true,true,true,true,false,false,true,true,true,false,false,true,false] (fun s_=>[(31,s_.1),(4, .pointer (some ⟨s_.2,0,none⟩))]) (fun s_ w'=>(w'.cell? ⟨ad1554.block,ad1554.off+1,none⟩=some (.int .u8 (rd l0 1))∧w'.cell? ⟨ad1554.block,ad1554.off+2,none⟩=some (.int .u8 (rd l0 2)))∧(Kd.V (Kd.int .u8) 5 w' w.heap.size (fun k_=>(P0_ k_∨w.heap.size≤k_)∧some k_≠(s_.1:Value).ownBlock∧k_≠gb1552∧k_≠s_.2) (.slice A18 y1556.length c18) y1556)∧(Kd.V (Kd.int .u8) 5 w' w.heap.size (fun k_=>(P0_ k_∨w.heap.size≤k_)∧some k_≠(s_.1:Value).ownBlock∧k_≠gb1552∧k_≠s_.2) (.slice A19 y1567.length c19) y1567)∧(Kd.N (Kd.slice 5 (Kd.int .u8)) 23 w' w.heap.size (fun k_=>(P0_ k_∨w.heap.size≤k_)∧k_≠gb1552∧k_≠s_.2) s_.1 y1572)∧(Kd.V (Kd.int .u8) 5 w' w.heap.size (fun k_=>(P0_ k_∨w.heap.size≤k_)∧some k_≠(s_.1:Value).ownBlock∧k_≠gb1552∧k_≠s_.2) (.slice (some ad1554) l0.length c0) l0)∧(w'.heap[gb1552]? =some (.cells #[.int .i64 0, .slice none 0 0, .slice none 0 0] 55 (0,0)))∧(w'.heap[s_.2]? =some (.cells #[.int .i64 0, .slice none 0 0, .slice none 0 0] 55 (0,0)))∧(w.heap.size≤s_.2)∧(w.heap.size≤s_.2)∧(gb1552≠s_.2)∧(s_.2≠gb1552)∧(Below w.heap.size w w')) ?_ ?_
                rotate_left
                ·intro hJ16_19
                 refine join_ (σ:=Value) 6 #[true,true,true,true,true,true,true,true,true,true,true,true,true,false,true,true,false,false,false,false,false] (fun s_=>[(27,s_)]) (fun s_ w'=>(w'.cell? ⟨ad1554.block,ad1554.off+1,none⟩=some (.int .u8 (rd l0 1))∧w'.cell? ⟨ad1554.block,ad1554.off+2,none⟩=some (.int .u8 (rd l0 2)))∧(Kd.V (Kd.int .u8) 5 w' w.heap.size (fun k_=>(P0_ k_∨w.heap.size≤k_)∧some k_≠(s_:Value).ownBlock∧k_≠gb1552) (.slice A18 y1556.length c18) y1556)∧(Kd.N (Kd.slice 5 (Kd.int .u8)) 23 w' w.heap.size (fun k_=>(P0_ k_∨w.heap.size≤k_)∧k_≠gb1552) s_ y1561)∧(Kd.V (Kd.int .u8) 5 w' w.heap.size (fun k_=>(P0_ k_∨w.heap.size≤k_)∧some k_≠(s_:Value).ownBlock∧k_≠gb1552) (.slice A19 y1567.length c19) y1567)∧(Kd.V (Kd.int .u8) 5 w' w.heap.size (fun k_=>(P0_ k_∨w.heap.size≤k_)∧some k_≠(s_:Value).ownBlock∧k_≠gb1552) (.slice (some ad1554) l0.length c0) l0)∧(w'.heap[gb1552]? =some (.cells #[.int .i64 0, .slice none 0 0, .slice none 0 0] 55 (0,0)))∧(Below w.heap.size w w')) ?_ ?_
                 rotate_left
                 ·intro hJ12
                  refine join_ (σ:=Value) 6 #[true,true,true,true,true,true,true,true,true,true,true,true,false,false,true,true,true,false,false,false,false] (fun s_=>[(31,s_)]) (fun s_ w'=>(w'.cell? ⟨ad1554.block,ad1554.off+1,none⟩=some (.int .u8 (rd l0 1))∧w'.cell? ⟨ad1554.block,ad1554.off+2,none⟩=some (.int .u8 (rd l0 2)))∧(Kd.V (Kd.int .u8) 5 w' w.heap.size (fun k_=>(P0_ k_∨w.heap.size≤k_)∧some k_≠(s_:Value).ownBlock∧k_≠gb1552) (.slice A18 y1556.length c18) y1556)∧(Kd.V (Kd.int .u8) 5 w' w.heap.size (fun k_=>(P0_ k_∨w.heap.size≤k_)∧some k_≠(s_:Value).ownBlock∧k_≠gb1552) (.slice A19 y1567.length c19) y1567)∧(Kd.N (Kd.slice 5 (Kd.int .u8)) 23 w' w.heap.size (fun k_=>(P0_ k_∨w.heap.size≤k_)∧k_≠gb1552) s_ y1572)∧(Kd.V (Kd.int .u8) 5 w' w.heap.size (fun k_=>(P0_ k_∨w.heap.size≤k_)∧some k_≠(s_:Value).ownBlock∧k_≠gb1552) (.slice (some ad1554) l0.length c0) l0)∧(w'.heap[gb1552]? =some (.cells #[.int .i64 0, .slice none 0 0, .slice none 0 0] 55 (0,0)))∧(Below w.heap.size w w')) ?_ ?_
                  rotate_left
                  ·intro hJ16
                   refine join_ (σ:=Nat) 6 #[true,true,true,true,true,true,true,true,true,true,true,true,false,false,true,true,false,false,false,true,false] (fun s_=>[(4, .pointer (some ⟨s_,0,none⟩))]) (fun s_ w'=>(w'.cell? ⟨ad1554.block,ad1554.off+1,none⟩=some (.int .u8 (rd l0 1))∧w'.cell? ⟨ad1554.block,ad1554.off+2,none⟩=some (.int .u8 (rd l0 2)))∧(Kd.V (Kd.int .u8) 5 w' w.heap.size (fun k_=>(P0_ k_∨w.heap.size≤k_)∧k_≠gb1552∧k_≠s_) (.slice A18 y1556.length c18) y1556)∧(Kd.V (Kd.int .u8) 5 w' w.heap.size (fun k_=>(P0_ k_∨w.heap.size≤k_)∧k_≠gb1552∧k_≠s_) (.slice A19 y1567.length c19) y1567)∧(Kd.V (Kd.int .u8) 5 w' w.heap.size (fun k_=>(P0_ k_∨w.heap.size≤k_)∧k_≠gb1552∧k_≠s_) (.slice (some ad1554) l0.length c0) l0)∧(w'.heap[gb1552]? =some (.cells #[.int .i64 0, .slice none 0 0, .slice none 0 0] 55 (0,0)))∧(w'.heap[s_]? =some (.cells #[.int .i64 0, .slice none 0 0, .slice none 0 0] 55 (0,0)))∧(w.heap.size≤s_)∧(w.heap.size≤s_)∧(gb1552≠s_)∧(s_≠gb1552)∧(Below w.heap.size w w')) ?_ ?_
                   rotate_left
                   ·intro hJ19
                    refine three_ (i:=12) (j:=16) (k:=19) (Ni:=some 27) (Nj:=some 31) (Nk:=some 4) #[true,true,true,true,true,true,true,true,true,true,true,true,true,false,true,true,false,false,false,false,false] #[true,true,true,true,true,true,true,true,true,true,true,true,false,false,true,true,true,false,false,false,false] #[true,true,true,true,true,true,true,true,true,true,true,true,false,false,true,true,false,false,false,true,false] rfl rfl rfl rfl rfl rfl (three_of HT_.out (by kernel_rfl)) (by decide) (by decide) (by decide) (fun K hK=>?_) (fun K hK=>?_) (fun K hK=>?_)
                    ·skip
                     refine zgd (Kd.slice 5 (Kd.int .u8)) _ 23 ?hg (N':=27) ?hd (xs:=([y1556]:List (List Int))) (inner:=[.slice A18 y1556.length c18]) (ok:=(fun k_=>(P0_ k_∨w.heap.size≤k_)∧k_≠gb1552)) (okp:=(fun k_=>(P0_ k_∨w.heap.size≤k_)∧k_≠gb1552)) ?hr ?hp (fun _ hk=>hk) ((show ∀ k_,w17.heap.size≤k_→(fun k_=>(P0_ k_∨w.heap.size≤k_)∧k_≠gb1552) k_ from fun k_ hk=>⟨(.inr (zdo (zah (bs1 GE1552.out)) hk)),zgk (pB BK1552.out) k_ hk⟩) _ (zav _)) (zbk _ _) (zav _) (by simp) ?_;(case hd=>rfl);(case hg=>rfl);(case hr=>first | (go_simp;done) | (go_simp;rfl));(case hp=>exact(zan (show Kd.FK (Kd.slice 5 (Kd.int .u8)) _ _ y1556 [.slice A18 y1556.length c18] from(zcy (zbx (zbh (ok':=(fun k_=>(P0_ k_∨w.heap.size≤k_)∧k_≠gb1552)) (HO1560.out) (fun k_ hk=>⟨hk.1,hk.2⟩))).2.1 (Kd.V_F (zbh (ok':=(fun k_=>(P0_ k_∨w.heap.size≤k_)∧k_≠gb1552)) (HO1560.out) (fun k_ hk=>⟨hk.1,hk.2⟩))))) (zeb _ _)))
                     intro v1562 w20 ho21 hb hg_ hnew_
                     have HS0_:=(hb.cell (World.block_lt_of_cell? _ _ (hHeld.1))).trans (hHeld.1)
                     have HS1_:=(hb.cell (World.block_lt_of_cell? _ _ (hHeld.2))).trans (hHeld.2)
                     clear hg_ hnew_
                     (first | rw[← Ny1561.out] at ho21 | (simp only[Int.reduceToNat] at ho21;rw[← Ny1561.out] at ho21))
                     have n_:=jA6 (zbw (pV HO_0.out) (zea ho21) hb) (zbw (pV HO1560.out) (zea ho21) hb) (zbw (pV HO1571.out) (zea ho21) hb) (zfe ho21 (zah (bs1 GE1552.out))) (jbb BK1552.out hb) (zal (bs1 GE1552.out) hb)
                     clear HO_0 HO1560 HO1571 BK1552 HB
                     obtain⟨HO_0,HO1560,HO1571,HO1563,BK1552,HB⟩:=n_
                     clear hb ho21
                     refine hK.out _ _ ⟨HS0_,HS1_⟩ (fun hHeld=>?_)
                     clear hK K
                     refine norm_ (a':=?_) ?_ ?_
                     rotate_left
                     ·show Act.put _ (some 27) _=_
                      simp only[Act.put,zaa,zae,zaf,i64_w,i32_w]
                      rfl
                     exact norm_ (by first | (simp only[putAll,Act.put,zaa,zae,zaf];done) | (simp only[putAll,Act.put,zaa,zae,zaf];rfl)) (hJ12 (v1562) _ ⟨hHeld,(by(with_reducible repeat(first | apply zbn | apply zbo | apply zbu));exact zbh HO1560.out (fun _ hk=>⟨hk.1.1,⟨hk.2,hk.1.2⟩⟩)),(pN HO1563.out),(by(with_reducible repeat(first | apply zbn | apply zbo | apply zbu));exact zbh HO1571.out (fun _ hk=>⟨hk.1.1,⟨hk.2,hk.1.2⟩⟩)),(by(with_reducible repeat(first | apply zbn | apply zbo | apply zbu));exact zbh HO_0.out (fun _ hk=>⟨hk.1.1,⟨hk.2,hk.1.2⟩⟩)),(pB BK1552.out),(bs1 GE1552.out)⟩)
                    ·skip
                     refine zgd (Kd.slice 5 (Kd.int .u8)) _ 23 ?hg (N':=31) ?hd (xs:=([y1567]:List (List Int))) (inner:=[.slice A19 y1567.length c19]) (ok:=(fun k_=>(P0_ k_∨w.heap.size≤k_)∧k_≠gb1552)) (okp:=(fun k_=>(P0_ k_∨w.heap.size≤k_)∧k_≠gb1552)) ?hr ?hp (fun _ hk=>hk) ((show ∀ k_,w17.heap.size≤k_→(fun k_=>(P0_ k_∨w.heap.size≤k_)∧k_≠gb1552) k_ from fun k_ hk=>⟨(.inr (zdo (zah (bs1 GE1552.out)) hk)),zgk (pB BK1552.out) k_ hk⟩) _ (zav _)) (zbk _ _) (zav _) (by simp) ?_;(case hd=>rfl);(case hg=>rfl);(case hr=>first | (go_simp;done) | (go_simp;rfl));(case hp=>exact(zan (show Kd.FK (Kd.slice 5 (Kd.int .u8)) _ _ y1567 [.slice A19 y1567.length c19] from(zcy (zbx (zbh (ok':=(fun k_=>(P0_ k_∨w.heap.size≤k_)∧k_≠gb1552)) (HO1571.out) (fun k_ hk=>⟨hk.1,hk.2⟩))).2.1 (Kd.V_F (zbh (ok':=(fun k_=>(P0_ k_∨w.heap.size≤k_)∧k_≠gb1552)) (HO1571.out) (fun k_ hk=>⟨hk.1,hk.2⟩))))) (zeb _ _)))
                     intro v1573 w20 ho21 hb hg_ hnew_
                     have HS0_:=(hb.cell (World.block_lt_of_cell? _ _ (hHeld.1))).trans (hHeld.1)
                     have HS1_:=(hb.cell (World.block_lt_of_cell? _ _ (hHeld.2))).trans (hHeld.2)
                     clear hg_ hnew_
                     (first | rw[← Ny1572.out] at ho21 | (simp only[Int.reduceToNat] at ho21;rw[← Ny1572.out] at ho21))
                     have n_:=jA6 (zbw (pV HO_0.out) (zea ho21) hb) (zbw (pV HO1560.out) (zea ho21) hb) (zbw (pV HO1571.out) (zea ho21) hb) (zfe ho21 (zah (bs1 GE1552.out))) (jbb BK1552.out hb) (zal (bs1 GE1552.out) hb)
                     clear HO_0 HO1560 HO1571 BK1552 HB
                     obtain⟨HO_0,HO1560,HO1571,HO1574,BK1552,HB⟩:=n_
                     clear hb ho21
                     refine hK.out _ _ ⟨HS0_,HS1_⟩ (fun hHeld=>?_)
                     clear hK K
                     refine norm_ (a':=?_) ?_ ?_
                     rotate_left
                     ·show Act.put _ (some 31) _=_
                      simp only[Act.put,zaa,zae,zaf,i64_w,i32_w]
                      rfl
                     exact norm_ (by first | (simp only[putAll,Act.put,zaa,zae,zaf];done) | (simp only[putAll,Act.put,zaa,zae,zaf];rfl)) (hJ16 (v1573) _ ⟨hHeld,(by(with_reducible repeat(first | apply zbn | apply zbo | apply zbu));exact zbh HO1560.out (fun _ hk=>⟨hk.1.1,⟨hk.2,hk.1.2⟩⟩)),(by(with_reducible repeat(first | apply zbn | apply zbo | apply zbu));exact zbh HO1571.out (fun _ hk=>⟨hk.1.1,⟨hk.2,hk.1.2⟩⟩)),(pN HO1574.out),(by(with_reducible repeat(first | apply zbn | apply zbo | apply zbu));exact zbh HO_0.out (fun _ hk=>⟨hk.1.1,⟨hk.2,hk.1.2⟩⟩)),(pB BK1552.out),(bs1 GE1552.out)⟩)
                    skip
                    refine box_step ?hg (N:=4) ?hd (cs:= #[.int .i64 0, .slice none 0 0, .slice none 0 0]) (t:=55) ?hr ?_;(case hd=>rfl);(case hg=>rfl);(case hr=>first | (go_simp;done) | (go_simp;rfl))
                    intro gb1578 hg w20 hbox hb
                    have HS0_:=(hb.cell (World.block_lt_of_cell? _ _ (hHeld.1))).trans (hHeld.1)
                    have HS1_:=(hb.cell (World.block_lt_of_cell? _ _ (hHeld.2))).trans (hHeld.2)
                    have n_:=jA10 (zcw (zep (pV HO_0.out) gb1578 (zdq hg.symm)) hb) (zcw (zep (pV HO1560.out) gb1578 (zdq hg.symm)) hb) (zcw (zep (pV HO1571.out) gb1578 (zdq hg.symm)) hb) (jbb BK1552.out hb) (zal (bs1 GE1552.out) hb) (hbox) (ge0 hg (bs1 GE1552.out):w.heap.size≤gb1578) (ge0 hg (bs1 GE1552.out):w.heap.size≤gb1578) (nl hg (pB BK1552.out):gb1552≠gb1578) (ng hg (pB BK1552.out):gb1578≠gb1552)
                    clear HO_0 HO1560 HO1571 BK1552 HB
                    obtain⟨HO_0,HO1560,HO1571,BK1552,HB,BK1578,GW1578,GE1578,NB1552_1578,NB1578_1552⟩:=n_
                    clear hb hbox hg
                    refine hK.out _ _ ⟨HS0_,HS1_⟩ (fun hHeld=>?_)
                    clear hK K
                    refine norm_ (a':=?_) ?_ ?_
                    rotate_left
                    ·show Act.put _ (some 4) _=_
                     simp only[Act.put,zaa,zae,zaf,i64_w,i32_w]
                     rfl
                    exact norm_ (by first | (simp only[putAll,Act.put,zaa,zae,zaf];done) | (simp only[putAll,Act.put,zaa,zae,zaf];rfl)) (hJ19 (gb1578) _ ⟨hHeld,(by(with_reducible repeat(first | apply zbn | apply zbo | apply zbu));exact zbh HO1560.out (fun _ hk=>⟨hk.1.1,⟨hk.1.2,hk.2⟩⟩)),(by(with_reducible repeat(first | apply zbn | apply zbo | apply zbu));exact zbh HO1571.out (fun _ hk=>⟨hk.1.1,⟨hk.1.2,hk.2⟩⟩)),(by(with_reducible repeat(first | apply zbn | apply zbo | apply zbu));exact zbh HO_0.out (fun _ hk=>⟨hk.1.1,⟨hk.1.2,hk.2⟩⟩)),(pB BK1552.out),(pB BK1578.out),GW1578.out,GE1578.out,NB1552_1578.out,NB1578_1552.out,(bs2 GE1552.out GE1578.out)⟩)
                   skip
                   rintro gb1578 w21 ⟨hS_,h0_,h1_,h2_,h3_,h4_,h5_,h6_,h7_,h8_,h9_⟩
                   have n0_:Aside0 (Kd.V (Kd.int .u8) 5 w21 w.heap.size (fun k_=>(P0_ k_∨w.heap.size≤k_)∧k_≠gb1552∧k_≠gb1578) (.slice A18 y1556.length c18) y1556):=⟨h0_⟩
                   have n1_:Aside0 (Kd.V (Kd.int .u8) 5 w21 w.heap.size (fun k_=>(P0_ k_∨w.heap.size≤k_)∧k_≠gb1552∧k_≠gb1578) (.slice A19 y1567.length c19) y1567):=⟨h1_⟩
                   have n2_:Aside0 (Kd.V (Kd.int .u8) 5 w21 w.heap.size (fun k_=>(P0_ k_∨w.heap.size≤k_)∧k_≠gb1552∧k_≠gb1578) (.slice (some ad1554) l0.length c0) l0):=⟨h2_⟩
                   have n3_:Aside0 (w21.heap[gb1552]? =some (.cells #[.int .i64 0, .slice none 0 0, .slice none 0 0] 55 (0,0))):=⟨h3_⟩
                   have n4_:Aside0 (w21.heap[gb1578]? =some (.cells #[.int .i64 0, .slice none 0 0, .slice none 0 0] 55 (0,0))):=⟨h4_⟩
                   have n5_:Aside0 (w.heap.size≤gb1578):=⟨h5_⟩
                   have n6_:Aside0 (w.heap.size≤gb1578):=⟨h6_⟩
                   have n7_:Aside0 (gb1552≠gb1578):=⟨h7_⟩
                   have n8_:Aside0 (gb1578≠gb1552):=⟨h8_⟩
                   have n9_:Aside0 (Below w.heap.size w w21):=⟨h9_⟩
                   clear HO_0
                   clear BK1552
                   clear HB
                   clear h0_ h1_ h2_ h3_ h4_ h5_ h6_ h7_ h8_ h9_
                   have HO1560:=n0_
                   have HO1571:=n1_
                   have HO_0:=n2_
                   have BK1552:=n3_
                   have BK1578:=n4_
                   have GW1578:=n5_
                   have GE1578:=n6_
                   have NB1552_1578:=n7_
                   have NB1578_1552:=n8_
                   have HB:=n9_
                   clear n0_ n1_ n2_ n3_ n4_ n5_ n6_ n7_ n8_ n9_
                   have hHeld:w21.cell? ⟨ad1554.block,ad1554.off+1,none⟩=some (.int .u8 (rd l0 1))∧w21.cell? ⟨ad1554.block,ad1554.off+2,none⟩=some (.int .u8 (rd l0 2)):=hS_
                   refine norm_ (a':=?_) ?_ ?_
                   rotate_left
                   ·simp only[putAll,Act.put,zaa,zae,zaf]
                    rfl
                   refine two_ (i:=12) (j:=16) (Ni:=some 27) (Nj:=some 31) #[true,true,true,true,true,true,true,true,true,true,true,true,true,false,true,true,false,false,false,true,false] #[true,true,true,true,true,true,true,true,true,true,true,true,false,false,true,true,true,false,false,true,false] rfl rfl rfl rfl (two_of HT_.out (by kernel_rfl)) (by decide) (by decide) (fun K hK=>?_) (fun K hK=>?_)
                   ·skip
                    refine zgd (Kd.slice 5 (Kd.int .u8)) _ 23 ?hg (N':=27) ?hd (xs:=([y1556]:List (List Int))) (inner:=[.slice A18 y1556.length c18]) (ok:=(fun k_=>(P0_ k_∨w.heap.size≤k_)∧k_≠gb1552∧k_≠gb1578)) (okp:=(fun k_=>(P0_ k_∨w.heap.size≤k_)∧k_≠gb1552∧k_≠gb1578)) ?hr ?hp (fun _ hk=>hk) ((show ∀ k_,w21.heap.size≤k_→(fun k_=>(P0_ k_∨w.heap.size≤k_)∧k_≠gb1552∧k_≠gb1578) k_ from fun k_ hk=>⟨(.inr (zdo (zah (bs2 GE1552.out GE1578.out)) hk)),zgk (pB BK1552.out) k_ hk,zgk (pB BK1578.out) k_ hk⟩) _ (zav _)) (zbk _ _) (zav _) (by simp) ?_;(case hd=>rfl);(case hg=>rfl);(case hr=>first | (go_simp;done) | (go_simp;rfl));(case hp=>exact(zan (show Kd.FK (Kd.slice 5 (Kd.int .u8)) _ _ y1556 [.slice A18 y1556.length c18] from(zcy (zbx (zbh (ok':=(fun k_=>(P0_ k_∨w.heap.size≤k_)∧k_≠gb1552∧k_≠gb1578)) (HO1560.out) (fun k_ hk=>⟨hk.1,⟨hk.2.1,hk.2.2⟩⟩))).2.1 (Kd.V_F (zbh (ok':=(fun k_=>(P0_ k_∨w.heap.size≤k_)∧k_≠gb1552∧k_≠gb1578)) (HO1560.out) (fun k_ hk=>⟨hk.1,⟨hk.2.1,hk.2.2⟩⟩))))) (zeb _ _)))
                    intro v1562 w22 ho23 hb hg_ hnew_
                    have HS0_:=(hb.cell (World.block_lt_of_cell? _ _ (hHeld.1))).trans (hHeld.1)
                    have HS1_:=(hb.cell (World.block_lt_of_cell? _ _ (hHeld.2))).trans (hHeld.2)
                    clear hg_ hnew_
                    (first | rw[← Ny1561.out] at ho23 | (simp only[Int.reduceToNat] at ho23;rw[← Ny1561.out] at ho23))
                    have n_:=jA7 (zbw (pV HO_0.out) (zea ho23) hb) (zbw (pV HO1560.out) (zea ho23) hb) (zbw (pV HO1571.out) (zea ho23) hb) (zfe ho23 (zah (bs2 GE1552.out GE1578.out))) (jbb BK1552.out hb) (jbb BK1578.out hb) (zal (bs2 GE1552.out GE1578.out) hb)
                    clear HO_0 HO1560 HO1571 BK1552 BK1578 HB
                    obtain⟨HO_0,HO1560,HO1571,HO1563,BK1552,BK1578,HB⟩:=n_
                    clear hb ho23
                    refine hK.out _ _ ⟨HS0_,HS1_⟩ (fun hHeld=>?_)
                    clear hK K
                    refine norm_ (a':=?_) ?_ ?_
                    rotate_left
                    ·show Act.put _ (some 27) _=_
                     simp only[Act.put,zaa,zae,zaf,i64_w,i32_w]
                     rfl
                    exact norm_ (by first | (simp only[putAll,Act.put,zaa,zae,zaf];done) | (simp only[putAll,Act.put,zaa,zae,zaf];rfl)) (hJ12_19 (v1562,gb1578) _ ⟨hHeld,(by(with_reducible repeat(first | apply zbn | apply zbo | apply zbu));exact zbh HO1560.out (fun _ hk=>⟨hk.1.1,⟨hk.2,⟨hk.1.2.1,hk.1.2.2⟩⟩⟩)),(pN HO1563.out),(by(with_reducible repeat(first | apply zbn | apply zbo | apply zbu));exact zbh HO1571.out (fun _ hk=>⟨hk.1.1,⟨hk.2,⟨hk.1.2.1,hk.1.2.2⟩⟩⟩)),(by(with_reducible repeat(first | apply zbn | apply zbo | apply zbu));exact zbh HO_0.out (fun _ hk=>⟨hk.1.1,⟨hk.2,⟨hk.1.2.1,hk.1.2.2⟩⟩⟩)),(pB BK1552.out),(pB BK1578.out),GW1578.out,GE1578.out,NB1552_1578.out,NB1578_1552.out,(bs2 GE1552.out GE1578.out)⟩)
                   skip
                   refine zgd (Kd.slice 5 (Kd.int .u8)) _ 23 ?hg (N':=31) ?hd (xs:=([y1567]:List (List Int))) (inner:=[.slice A19 y1567.length c19]) (ok:=(fun k_=>(P0_ k_∨w.heap.size≤k_)∧k_≠gb1552∧k_≠gb1578)) (okp:=(fun k_=>(P0_ k_∨w.heap.size≤k_)∧k_≠gb1552∧k_≠gb1578)) ?hr ?hp (fun _ hk=>hk) ((show ∀ k_,w21.heap.size≤k_→(fun k_=>(P0_ k_∨w.heap.size≤k_)∧k_≠gb1552∧k_≠gb1578) k_ from fun k_ hk=>⟨(.inr (zdo (zah (bs2 GE1552.out GE1578.out)) hk)),zgk (pB BK1552.out) k_ hk,zgk (pB BK1578.out) k_ hk⟩) _ (zav _)) (zbk _ _) (zav _) (by simp) ?_;(case hd=>rfl);(case hg=>rfl);(case hr=>first | (go_simp;done) | (go_simp;rfl));(case hp=>exact(zan (show Kd.FK (Kd.slice 5 (Kd.int .u8)) _ _ y1567 [.slice A19 y1567.length c19] from(zcy (zbx (zbh (ok':=(fun k_=>(P0_ k_∨w.heap.size≤k_)∧k_≠gb1552∧k_≠gb1578)) (HO1571.out) (fun k_ hk=>⟨hk.1,⟨hk.2.1,hk.2.2⟩⟩))).2.1 (Kd.V_F (zbh (ok':=(fun k_=>(P0_ k_∨w.heap.size≤k_)∧k_≠gb1552∧k_≠gb1578)) (HO1571.out) (fun k_ hk=>⟨hk.1,⟨hk.2.1,hk.2.2⟩⟩))))) (zeb _ _)))
                   intro v1573 w22 ho23 hb hg_ hnew_
                   have HS0_:=(hb.cell (World.block_lt_of_cell? _ _ (hHeld.1))).trans (hHeld.1)
                   have HS1_:=(hb.cell (World.block_lt_of_cell? _ _ (hHeld.2))).trans (hHeld.2)
                   clear hg_ hnew_
                   (first | rw[← Ny1572.out] at ho23 | (simp only[Int.reduceToNat] at ho23;rw[← Ny1572.out] at ho23))
                   have n_:=jA7 (zbw (pV HO_0.out) (zea ho23) hb) (zbw (pV HO1560.out) (zea ho23) hb) (zbw (pV HO1571.out) (zea ho23) hb) (zfe ho23 (zah (bs2 GE1552.out GE1578.out))) (jbb BK1552.out hb) (jbb BK1578.out hb) (zal (bs2 GE1552.out GE1578.out) hb)
                   clear HO_0 HO1560 HO1571 BK1552 BK1578 HB
                   obtain⟨HO_0,HO1560,HO1571,HO1574,BK1552,BK1578,HB⟩:=n_
                   clear hb ho23
                   refine hK.out _ _ ⟨HS0_,HS1_⟩ (fun hHeld=>?_)
                   clear hK K
                   refine norm_ (a':=?_) ?_ ?_
                   rotate_left
                   ·show Act.put _ (some 31) _=_
                    simp only[Act.put,zaa,zae,zaf,i64_w,i32_w]
                    rfl
                   exact norm_ (by first | (simp only[putAll,Act.put,zaa,zae,zaf];done) | (simp only[putAll,Act.put,zaa,zae,zaf];rfl)) (hJ16_19 (v1573,gb1578) _ ⟨hHeld,(by(with_reducible repeat(first | apply zbn | apply zbo | apply zbu));exact zbh HO1560.out (fun _ hk=>⟨hk.1.1,⟨hk.2,⟨hk.1.2.1,hk.1.2.2⟩⟩⟩)),(by(with_reducible repeat(first | apply zbn | apply zbo | apply zbu));exact zbh HO1571.out (fun _ hk=>⟨hk.1.1,⟨hk.2,⟨hk.1.2.1,hk.1.2.2⟩⟩⟩)),(pN HO1574.out),(by(with_reducible repeat(first | apply zbn | apply zbo | apply zbu));exact zbh HO_0.out (fun _ hk=>⟨hk.1.1,⟨hk.2,⟨hk.1.2.1,hk.1.2.2⟩⟩⟩)),(pB BK1552.out),(pB BK1578.out),GW1578.out,GE1578.out,NB1552_1578.out,NB1578_1552.out,(bs2 GE1552.out GE1578.out)⟩)
                  skip
                  rintro v1573 w22 ⟨hS_,h0_,h1_,h2_,h3_,h4_,h5_⟩
                  have n0_:Aside0 (Kd.V (Kd.int .u8) 5 w22 w.heap.size (fun k_=>(P0_ k_∨w.heap.size≤k_)∧some k_≠(v1573:Value).ownBlock∧k_≠gb1552) (.slice A18 y1556.length c18) y1556):=⟨h0_⟩
                  have n1_:Aside0 (Kd.V (Kd.int .u8) 5 w22 w.heap.size (fun k_=>(P0_ k_∨w.heap.size≤k_)∧some k_≠(v1573:Value).ownBlock∧k_≠gb1552) (.slice A19 y1567.length c19) y1567):=⟨h1_⟩
                  have n2_:Aside0 (Kd.N (Kd.slice 5 (Kd.int .u8)) 23 w22 w.heap.size (fun k_=>(P0_ k_∨w.heap.size≤k_)∧k_≠gb1552) v1573 y1572):=⟨h2_⟩
                  have n3_:Aside0 (Kd.V (Kd.int .u8) 5 w22 w.heap.size (fun k_=>(P0_ k_∨w.heap.size≤k_)∧some k_≠(v1573:Value).ownBlock∧k_≠gb1552) (.slice (some ad1554) l0.length c0) l0):=⟨h3_⟩
                  have n4_:Aside0 (w22.heap[gb1552]? =some (.cells #[.int .i64 0, .slice none 0 0, .slice none 0 0] 55 (0,0))):=⟨h4_⟩
                  have n5_:Aside0 (Below w.heap.size w w22):=⟨h5_⟩
                  clear HO_0
                  clear BK1552
                  clear HB
                  clear h0_ h1_ h2_ h3_ h4_ h5_
                  have HO1560:=n0_
                  have HO1571:=n1_
                  have HO1574:=n2_
                  have HO_0:=n3_
                  have BK1552:=n4_
                  have HB:=n5_
                  clear n0_ n1_ n2_ n3_ n4_ n5_
                  have hHeld:w22.cell? ⟨ad1554.block,ad1554.off+1,none⟩=some (.int .u8 (rd l0 1))∧w22.cell? ⟨ad1554.block,ad1554.off+2,none⟩=some (.int .u8 (rd l0 2)):=hS_
                  refine norm_ (a':=?_) ?_ ?_
                  rotate_left
                  ·simp only[putAll,Act.put,zaa,zae,zaf]
                   rfl
                  refine two_ (i:=12) (j:=19) (Ni:=some 27) (Nj:=some 4) #[true,true,true,true,true,true,true,true,true,true,true,true,true,false,true,true,true,false,false,false,false] #[true,true,true,true,true,true,true,true,true,true,true,true,false,false,true,true,true,false,false,true,false] rfl rfl rfl rfl (two_of HT_.out (by kernel_rfl)) (by decide) (by decide) (fun K hK=>?_) (fun K hK=>?_)
                  ·skip
                   refine zgd (Kd.slice 5 (Kd.int .u8)) _ 23 ?hg (N':=27) ?hd (xs:=([y1556]:List (List Int))) (inner:=[.slice A18 y1556.length c18]) (ok:=(fun k_=>(P0_ k_∨w.heap.size≤k_)∧some k_≠(v1573:Value).ownBlock∧k_≠gb1552)) (okp:=(fun k_=>(P0_ k_∨w.heap.size≤k_)∧some k_≠(v1573:Value).ownBlock∧k_≠gb1552)) ?hr ?hp (fun _ hk=>hk) ((show ∀ k_,w22.heap.size≤k_→(fun k_=>(P0_ k_∨w.heap.size≤k_)∧some k_≠(v1573:Value).ownBlock∧k_≠gb1552) k_ from fun k_ hk=>⟨(.inr (zdo (zah (bs1 GE1552.out)) hk)),zdv (Kd.N_lt (pN HO1574.out)) k_ hk,zgk (pB BK1552.out) k_ hk⟩) _ (zav _)) (zbk _ _) (zav _) (by simp) ?_;(case hd=>rfl);(case hg=>rfl);(case hr=>first | (go_simp;done) | (go_simp;rfl));(case hp=>exact(zan (show Kd.FK (Kd.slice 5 (Kd.int .u8)) _ _ y1556 [.slice A18 y1556.length c18] from(zcy (zbx (zbh (ok':=(fun k_=>(P0_ k_∨w.heap.size≤k_)∧some k_≠(v1573:Value).ownBlock∧k_≠gb1552)) (HO1560.out) (fun k_ hk=>⟨hk.1,⟨hk.2.1,hk.2.2⟩⟩))).2.1 (Kd.V_F (zbh (ok':=(fun k_=>(P0_ k_∨w.heap.size≤k_)∧some k_≠(v1573:Value).ownBlock∧k_≠gb1552)) (HO1560.out) (fun k_ hk=>⟨hk.1,⟨hk.2.1,hk.2.2⟩⟩))))) (zeb _ _)))
                   intro v1562 w23 ho24 hb hg_ hnew_
                   have HS0_:=(hb.cell (World.block_lt_of_cell? _ _ (hHeld.1))).trans (hHeld.1)
                   have HS1_:=(hb.cell (World.block_lt_of_cell? _ _ (hHeld.2))).trans (hHeld.2)
                   clear hg_ hnew_
                   (first | rw[← Ny1561.out] at ho24 | (simp only[Int.reduceToNat] at ho24;rw[← Ny1561.out] at ho24))
                   have n_:=jA7 (zbw (pV HO_0.out) (zea ho24) hb) (zbw (pV HO1560.out) (zea ho24) hb) (zbw (pV HO1571.out) (zea ho24) hb) (zew (pN HO1574.out) (zea ho24) hb) (zfe ho24 (zah (bs1 GE1552.out))) (jbb BK1552.out hb) (zal (bs1 GE1552.out) hb)
                   clear HO_0 HO1560 HO1571 HO1574 BK1552 HB
                   obtain⟨HO_0,HO1560,HO1571,HO1574,HO1563,BK1552,HB⟩:=n_
                   clear hb ho24
                   refine hK.out _ _ ⟨HS0_,HS1_⟩ (fun hHeld=>?_)
                   clear hK K
                   refine norm_ (a':=?_) ?_ ?_
                   rotate_left
                   ·show Act.put _ (some 27) _=_
                    simp only[Act.put,zaa,zae,zaf,i64_w,i32_w]
                    rfl
                   exact norm_ (by first | (simp only[putAll,Act.put,zaa,zae,zaf];done) | (simp only[putAll,Act.put,zaa,zae,zaf];rfl)) (hJ12_16 (v1562,v1573) _ ⟨hHeld,(by(with_reducible repeat(first | apply zbn | apply zbo | apply zbu));exact zbh HO1560.out (fun _ hk=>⟨hk.1.1,⟨hk.2,⟨hk.1.2.1,hk.1.2.2⟩⟩⟩)),(pN HO1563.out),(by(with_reducible repeat(first | apply zbn | apply zbo | apply zbu));exact zbh HO1571.out (fun _ hk=>⟨hk.1.1,⟨hk.2,⟨hk.1.2.1,hk.1.2.2⟩⟩⟩)),(by(with_reducible repeat(first | apply zei | apply zej | apply zet));exact zem HO1574.out (fun _ hk=>⟨hk.1.1,⟨hk.2,hk.1.2⟩⟩)),(by(with_reducible repeat(first | apply zbn | apply zbo | apply zbu));exact zbh HO_0.out (fun _ hk=>⟨hk.1.1,⟨hk.2,⟨hk.1.2.1,hk.1.2.2⟩⟩⟩)),(pB BK1552.out),(bs1 GE1552.out)⟩)
                  skip
                  refine box_step ?hg (N:=4) ?hd (cs:= #[.int .i64 0, .slice none 0 0, .slice none 0 0]) (t:=55) ?hr ?_;(case hd=>rfl);(case hg=>rfl);(case hr=>first | (go_simp;done) | (go_simp;rfl))
                  intro gb1578 hg w23 hbox hb
                  have HS0_:=(hb.cell (World.block_lt_of_cell? _ _ (hHeld.1))).trans (hHeld.1)
                  have HS1_:=(hb.cell (World.block_lt_of_cell? _ _ (hHeld.2))).trans (hHeld.2)
                  have n_:=jA11 (zcw (zep (pV HO_0.out) gb1578 (zdq hg.symm)) hb) (zcw (zep (pV HO1560.out) gb1578 (zdq hg.symm)) hb) (zcw (zep (pV HO1571.out) gb1578 (zdq hg.symm)) hb) (zgs (Kd.N_elderB (pN HO1574.out) gb1578 (zdq hg.symm)) hb) (jbb BK1552.out hb) (zal (bs1 GE1552.out) hb) (hbox) (ge0 hg (bs1 GE1552.out):w.heap.size≤gb1578) (ge0 hg (bs1 GE1552.out):w.heap.size≤gb1578) (nl hg (pB BK1552.out):gb1552≠gb1578) (ng hg (pB BK1552.out):gb1578≠gb1552)
                  clear HO_0 HO1560 HO1571 HO1574 BK1552 HB
                  obtain⟨HO_0,HO1560,HO1571,HO1574,BK1552,HB,BK1578,GW1578,GE1578,NB1552_1578,NB1578_1552⟩:=n_
                  clear hb hbox hg
                  refine hK.out _ _ ⟨HS0_,HS1_⟩ (fun hHeld=>?_)
                  clear hK K
                  refine norm_ (a':=?_) ?_ ?_
                  rotate_left
                  ·show Act.put _ (some 4) _=_
                   simp only[Act.put,zaa,zae,zaf,i64_w,i32_w]
                   rfl
                  exact norm_ (by first | (simp only[putAll,Act.put,zaa,zae,zaf];done) | (simp only[putAll,Act.put,zaa,zae,zaf];rfl)) (hJ16_19 (v1573,gb1578) _ ⟨hHeld,(by(with_reducible repeat(first | apply zbn | apply zbo | apply zbu));exact zbh HO1560.out (fun _ hk=>⟨hk.1.1,⟨hk.1.2.1,⟨hk.1.2.2,hk.2⟩⟩⟩)),(by(with_reducible repeat(first | apply zbn | apply zbo | apply zbu));exact zbh HO1571.out (fun _ hk=>⟨hk.1.1,⟨hk.1.2.1,⟨hk.1.2.2,hk.2⟩⟩⟩)),(by(with_reducible repeat(first | apply zei | apply zej | apply zet));exact zem HO1574.out (fun _ hk=>⟨hk.1.1,⟨hk.1.2,hk.2⟩⟩)),(by(with_reducible repeat(first | apply zbn | apply zbo | apply zbu));exact zbh HO_0.out (fun _ hk=>⟨hk.1.1,⟨hk.1.2.1,⟨hk.1.2.2,hk.2⟩⟩⟩)),(pB BK1552.out),(pB BK1578.out),GW1578.out,GE1578.out,NB1552_1578.out,NB1578_1552.out,(bs2 GE1552.out GE1578.out)⟩)
                 skip
                 rintro v1562 w22 ⟨hS_,h0_,h1_,h2_,h3_,h4_,h5_⟩
                 have n0_:Aside0 (Kd.V (Kd.int .u8) 5 w22 w.heap.size (fun k_=>(P0_ k_∨w.heap.size≤k_)∧some k_≠(v1562:Value).ownBlock∧k_≠gb1552) (.slice A18 y1556.length c18) y1556):=⟨h0_⟩
                 have n1_:Aside0 (Kd.N (Kd.slice 5 (Kd.int .u8)) 23 w22 w.heap.size (fun k_=>(P0_ k_∨w.heap.size≤k_)∧k_≠gb1552) v1562 y1561):=⟨h1_⟩
                 have n2_:Aside0 (Kd.V (Kd.int .u8) 5 w22 w.heap.size (fun k_=>(P0_ k_∨w.heap.size≤k_)∧some k_≠(v1562:Value).ownBlock∧k_≠gb1552) (.slice A19 y1567.length c19) y1567):=⟨h2_⟩
                 have n3_:Aside0 (Kd.V (Kd.int .u8) 5 w22 w.heap.size (fun k_=>(P0_ k_∨w.heap.size≤k_)∧some k_≠(v1562:Value).ownBlock∧k_≠gb1552) (.slice (some ad1554) l0.length c0) l0):=⟨h3_⟩
                 have n4_:Aside0 (w22.heap[gb1552]? =some (.cells #[.int .i64 0, .slice none 0 0, .slice none 0 0] 55 (0,0))):=⟨h4_⟩
                 have n5_:Aside0 (Below w.heap.size w w22):=⟨h5_⟩
                 clear HO_0
                 clear BK1552
                 clear HB
                 clear h0_ h1_ h2_ h3_ h4_ h5_
                 have HO1560:=n0_
                 have HO1563:=n1_
                 have HO1571:=n2_
                 have HO_0:=n3_
                 have BK1552:=n4_
                 have HB:=n5_
                 clear n0_ n1_ n2_ n3_ n4_ n5_
                 have hHeld:w22.cell? ⟨ad1554.block,ad1554.off+1,none⟩=some (.int .u8 (rd l0 1))∧w22.cell? ⟨ad1554.block,ad1554.off+2,none⟩=some (.int .u8 (rd l0 2)):=hS_
                 obtain⟨Ao23,co23,eo23⟩:=zge HO1563.out
                 (first | subst eo23 | (injection eo23 with f1_ f2_ f3_;have f4_:=f1_.symm;have f5_:=f3_.symm;clear f1_ f2_ f3_;subst f4_;subst f5_))
                 refine norm_ (a':=?_) ?_ ?_
                 rotate_left
                 ·simp only[putAll,Act.put,zaa,zae,zaf]
                  rfl
                 refine three_ (i:=13) (j:=16) (k:=19) (Ni:=some 28) (Nj:=some 31) (Nk:=some 4) #[true,true,true,true,true,true,true,true,true,true,true,true,true,true,true,true,false,false,false,false,false] #[true,true,true,true,true,true,true,true,true,true,true,true,true,false,true,true,true,false,false,false,false] #[true,true,true,true,true,true,true,true,true,true,true,true,true,false,true,true,false,false,false,true,false] rfl rfl rfl rfl rfl rfl (three_of HT_.out (by kernel_rfl)) (by decide) (by decide) (by decide) (fun K hK=>?_) (fun K hK=>?_) (fun K hK=>?_)
                 ·skip
                  refine goes_ Try.func79 (by kernel_rfl) rfl #[.slice Ao23 y1561.length co23] (by rfl) rfl rfl jhl ?_
                  with_reducible refine(impl_joined.calls _ _ y1561 t1564 _ ?side1 ?side2 A12.out).mono ?_
                  (case side1=>repeat(first | exact(zee HO1563.out).2.2 | (with_reducible refine zbs ?_ _) | (with_reducible refine zbt ?_ _) | (with_reducible refine zcg ?_)))
                  (case side2=>exact(zee HO1563.out).2.1)
                  rintro e w24 ⟨v1565,rfl,ho0,hb⟩
                  have HS0_:=(hb.cell (World.block_lt_of_cell? _ _ (hHeld.1))).trans (hHeld.1)
                  have HS1_:=(hb.cell (World.block_lt_of_cell? _ _ (hHeld.2))).trans (hHeld.2)
                  refine⟨_,rfl,?_⟩
                  have n_:=jA7 (zbw (pV HO_0.out) (zba ho0) hb) (zbw (pV HO1560.out) (zba ho0) hb) (zbw (pV HO1571.out) (zba ho0) hb) (zew (pN HO1563.out) (zba ho0) hb) (zaq (zfx (M:=fun k_=>(w.heap.size≤k_)) ho0 (zah (bs1 GE1552.out)) (fun k_ h_=>h_)) (zah (bs1 GE1552.out))) (jbb BK1552.out hb) (zal (bs1 GE1552.out) hb)
                  clear HO_0 HO1560 HO1571 HO1563 BK1552 HB
                  obtain⟨HO_0,HO1560,HO1571,HO1563,HO1566,BK1552,HB⟩:=n_
                  (try clear hb)
                  (try clear hb2)
                  (try clear hk)
                  (try clear hi)
                  (try clear ho0)
                  refine hK.out _ _ ⟨HS0_,HS1_⟩ (fun hHeld=>?_)
                  clear hK K
                  refine norm_ (a':=?_) ?_ ?_
                  rotate_left
                  ·show Act.put _ (some 28) _=_
                   simp only[Act.put,zaa,zae,zaf,i64_w,i32_w]
                   rfl
                  exact norm_ (by first | (simp only[putAll,Act.put,zaa,zae,zaf];done) | (simp only[putAll,Act.put,zaa,zae,zaf];rfl)) (hJ12_13 (.slice Ao23 y1561.length co23,v1565) _ ⟨hHeld,(by(with_reducible repeat(first | apply zbn | apply zbo | apply zbu));exact zbh HO1560.out (fun _ hk=>⟨hk.1.1,⟨hk.1.2.1,⟨hk.2,hk.1.2.2⟩⟩⟩)),(by(with_reducible repeat(first | apply zei | apply zej | apply zet));exact zem HO1563.out (fun _ hk=>⟨hk.1.1,⟨hk.2,hk.1.2⟩⟩)),(by(with_reducible repeat(first | apply zat | apply zau | apply zar));exact zao HO1566.out (fun _ hk=>hk.1)),(by(with_reducible repeat(first | apply zbn | apply zbo | apply zbu));exact zbh HO1571.out (fun _ hk=>⟨hk.1.1,⟨hk.1.2.1,⟨hk.2,hk.1.2.2⟩⟩⟩)),(by(with_reducible repeat(first | apply zbn | apply zbo | apply zbu));exact zbh HO_0.out (fun _ hk=>⟨hk.1.1,⟨hk.1.2.1,⟨hk.2,hk.1.2.2⟩⟩⟩)),(pB BK1552.out),(bs1 GE1552.out)⟩)
                 ·skip
                  refine zgd (Kd.slice 5 (Kd.int .u8)) _ 23 ?hg (N':=31) ?hd (xs:=([y1567]:List (List Int))) (inner:=[.slice A19 y1567.length c19]) (ok:=(fun k_=>(P0_ k_∨w.heap.size≤k_)∧some k_≠(.slice Ao23 y1561.length co23:Value).ownBlock∧k_≠gb1552)) (okp:=(fun k_=>(P0_ k_∨w.heap.size≤k_)∧some k_≠(.slice Ao23 y1561.length co23:Value).ownBlock∧k_≠gb1552)) ?hr ?hp (fun _ hk=>hk) ((show ∀ k_,w22.heap.size≤k_→(fun k_=>(P0_ k_∨w.heap.size≤k_)∧some k_≠(.slice Ao23 y1561.length co23:Value).ownBlock∧k_≠gb1552) k_ from fun k_ hk=>⟨(.inr (zdo (zah (bs1 GE1552.out)) hk)),zdv (Kd.N_lt (pN HO1563.out)) k_ hk,zgk (pB BK1552.out) k_ hk⟩) _ (zav _)) (zbk _ _) (zav _) (by simp) ?_;(case hd=>rfl);(case hg=>rfl);(case hr=>first | (go_simp;done) | (go_simp;rfl));(case hp=>exact(zan (show Kd.FK (Kd.slice 5 (Kd.int .u8)) _ _ y1567 [.slice A19 y1567.length c19] from(zcy (zbx (zbh (ok':=(fun k_=>(P0_ k_∨w.heap.size≤k_)∧some k_≠(.slice Ao23 y1561.length co23:Value).ownBlock∧k_≠gb1552)) (HO1571.out) (fun k_ hk=>⟨hk.1,⟨hk.2.1,hk.2.2⟩⟩))).2.1 (Kd.V_F (zbh (ok':=(fun k_=>(P0_ k_∨w.heap.size≤k_)∧some k_≠(.slice Ao23 y1561.length co23:Value).ownBlock∧k_≠gb1552)) (HO1571.out) (fun k_ hk=>⟨hk.1,⟨hk.2.1,hk.2.2⟩⟩))))) (zeb _ _)))
                  intro v1573 w23 ho24 hb hg_ hnew_
                  have HS0_:=(hb.cell (World.block_lt_of_cell? _ _ (hHeld.1))).trans (hHeld.1)
                  have HS1_:=(hb.cell (World.block_lt_of_cell? _ _ (hHeld.2))).trans (hHeld.2)
                  clear hg_ hnew_
                  (first | rw[← Ny1572.out] at ho24 | (simp only[Int.reduceToNat] at ho24;rw[← Ny1572.out] at ho24))
                  have n_:=jA7 (zbw (pV HO_0.out) (zea ho24) hb) (zbw (pV HO1560.out) (zea ho24) hb) (zbw (pV HO1571.out) (zea ho24) hb) (zew (pN HO1563.out) (zea ho24) hb) (zfe ho24 (zah (bs1 GE1552.out))) (jbb BK1552.out hb) (zal (bs1 GE1552.out) hb)
                  clear HO_0 HO1560 HO1571 HO1563 BK1552 HB
                  obtain⟨HO_0,HO1560,HO1571,HO1563,HO1574,BK1552,HB⟩:=n_
                  clear hb ho24
                  refine hK.out _ _ ⟨HS0_,HS1_⟩ (fun hHeld=>?_)
                  clear hK K
                  refine norm_ (a':=?_) ?_ ?_
                  rotate_left
                  ·show Act.put _ (some 31) _=_
                   simp only[Act.put,zaa,zae,zaf,i64_w,i32_w]
                   rfl
                  exact norm_ (by first | (simp only[putAll,Act.put,zaa,zae,zaf];done) | (simp only[putAll,Act.put,zaa,zae,zaf];rfl)) (hJ12_16 ((.slice Ao23 y1561.length co23),v1573) _ ⟨hHeld,(by(with_reducible repeat(first | apply zbn | apply zbo | apply zbu));exact zbh HO1560.out (fun _ hk=>⟨hk.1.1,⟨hk.1.2.1,⟨hk.2,hk.1.2.2⟩⟩⟩)),(by(with_reducible repeat(first | apply zei | apply zej | apply zet));exact zem HO1563.out (fun _ hk=>⟨hk.1.1,⟨hk.2,hk.1.2⟩⟩)),(by(with_reducible repeat(first | apply zbn | apply zbo | apply zbu));exact zbh HO1571.out (fun _ hk=>⟨hk.1.1,⟨hk.1.2.1,⟨hk.2,hk.1.2.2⟩⟩⟩)),(pN HO1574.out),(by(with_reducible repeat(first | apply zbn | apply zbo | apply zbu));exact zbh HO_0.out (fun _ hk=>⟨hk.1.1,⟨hk.1.2.1,⟨hk.2,hk.1.2.2⟩⟩⟩)),(pB BK1552.out),(bs1 GE1552.out)⟩)
                 skip
                 refine box_step ?hg (N:=4) ?hd (cs:= #[.int .i64 0, .slice none 0 0, .slice none 0 0]) (t:=55) ?hr ?_;(case hd=>rfl);(case hg=>rfl);(case hr=>first | (go_simp;done) | (go_simp;rfl))
                 intro gb1578 hg w23 hbox hb
                 have HS0_:=(hb.cell (World.block_lt_of_cell? _ _ (hHeld.1))).trans (hHeld.1)
                 have HS1_:=(hb.cell (World.block_lt_of_cell? _ _ (hHeld.2))).trans (hHeld.2)
                 have n_:=jA11 (zcw (zep (pV HO_0.out) gb1578 (zdq hg.symm)) hb) (zcw (zep (pV HO1560.out) gb1578 (zdq hg.symm)) hb) (zcw (zep (pV HO1571.out) gb1578 (zdq hg.symm)) hb) (zgs (Kd.N_elderB (pN HO1563.out) gb1578 (zdq hg.symm)) hb) (jbb BK1552.out hb) (zal (bs1 GE1552.out) hb) (hbox) (ge0 hg (bs1 GE1552.out):w.heap.size≤gb1578) (ge0 hg (bs1 GE1552.out):w.heap.size≤gb1578) (nl hg (pB BK1552.out):gb1552≠gb1578) (ng hg (pB BK1552.out):gb1578≠gb1552)
                 clear HO_0 HO1560 HO1571 HO1563 BK1552 HB
                 obtain⟨HO_0,HO1560,HO1571,HO1563,BK1552,HB,BK1578,GW1578,GE1578,NB1552_1578,NB1578_1552⟩:=n_
                 clear hb hbox hg
                 refine hK.out _ _ ⟨HS0_,HS1_⟩ (fun hHeld=>?_)
                 clear hK K
                 refine norm_ (a':=?_) ?_ ?_
                 rotate_left
                 ·show Act.put _ (some 4) _=_
                  simp only[Act.put,zaa,zae,zaf,i64_w,i32_w]
                  rfl
                 exact norm_ (by first | (simp only[putAll,Act.put,zaa,zae,zaf];done) | (simp only[putAll,Act.put,zaa,zae,zaf];rfl)) (hJ12_19 ((.slice Ao23 y1561.length co23),gb1578) _ ⟨hHeld,(by(with_reducible repeat(first | apply zbn | apply zbo | apply zbu));exact zbh HO1560.out (fun _ hk=>⟨hk.1.1,⟨hk.1.2.1,⟨hk.1.2.2,hk.2⟩⟩⟩)),(by(with_reducible repeat(first | apply zei | apply zej | apply zet));exact zem HO1563.out (fun _ hk=>⟨hk.1.1,⟨hk.1.2,hk.2⟩⟩)),(by(with_reducible repeat(first | apply zbn | apply zbo | apply zbu));exact zbh HO1571.out (fun _ hk=>⟨hk.1.1,⟨hk.1.2.1,⟨hk.1.2.2,hk.2⟩⟩⟩)),(by(with_reducible repeat(first | apply zbn | apply zbo | apply zbu));exact zbh HO_0.out (fun _ hk=>⟨hk.1.1,⟨hk.1.2.1,⟨hk.1.2.2,hk.2⟩⟩⟩)),(pB BK1552.out),(pB BK1578.out),GW1578.out,GE1578.out,NB1552_1578.out,NB1578_1552.out,(bs2 GE1552.out GE1578.out)⟩)
                skip
                rintro⟨v1573,gb1578⟩ w23 ⟨hS_,h0_,h1_,h2_,h3_,h4_,h5_,h6_,h7_,h8_,h9_,h10_⟩
                have n0_:Aside0 (Kd.V (Kd.int .u8) 5 w23 w.heap.size (fun k_=>(P0_ k_∨w.heap.size≤k_)∧some k_≠(v1573:Value).ownBlock∧k_≠gb1552∧k_≠gb1578) (.slice A18 y1556.length c18) y1556):=⟨h0_⟩
                have n1_:Aside0 (Kd.V (Kd.int .u8) 5 w23 w.heap.size (fun k_=>(P0_ k_∨w.heap.size≤k_)∧some k_≠(v1573:Value).ownBlock∧k_≠gb1552∧k_≠gb1578) (.slice A19 y1567.length c19) y1567):=⟨h1_⟩
                have n2_:Aside0 (Kd.N (Kd.slice 5 (Kd.int .u8)) 23 w23 w.heap.size (fun k_=>(P0_ k_∨w.heap.size≤k_)∧k_≠gb1552∧k_≠gb1578) v1573 y1572):=⟨h2_⟩
                have n3_:Aside0 (Kd.V (Kd.int .u8) 5 w23 w.heap.size (fun k_=>(P0_ k_∨w.heap.size≤k_)∧some k_≠(v1573:Value).ownBlock∧k_≠gb1552∧k_≠gb1578) (.slice (some ad1554) l0.length c0) l0):=⟨h3_⟩
                have n4_:Aside0 (w23.heap[gb1552]? =some (.cells #[.int .i64 0, .slice none 0 0, .slice none 0 0] 55 (0,0))):=⟨h4_⟩
                have n5_:Aside0 (w23.heap[gb1578]? =some (.cells #[.int .i64 0, .slice none 0 0, .slice none 0 0] 55 (0,0))):=⟨h5_⟩
                have n6_:Aside0 (w.heap.size≤gb1578):=⟨h6_⟩
                have n7_:Aside0 (w.heap.size≤gb1578):=⟨h7_⟩
                have n8_:Aside0 (gb1552≠gb1578):=⟨h8_⟩
                have n9_:Aside0 (gb1578≠gb1552):=⟨h9_⟩
                have n10_:Aside0 (Below w.heap.size w w23):=⟨h10_⟩
                clear HO_0
                clear BK1552
                clear HB
                clear h0_ h1_ h2_ h3_ h4_ h5_ h6_ h7_ h8_ h9_ h10_
                have HO1560:=n0_
                have HO1571:=n1_
                have HO1574:=n2_
                have HO_0:=n3_
                have BK1552:=n4_
                have BK1578:=n5_
                have GW1578:=n6_
                have GE1578:=n7_
                have NB1552_1578:=n8_
                have NB1578_1552:=n9_
                have HB:=n10_
                clear n0_ n1_ n2_ n3_ n4_ n5_ n6_ n7_ n8_ n9_ n10_
                have hHeld:w23.cell? ⟨ad1554.block,ad1554.off+1,none⟩=some (.int .u8 (rd l0 1))∧w23.cell? ⟨ad1554.block,ad1554.off+2,none⟩=some (.int .u8 (rd l0 2)):=hS_
                refine norm_ (a':=?_) ?_ ?_
                rotate_left
                ·simp only[putAll,Act.put,zaa,zae,zaf]
                 rfl
                refine one_ (i:=12) (N:=some 27) #[true,true,true,true,true,true,true,true,true,true,true,true,true,false,true,true,true,false,false,true,false] rfl rfl (one_of HT_.out (by kernel_rfl)) (by decide) (fun K hK=>?_)
                refine zgd (Kd.slice 5 (Kd.int .u8)) _ 23 ?hg (N':=27) ?hd (xs:=([y1556]:List (List Int))) (inner:=[.slice A18 y1556.length c18]) (ok:=(fun k_=>(P0_ k_∨w.heap.size≤k_)∧some k_≠(v1573:Value).ownBlock∧k_≠gb1552∧k_≠gb1578)) (okp:=(fun k_=>(P0_ k_∨w.heap.size≤k_)∧some k_≠(v1573:Value).ownBlock∧k_≠gb1552∧k_≠gb1578)) ?hr ?hp (fun _ hk=>hk) ((show ∀ k_,w23.heap.size≤k_→(fun k_=>(P0_ k_∨w.heap.size≤k_)∧some k_≠(v1573:Value).ownBlock∧k_≠gb1552∧k_≠gb1578) k_ from fun k_ hk=>⟨(.inr (zdo (zah (bs2 GE1552.out GE1578.out)) hk)),zdv (Kd.N_lt (pN HO1574.out)) k_ hk,zgk (pB BK1552.out) k_ hk,zgk (pB BK1578.out) k_ hk⟩) _ (zav _)) (zbk _ _) (zav _) (by simp) ?_;(case hd=>rfl);(case hg=>rfl);(case hr=>first | (go_simp;done) | (go_simp;rfl));(case hp=>exact(zan (show Kd.FK (Kd.slice 5 (Kd.int .u8)) _ _ y1556 [.slice A18 y1556.length c18] from(zcy (zbx (zbh (ok':=(fun k_=>(P0_ k_∨w.heap.size≤k_)∧some k_≠(v1573:Value).ownBlock∧k_≠gb1552∧k_≠gb1578)) (HO1560.out) (fun k_ hk=>⟨hk.1,⟨hk.2.1,⟨hk.2.2.1,hk.2.2.2⟩⟩⟩))).2.1 (Kd.V_F (zbh (ok':=(fun k_=>(P0_ k_∨w.heap.size≤k_)∧some k_≠(v1573:Value).ownBlock∧k_≠gb1552∧k_≠gb1578)) (HO1560.out) (fun k_ hk=>⟨hk.1,⟨hk.2.1,⟨hk.2.2.1,hk.2.2.2⟩⟩⟩))))) (zeb _ _)))
                intro v1562 w24 ho25 hb hg_ hnew_
                have HS0_:=(hb.cell (World.block_lt_of_cell? _ _ (hHeld.1))).trans (hHeld.1)
                have HS1_:=(hb.cell (World.block_lt_of_cell? _ _ (hHeld.2))).trans (hHeld.2)
                clear hg_ hnew_
                (first | rw[← Ny1561.out] at ho25 | (simp only[Int.reduceToNat] at ho25;rw[← Ny1561.out] at ho25))
                have n_:=jA8 (zbw (pV HO_0.out) (zea ho25) hb) (zbw (pV HO1560.out) (zea ho25) hb) (zbw (pV HO1571.out) (zea ho25) hb) (zew (pN HO1574.out) (zea ho25) hb) (zfe ho25 (zah (bs2 GE1552.out GE1578.out))) (jbb BK1552.out hb) (jbb BK1578.out hb) (zal (bs2 GE1552.out GE1578.out) hb)
                clear HO_0 HO1560 HO1571 HO1574 BK1552 BK1578 HB
                obtain⟨HO_0,HO1560,HO1571,HO1574,HO1563,BK1552,BK1578,HB⟩:=n_
                clear hb ho25
                refine hK.out _ _ ⟨HS0_,HS1_⟩ (fun hHeld=>?_)
                clear hK K
                refine norm_ (a':=?_) ?_ ?_
                rotate_left
                ·show Act.put _ (some 27) _=_
                 simp only[Act.put,zaa,zae,zaf,i64_w,i32_w]
                 rfl
                exact norm_ (by first | (simp only[putAll,Act.put,zaa,zae,zaf];done) | (simp only[putAll,Act.put,zaa,zae,zaf];rfl)) (hJ12_16_19 (v1562,v1573,gb1578) _ ⟨hHeld,(by(with_reducible repeat(first | apply zbn | apply zbo | apply zbu));exact zbh HO1560.out (fun _ hk=>⟨hk.1.1,⟨hk.2,⟨hk.1.2.1,⟨hk.1.2.2.1,hk.1.2.2.2⟩⟩⟩⟩)),(pN HO1563.out),(by(with_reducible repeat(first | apply zbn | apply zbo | apply zbu));exact zbh HO1571.out (fun _ hk=>⟨hk.1.1,⟨hk.2,⟨hk.1.2.1,⟨hk.1.2.2.1,hk.1.2.2.2⟩⟩⟩⟩)),(by(with_reducible repeat(first | apply zei | apply zej | apply zet));exact zem HO1574.out (fun _ hk=>⟨hk.1.1,⟨hk.2,⟨hk.1.2.1,hk.1.2.2⟩⟩⟩)),(by(with_reducible repeat(first | apply zbn | apply zbo | apply zbu));exact zbh HO_0.out (fun _ hk=>⟨hk.1.1,⟨hk.2,⟨hk.1.2.1,⟨hk.1.2.2.1,hk.1.2.2.2⟩⟩⟩⟩)),(pB BK1552.out),(pB BK1578.out),GW1578.out,GE1578.out,NB1552_1578.out,NB1578_1552.out,(bs2 GE1552.out GE1578.out)⟩)
               skip
               rintro⟨v1562,gb1578⟩ w23 ⟨hS_,h0_,h1_,h2_,h3_,h4_,h5_,h6_,h7_,h8_,h9_,h10_⟩
               have n0_:Aside0 (Kd.V (Kd.int .u8) 5 w23 w.heap.size (fun k_=>(P0_ k_∨w.heap.size≤k_)∧some k_≠(v1562:Value).ownBlock∧k_≠gb1552∧k_≠gb1578) (.slice A18 y1556.length c18) y1556):=⟨h0_⟩
               have n1_:Aside0 (Kd.N (Kd.slice 5 (Kd.int .u8)) 23 w23 w.heap.size (fun k_=>(P0_ k_∨w.heap.size≤k_)∧k_≠gb1552∧k_≠gb1578) v1562 y1561):=⟨h1_⟩
               have n2_:Aside0 (Kd.V (Kd.int .u8) 5 w23 w.heap.size (fun k_=>(P0_ k_∨w.heap.size≤k_)∧some k_≠(v1562:Value).ownBlock∧k_≠gb1552∧k_≠gb1578) (.slice A19 y1567.length c19) y1567):=⟨h2_⟩
               have n3_:Aside0 (Kd.V (Kd.int .u8) 5 w23 w.heap.size (fun k_=>(P0_ k_∨w.heap.size≤k_)∧some k_≠(v1562:Value).ownBlock∧k_≠gb1552∧k_≠gb1578) (.slice (some ad1554) l0.length c0) l0):=⟨h3_⟩
               have n4_:Aside0 (w23.heap[gb1552]? =some (.cells #[.int .i64 0, .slice none 0 0, .slice none 0 0] 55 (0,0))):=⟨h4_⟩
               have n5_:Aside0 (w23.heap[gb1578]? =some (.cells #[.int .i64 0, .slice none 0 0, .slice none 0 0] 55 (0,0))):=⟨h5_⟩
               have n6_:Aside0 (w.heap.size≤gb1578):=⟨h6_⟩
               have n7_:Aside0 (w.heap.size≤gb1578):=⟨h7_⟩
               have n8_:Aside0 (gb1552≠gb1578):=⟨h8_⟩
               have n9_:Aside0 (gb1578≠gb1552):=⟨h9_⟩
               have n10_:Aside0 (Below w.heap.size w w23):=⟨h10_⟩
               clear HO_0
               clear BK1552
               clear HB
               clear h0_ h1_ h2_ h3_ h4_ h5_ h6_ h7_ h8_ h9_ h10_
               have HO1560:=n0_
               have HO1563:=n1_
               have HO1571:=n2_
               have HO_0:=n3_
               have BK1552:=n4_
               have BK1578:=n5_
               have GW1578:=n6_
               have GE1578:=n7_
               have NB1552_1578:=n8_
               have NB1578_1552:=n9_
               have HB:=n10_
               clear n0_ n1_ n2_ n3_ n4_ n5_ n6_ n7_ n8_ n9_ n10_
               have hHeld:w23.cell? ⟨ad1554.block,ad1554.off+1,none⟩=some (.int .u8 (rd l0 1))∧w23.cell? ⟨ad1554.block,ad1554.off+2,none⟩=some (.int .u8 (rd l0 2)):=hS_
               obtain⟨Ao24,co24,eo24⟩:=zge HO1563.out
               (first | subst eo24 | (injection eo24 with f1_ f2_ f3_;have f4_:=f1_.symm;have f5_:=f3_.symm;clear f1_ f2_ f3_;subst f4_;subst f5_))
               refine norm_ (a':=?_) ?_ ?_
               rotate_left
               ·simp only[putAll,Act.put,zaa,zae,zaf]
                rfl
               refine two_ (i:=13) (j:=16) (Ni:=some 28) (Nj:=some 31) #[true,true,true,true,true,true,true,true,true,true,true,true,true,true,true,true,false,false,false,true,false] #[true,true,true,true,true,true,true,true,true,true,true,true,true,false,true,true,true,false,false,true,false] rfl rfl rfl rfl (two_of HT_.out (by kernel_rfl)) (by decide) (by decide) (fun K hK=>?_) (fun K hK=>?_)
               ·skip
                refine goes_ Try.func79 (by kernel_rfl) rfl #[.slice Ao24 y1561.length co24] (by rfl) rfl rfl jhl ?_
                with_reducible refine(impl_joined.calls _ _ y1561 t1564 _ ?side1 ?side2 A12.out).mono ?_
                (case side1=>repeat(first | exact(zee HO1563.out).2.2 | (with_reducible refine zbs ?_ _) | (with_reducible refine zbt ?_ _) | (with_reducible refine zcg ?_)))
                (case side2=>exact(zee HO1563.out).2.1)
                rintro e w25 ⟨v1565,rfl,ho0,hb⟩
                have HS0_:=(hb.cell (World.block_lt_of_cell? _ _ (hHeld.1))).trans (hHeld.1)
                have HS1_:=(hb.cell (World.block_lt_of_cell? _ _ (hHeld.2))).trans (hHeld.2)
                refine⟨_,rfl,?_⟩
                have n_:=jA8 (zbw (pV HO_0.out) (zba ho0) hb) (zbw (pV HO1560.out) (zba ho0) hb) (zbw (pV HO1571.out) (zba ho0) hb) (zew (pN HO1563.out) (zba ho0) hb) (zaq (zfx (M:=fun k_=>(w.heap.size≤k_)) ho0 (zah (bs2 GE1552.out GE1578.out)) (fun k_ h_=>h_)) (zah (bs2 GE1552.out GE1578.out))) (jbb BK1552.out hb) (jbb BK1578.out hb) (zal (bs2 GE1552.out GE1578.out) hb)
                clear HO_0 HO1560 HO1571 HO1563 BK1552 BK1578 HB
                obtain⟨HO_0,HO1560,HO1571,HO1563,HO1566,BK1552,BK1578,HB⟩:=n_
                (try clear hb)
                (try clear hb2)
                (try clear hk)
                (try clear hi)
                (try clear ho0)
                refine hK.out _ _ ⟨HS0_,HS1_⟩ (fun hHeld=>?_)
                clear hK K
                refine norm_ (a':=?_) ?_ ?_
                rotate_left
                ·show Act.put _ (some 28) _=_
                 simp only[Act.put,zaa,zae,zaf,i64_w,i32_w]
                 rfl
                exact norm_ (by first | (simp only[putAll,Act.put,zaa,zae,zaf];done) | (simp only[putAll,Act.put,zaa,zae,zaf];rfl)) (hJ12_13_19 (.slice Ao24 y1561.length co24,v1565,gb1578) _ ⟨hHeld,(by(with_reducible repeat(first | apply zbn | apply zbo | apply zbu));exact zbh HO1560.out (fun _ hk=>⟨hk.1.1,⟨hk.1.2.1,⟨hk.2,⟨hk.1.2.2.1,hk.1.2.2.2⟩⟩⟩⟩)),(by(with_reducible repeat(first | apply zei | apply zej | apply zet));exact zem HO1563.out (fun _ hk=>⟨hk.1.1,⟨hk.2,⟨hk.1.2.1,hk.1.2.2⟩⟩⟩)),(by(with_reducible repeat(first | apply zat | apply zau | apply zar));exact zao HO1566.out (fun _ hk=>hk.1)),(by(with_reducible repeat(first | apply zbn | apply zbo | apply zbu));exact zbh HO1571.out (fun _ hk=>⟨hk.1.1,⟨hk.1.2.1,⟨hk.2,⟨hk.1.2.2.1,hk.1.2.2.2⟩⟩⟩⟩)),(by(with_reducible repeat(first | apply zbn | apply zbo | apply zbu));exact zbh HO_0.out (fun _ hk=>⟨hk.1.1,⟨hk.1.2.1,⟨hk.2,⟨hk.1.2.2.1,hk.1.2.2.2⟩⟩⟩⟩)),(pB BK1552.out),(pB BK1578.out),GW1578.out,GE1578.out,NB1552_1578.out,NB1578_1552.out,(bs2 GE1552.out GE1578.out)⟩)
               skip
               refine zgd (Kd.slice 5 (Kd.int .u8)) _ 23 ?hg (N':=31) ?hd (xs:=([y1567]:List (List Int))) (inner:=[.slice A19 y1567.length c19]) (ok:=(fun k_=>(P0_ k_∨w.heap.size≤k_)∧some k_≠(.slice Ao24 y1561.length co24:Value).ownBlock∧k_≠gb1552∧k_≠gb1578)) (okp:=(fun k_=>(P0_ k_∨w.heap.size≤k_)∧some k_≠(.slice Ao24 y1561.length co24:Value).ownBlock∧k_≠gb1552∧k_≠gb1578)) ?hr ?hp (fun _ hk=>hk) ((show ∀ k_,w23.heap.size≤k_→(fun k_=>(P0_ k_∨w.heap.size≤k_)∧some k_≠(.slice Ao24 y1561.length co24:Value).ownBlock∧k_≠gb1552∧k_≠gb1578) k_ from fun k_ hk=>⟨(.inr (zdo (zah (bs2 GE1552.out GE1578.out)) hk)),zdv (Kd.N_lt (pN HO1563.out)) k_ hk,zgk (pB BK1552.out) k_ hk,zgk (pB BK1578.out) k_ hk⟩) _ (zav _)) (zbk _ _) (zav _) (by simp) ?_;(case hd=>rfl);(case hg=>rfl);(case hr=>first | (go_simp;done) | (go_simp;rfl));(case hp=>exact(zan (show Kd.FK (Kd.slice 5 (Kd.int .u8)) _ _ y1567 [.slice A19 y1567.length c19] from(zcy (zbx (zbh (ok':=(fun k_=>(P0_ k_∨w.heap.size≤k_)∧some k_≠(.slice Ao24 y1561.length co24:Value).ownBlock∧k_≠gb1552∧k_≠gb1578)) (HO1571.out) (fun k_ hk=>⟨hk.1,⟨hk.2.1,⟨hk.2.2.1,hk.2.2.2⟩⟩⟩))).2.1 (Kd.V_F (zbh (ok':=(fun k_=>(P0_ k_∨w.heap.size≤k_)∧some k_≠(.slice Ao24 y1561.length co24:Value).ownBlock∧k_≠gb1552∧k_≠gb1578)) (HO1571.out) (fun k_ hk=>⟨hk.1,⟨hk.2.1,⟨hk.2.2.1,hk.2.2.2⟩⟩⟩))))) (zeb _ _)))
               intro v1573 w24 ho25 hb hg_ hnew_
               have HS0_:=(hb.cell (World.block_lt_of_cell? _ _ (hHeld.1))).trans (hHeld.1)
               have HS1_:=(hb.cell (World.block_lt_of_cell? _ _ (hHeld.2))).trans (hHeld.2)
               clear hg_ hnew_
               (first | rw[← Ny1572.out] at ho25 | (simp only[Int.reduceToNat] at ho25;rw[← Ny1572.out] at ho25))
               have n_:=jA8 (zbw (pV HO_0.out) (zea ho25) hb) (zbw (pV HO1560.out) (zea ho25) hb) (zbw (pV HO1571.out) (zea ho25) hb) (zew (pN HO1563.out) (zea ho25) hb) (zfe ho25 (zah (bs2 GE1552.out GE1578.out))) (jbb BK1552.out hb) (jbb BK1578.out hb) (zal (bs2 GE1552.out GE1578.out) hb)
               clear HO_0 HO1560 HO1571 HO1563 BK1552 BK1578 HB
               obtain⟨HO_0,HO1560,HO1571,HO1563,HO1574,BK1552,BK1578,HB⟩:=n_
               clear hb ho25
               refine hK.out _ _ ⟨HS0_,HS1_⟩ (fun hHeld=>?_)
               clear hK K
               refine norm_ (a':=?_) ?_ ?_
               rotate_left
               ·show Act.put _ (some 31) _=_
                simp only[Act.put,zaa,zae,zaf,i64_w,i32_w]
                rfl
               exact norm_ (by first | (simp only[putAll,Act.put,zaa,zae,zaf];done) | (simp only[putAll,Act.put,zaa,zae,zaf];rfl)) (hJ12_16_19 ((.slice Ao24 y1561.length co24),v1573,gb1578) _ ⟨hHeld,(by(with_reducible repeat(first | apply zbn | apply zbo | apply zbu));exact zbh HO1560.out (fun _ hk=>⟨hk.1.1,⟨hk.1.2.1,⟨hk.2,⟨hk.1.2.2.1,hk.1.2.2.2⟩⟩⟩⟩)),(by(with_reducible repeat(first | apply zei | apply zej | apply zet));exact zem HO1563.out (fun _ hk=>⟨hk.1.1,⟨hk.2,⟨hk.1.2.1,hk.1.2.2⟩⟩⟩)),(by(with_reducible repeat(first | apply zbn | apply zbo | apply zbu));exact zbh HO1571.out (fun _ hk=>⟨hk.1.1,⟨hk.1.2.1,⟨hk.2,⟨hk.1.2.2.1,hk.1.2.2.2⟩⟩⟩⟩)),(pN HO1574.out),(by(with_reducible repeat(first | apply zbn | apply zbo | apply zbu));exact zbh HO_0.out (fun _ hk=>⟨hk.1.1,⟨hk.1.2.1,⟨hk.2,⟨hk.1.2.2.1,hk.1.2.2.2⟩⟩⟩⟩)),(pB BK1552.out),(pB BK1578.out),GW1578.out,GE1578.out,NB1552_1578.out,NB1578_1552.out,(bs2 GE1552.out GE1578.out)⟩)
              skip
              rintro⟨v1562,v1573⟩ w24 ⟨hS_,h0_,h1_,h2_,h3_,h4_,h5_,h6_⟩
              have n0_:Aside0 (Kd.V (Kd.int .u8) 5 w24 w.heap.size (fun k_=>(P0_ k_∨w.heap.size≤k_)∧some k_≠(v1562:Value).ownBlock∧some k_≠(v1573:Value).ownBlock∧k_≠gb1552) (.slice A18 y1556.length c18) y1556):=⟨h0_⟩
              have n1_:Aside0 (Kd.N (Kd.slice 5 (Kd.int .u8)) 23 w24 w.heap.size (fun k_=>(P0_ k_∨w.heap.size≤k_)∧some k_≠(v1573:Value).ownBlock∧k_≠gb1552) v1562 y1561):=⟨h1_⟩
              have n2_:Aside0 (Kd.V (Kd.int .u8) 5 w24 w.heap.size (fun k_=>(P0_ k_∨w.heap.size≤k_)∧some k_≠(v1562:Value).ownBlock∧some k_≠(v1573:Value).ownBlock∧k_≠gb1552) (.slice A19 y1567.length c19) y1567):=⟨h2_⟩
              have n3_:Aside0 (Kd.N (Kd.slice 5 (Kd.int .u8)) 23 w24 w.heap.size (fun k_=>(P0_ k_∨w.heap.size≤k_)∧some k_≠(v1562:Value).ownBlock∧k_≠gb1552) v1573 y1572):=⟨h3_⟩
              have n4_:Aside0 (Kd.V (Kd.int .u8) 5 w24 w.heap.size (fun k_=>(P0_ k_∨w.heap.size≤k_)∧some k_≠(v1562:Value).ownBlock∧some k_≠(v1573:Value).ownBlock∧k_≠gb1552) (.slice (some ad1554) l0.length c0) l0):=⟨h4_⟩
              have n5_:Aside0 (w24.heap[gb1552]? =some (.cells #[.int .i64 0, .slice none 0 0, .slice none 0 0] 55 (0,0))):=⟨h5_⟩
              have n6_:Aside0 (Below w.heap.size w w24):=⟨h6_⟩
              clear HO_0
              clear BK1552
              clear HB
              clear h0_ h1_ h2_ h3_ h4_ h5_ h6_
              have HO1560:=n0_
              have HO1563:=n1_
              have HO1571:=n2_
              have HO1574:=n3_
              have HO_0:=n4_
              have BK1552:=n5_
              have HB:=n6_
              clear n0_ n1_ n2_ n3_ n4_ n5_ n6_
              have hHeld:w24.cell? ⟨ad1554.block,ad1554.off+1,none⟩=some (.int .u8 (rd l0 1))∧w24.cell? ⟨ad1554.block,ad1554.off+2,none⟩=some (.int .u8 (rd l0 2)):=hS_
              obtain⟨Ao25,co25,eo25⟩:=zge HO1563.out
              (first | subst eo25 | (injection eo25 with f1_ f2_ f3_;have f4_:=f1_.symm;have f5_:=f3_.symm;clear f1_ f2_ f3_;subst f4_;subst f5_))
              refine norm_ (a':=?_) ?_ ?_
              rotate_left
              ·simp only[putAll,Act.put,zaa,zae,zaf]
               rfl
              refine two_ (i:=13) (j:=19) (Ni:=some 28) (Nj:=some 4) #[true,true,true,true,true,true,true,true,true,true,true,true,true,true,true,true,true,false,false,false,false] #[true,true,true,true,true,true,true,true,true,true,true,true,true,false,true,true,true,false,false,true,false] rfl rfl rfl rfl (two_of HT_.out (by kernel_rfl)) (by decide) (by decide) (fun K hK=>?_) (fun K hK=>?_)
              ·skip
               refine goes_ Try.func79 (by kernel_rfl) rfl #[.slice Ao25 y1561.length co25] (by rfl) rfl rfl jhl ?_
               with_reducible refine(impl_joined.calls _ _ y1561 t1564 _ ?side1 ?side2 A12.out).mono ?_
               (case side1=>repeat(first | exact(zee HO1563.out).2.2 | (with_reducible refine zbs ?_ _) | (with_reducible refine zbt ?_ _) | (with_reducible refine zcg ?_)))
               (case side2=>exact(zee HO1563.out).2.1)
               rintro e w26 ⟨v1565,rfl,ho0,hb⟩
               have HS0_:=(hb.cell (World.block_lt_of_cell? _ _ (hHeld.1))).trans (hHeld.1)
               have HS1_:=(hb.cell (World.block_lt_of_cell? _ _ (hHeld.2))).trans (hHeld.2)
               refine⟨_,rfl,?_⟩
               have n_:=jA8 (zbw (pV HO_0.out) (zba ho0) hb) (zbw (pV HO1560.out) (zba ho0) hb) (zbw (pV HO1571.out) (zba ho0) hb) (zew (pN HO1563.out) (zba ho0) hb) (zew (pN HO1574.out) (zba ho0) hb) (zaq (zfx (M:=fun k_=>(w.heap.size≤k_)) ho0 (zah (bs1 GE1552.out)) (fun k_ h_=>h_)) (zah (bs1 GE1552.out))) (jbb BK1552.out hb) (zal (bs1 GE1552.out) hb)
               clear HO_0 HO1560 HO1571 HO1563 HO1574 BK1552 HB
               obtain⟨HO_0,HO1560,HO1571,HO1563,HO1574,HO1566,BK1552,HB⟩:=n_
               (try clear hb)
               (try clear hb2)
               (try clear hk)
               (try clear hi)
               (try clear ho0)
               refine hK.out _ _ ⟨HS0_,HS1_⟩ (fun hHeld=>?_)
               clear hK K
               refine norm_ (a':=?_) ?_ ?_
               rotate_left
               ·show Act.put _ (some 28) _=_
                simp only[Act.put,zaa,zae,zaf,i64_w,i32_w]
                rfl
               exact norm_ (by first | (simp only[putAll,Act.put,zaa,zae,zaf];done) | (simp only[putAll,Act.put,zaa,zae,zaf];rfl)) (hJ12_13_16 (.slice Ao25 y1561.length co25,v1565,v1573) _ ⟨hHeld,(by(with_reducible repeat(first | apply zbn | apply zbo | apply zbu));exact zbh HO1560.out (fun _ hk=>⟨hk.1.1,⟨hk.1.2.1,⟨hk.2,⟨hk.1.2.2.1,hk.1.2.2.2⟩⟩⟩⟩)),(by(with_reducible repeat(first | apply zei | apply zej | apply zet));exact zem HO1563.out (fun _ hk=>⟨hk.1.1,⟨hk.2,⟨hk.1.2.1,hk.1.2.2⟩⟩⟩)),(by(with_reducible repeat(first | apply zat | apply zau | apply zar));exact zao HO1566.out (fun _ hk=>hk.1)),(by(with_reducible repeat(first | apply zbn | apply zbo | apply zbu));exact zbh HO1571.out (fun _ hk=>⟨hk.1.1,⟨hk.1.2.1,⟨hk.2,⟨hk.1.2.2.1,hk.1.2.2.2⟩⟩⟩⟩)),(by(with_reducible repeat(first | apply zei | apply zej | apply zet));exact zem HO1574.out (fun _ hk=>⟨hk.1.1,⟨hk.1.2.1,⟨hk.2,hk.1.2.2⟩⟩⟩)),(by(with_reducible repeat(first | apply zbn | apply zbo | apply zbu));exact zbh HO_0.out (fun _ hk=>⟨hk.1.1,⟨hk.1.2.1,⟨hk.2,⟨hk.1.2.2.1,hk.1.2.2.2⟩⟩⟩⟩)),(pB BK1552.out),(bs1 GE1552.out)⟩)
              skip
              refine box_step ?hg (N:=4) ?hd (cs:= #[.int .i64 0, .slice none 0 0, .slice none 0 0]) (t:=55) ?hr ?_;(case hd=>rfl);(case hg=>rfl);(case hr=>first | (go_simp;done) | (go_simp;rfl))
              intro gb1578 hg w25 hbox hb
              have HS0_:=(hb.cell (World.block_lt_of_cell? _ _ (hHeld.1))).trans (hHeld.1)
              have HS1_:=(hb.cell (World.block_lt_of_cell? _ _ (hHeld.2))).trans (hHeld.2)
              have n_:=jA12 (zcw (zep (pV HO_0.out) gb1578 (zdq hg.symm)) hb) (zcw (zep (pV HO1560.out) gb1578 (zdq hg.symm)) hb) (zcw (zep (pV HO1571.out) gb1578 (zdq hg.symm)) hb) (zgs (Kd.N_elderB (pN HO1563.out) gb1578 (zdq hg.symm)) hb) (zgs (Kd.N_elderB (pN HO1574.out) gb1578 (zdq hg.symm)) hb) (jbb BK1552.out hb) (zal (bs1 GE1552.out) hb) (hbox) (ge0 hg (bs1 GE1552.out):w.heap.size≤gb1578) (ge0 hg (bs1 GE1552.out):w.heap.size≤gb1578) (nl hg (pB BK1552.out):gb1552≠gb1578) (ng hg (pB BK1552.out):gb1578≠gb1552)
              clear HO_0 HO1560 HO1571 HO1563 HO1574 BK1552 HB
              obtain⟨HO_0,HO1560,HO1571,HO1563,HO1574,BK1552,HB,BK1578,GW1578,GE1578,NB1552_1578,NB1578_1552⟩:=n_
              clear hb hbox hg
              refine hK.out _ _ ⟨HS0_,HS1_⟩ (fun hHeld=>?_)
              clear hK K
              refine norm_ (a':=?_) ?_ ?_
              rotate_left
              ·show Act.put _ (some 4) _=_
               simp only[Act.put,zaa,zae,zaf,i64_w,i32_w]
               rfl
              exact norm_ (by first | (simp only[putAll,Act.put,zaa,zae,zaf];done) | (simp only[putAll,Act.put,zaa,zae,zaf];rfl)) (hJ12_16_19 ((.slice Ao25 y1561.length co25),v1573,gb1578) _ ⟨hHeld,(by(with_reducible repeat(first | apply zbn | apply zbo | apply zbu));exact zbh HO1560.out (fun _ hk=>⟨hk.1.1,⟨hk.1.2.1,⟨hk.1.2.2.1,⟨hk.1.2.2.2,hk.2⟩⟩⟩⟩)),(by(with_reducible repeat(first | apply zei | apply zej | apply zet));exact zem HO1563.out (fun _ hk=>⟨hk.1.1,⟨hk.1.2.1,⟨hk.1.2.2,hk.2⟩⟩⟩)),(by(with_reducible repeat(first | apply zbn | apply zbo | apply zbu));exact zbh HO1571.out (fun _ hk=>⟨hk.1.1,⟨hk.1.2.1,⟨hk.1.2.2.1,⟨hk.1.2.2.2,hk.2⟩⟩⟩⟩)),(by(with_reducible repeat(first | apply zei | apply zej | apply zet));exact zem HO1574.out (fun _ hk=>⟨hk.1.1,⟨hk.1.2.1,⟨hk.1.2.2,hk.2⟩⟩⟩)),(by(with_reducible repeat(first | apply zbn | apply zbo | apply zbu));exact zbh HO_0.out (fun _ hk=>⟨hk.1.1,⟨hk.1.2.1,⟨hk.1.2.2.1,⟨hk.1.2.2.2,hk.2⟩⟩⟩⟩)),(pB BK1552.out),(pB BK1578.out),GW1578.out,GE1578.out,NB1552_1578.out,NB1578_1552.out,(bs2 GE1552.out GE1578.out)⟩)
             skip
             rintro⟨v1562,v1565⟩ w24 ⟨hS_,h0_,h1_,h2_,h3_,h4_,h5_,h6_⟩
             have n0_:Aside0 (Kd.V (Kd.int .u8) 5 w24 w.heap.size (fun k_=>(P0_ k_∨w.heap.size≤k_)∧some k_≠(v1562:Value).ownBlock∧some k_≠(v1565:Value).ownBlock∧k_≠gb1552) (.slice A18 y1556.length c18) y1556):=⟨h0_⟩
             have n1_:Aside0 (Kd.N (Kd.slice 5 (Kd.int .u8)) 23 w24 w.heap.size (fun k_=>(P0_ k_∨w.heap.size≤k_)∧some k_≠(v1565:Value).ownBlock∧k_≠gb1552) v1562 y1561):=⟨h1_⟩
             have n2_:Aside0 (Kd.R (Kd.int .u8) 5 w24 w.heap.size (fun k_=>(w.heap.size≤k_)) v1565 t1564):=⟨h2_⟩
             have n3_:Aside0 (Kd.V (Kd.int .u8) 5 w24 w.heap.size (fun k_=>(P0_ k_∨w.heap.size≤k_)∧some k_≠(v1562:Value).ownBlock∧some k_≠(v1565:Value).ownBlock∧k_≠gb1552) (.slice A19 y1567.length c19) y1567):=⟨h3_⟩
             have n4_:Aside0 (Kd.V (Kd.int .u8) 5 w24 w.heap.size (fun k_=>(P0_ k_∨w.heap.size≤k_)∧some k_≠(v1562:Value).ownBlock∧some k_≠(v1565:Value).ownBlock∧k_≠gb1552) (.slice (some ad1554) l0.length c0) l0):=⟨h4_⟩
             have n5_:Aside0 (w24.heap[gb1552]? =some (.cells #[.int .i64 0, .slice none 0 0, .slice none 0 0] 55 (0,0))):=⟨h5_⟩
             have n6_:Aside0 (Below w.heap.size w w24):=⟨h6_⟩
             clear HO_0
             clear BK1552
             clear HB
             clear h0_ h1_ h2_ h3_ h4_ h5_ h6_
             have HO1560:=n0_
             have HO1563:=n1_
             have HO1566:=n2_
             have HO1571:=n3_
             have HO_0:=n4_
             have BK1552:=n5_
             have HB:=n6_
             clear n0_ n1_ n2_ n3_ n4_ n5_ n6_
             have hHeld:w24.cell? ⟨ad1554.block,ad1554.off+1,none⟩=some (.int .u8 (rd l0 1))∧w24.cell? ⟨ad1554.block,ad1554.off+2,none⟩=some (.int .u8 (rd l0 2)):=hS_
             refine norm_ (a':=?_) ?_ ?_
             rotate_left
             ·simp only[putAll,Act.put,zaa,zae,zaf]
              rfl
             refine two_ (i:=16) (j:=19) (Ni:=some 31) (Nj:=some 4) #[true,true,true,true,true,true,true,true,true,true,true,true,true,true,true,true,true,false,false,false,false] #[true,true,true,true,true,true,true,true,true,true,true,true,true,true,true,true,false,false,false,true,false] rfl rfl rfl rfl (two_of HT_.out (by kernel_rfl)) (by decide) (by decide) (fun K hK=>?_) (fun K hK=>?_)
             ·skip
              refine zgd (Kd.slice 5 (Kd.int .u8)) _ 23 ?hg (N':=31) ?hd (xs:=([y1567]:List (List Int))) (inner:=[.slice A19 y1567.length c19]) (ok:=(fun k_=>(P0_ k_∨w.heap.size≤k_)∧some k_≠(v1562:Value).ownBlock∧some k_≠(v1565:Value).ownBlock∧k_≠gb1552)) (okp:=(fun k_=>(P0_ k_∨w.heap.size≤k_)∧some k_≠(v1562:Value).ownBlock∧some k_≠(v1565:Value).ownBlock∧k_≠gb1552)) ?hr ?hp (fun _ hk=>hk) ((show ∀ k_,w24.heap.size≤k_→(fun k_=>(P0_ k_∨w.heap.size≤k_)∧some k_≠(v1562:Value).ownBlock∧some k_≠(v1565:Value).ownBlock∧k_≠gb1552) k_ from fun k_ hk=>⟨(.inr (zdo (zah (bs1 GE1552.out)) hk)),zdv (Kd.N_lt (pN HO1563.out)) k_ hk,zdv (zca (pR HO1566.out)) k_ hk,zgk (pB BK1552.out) k_ hk⟩) _ (zav _)) (zbk _ _) (zav _) (by simp) ?_;(case hd=>rfl);(case hg=>rfl);(case hr=>first | (go_simp;done) | (go_simp;rfl));(case hp=>exact(zan (show Kd.FK (Kd.slice 5 (Kd.int .u8)) _ _ y1567 [.slice A19 y1567.length c19] from(zcy (zbx (zbh (ok':=(fun k_=>(P0_ k_∨w.heap.size≤k_)∧some k_≠(v1562:Value).ownBlock∧some k_≠(v1565:Value).ownBlock∧k_≠gb1552)) (HO1571.out) (fun k_ hk=>⟨hk.1,⟨hk.2.1,⟨hk.2.2.1,hk.2.2.2⟩⟩⟩))).2.1 (Kd.V_F (zbh (ok':=(fun k_=>(P0_ k_∨w.heap.size≤k_)∧some k_≠(v1562:Value).ownBlock∧some k_≠(v1565:Value).ownBlock∧k_≠gb1552)) (HO1571.out) (fun k_ hk=>⟨hk.1,⟨hk.2.1,⟨hk.2.2.1,hk.2.2.2⟩⟩⟩))))) (zeb _ _)))
              intro v1573 w25 ho26 hb hg_ hnew_
              have HS0_:=(hb.cell (World.block_lt_of_cell? _ _ (hHeld.1))).trans (hHeld.1)
              have HS1_:=(hb.cell (World.block_lt_of_cell? _ _ (hHeld.2))).trans (hHeld.2)
              clear hg_ hnew_
              (first | rw[← Ny1572.out] at ho26 | (simp only[Int.reduceToNat] at ho26;rw[← Ny1572.out] at ho26))
              have n_:=jA8 (zbw (pV HO_0.out) (zea ho26) hb) (zbw (pV HO1560.out) (zea ho26) hb) (zbw (pV HO1571.out) (zea ho26) hb) (zew (pN HO1563.out) (zea ho26) hb) (zen (pR HO1566.out) hb) (zfe ho26 (zah (bs1 GE1552.out))) (jbb BK1552.out hb) (zal (bs1 GE1552.out) hb)
              clear HO_0 HO1560 HO1571 HO1563 HO1566 BK1552 HB
              obtain⟨HO_0,HO1560,HO1571,HO1563,HO1566,HO1574,BK1552,HB⟩:=n_
              clear hb ho26
              refine hK.out _ _ ⟨HS0_,HS1_⟩ (fun hHeld=>?_)
              clear hK K
              refine norm_ (a':=?_) ?_ ?_
              rotate_left
              ·show Act.put _ (some 31) _=_
               simp only[Act.put,zaa,zae,zaf,i64_w,i32_w]
               rfl
              exact norm_ (by first | (simp only[putAll,Act.put,zaa,zae,zaf];done) | (simp only[putAll,Act.put,zaa,zae,zaf];rfl)) (hJ12_13_16 (v1562,v1565,v1573) _ ⟨hHeld,(by(with_reducible repeat(first | apply zbn | apply zbo | apply zbu));exact zbh HO1560.out (fun _ hk=>⟨hk.1.1,⟨hk.1.2.1,⟨hk.1.2.2.1,⟨hk.2,hk.1.2.2.2⟩⟩⟩⟩)),(by(with_reducible repeat(first | apply zei | apply zej | apply zet));exact zem HO1563.out (fun _ hk=>⟨hk.1.1,⟨hk.1.2.1,⟨hk.2,hk.1.2.2⟩⟩⟩)),(pR HO1566.out),(by(with_reducible repeat(first | apply zbn | apply zbo | apply zbu));exact zbh HO1571.out (fun _ hk=>⟨hk.1.1,⟨hk.1.2.1,⟨hk.1.2.2.1,⟨hk.2,hk.1.2.2.2⟩⟩⟩⟩)),(pN HO1574.out),(by(with_reducible repeat(first | apply zbn | apply zbo | apply zbu));exact zbh HO_0.out (fun _ hk=>⟨hk.1.1,⟨hk.1.2.1,⟨hk.1.2.2.1,⟨hk.2,hk.1.2.2.2⟩⟩⟩⟩)),(pB BK1552.out),(bs1 GE1552.out)⟩)
             skip
             refine box_step ?hg (N:=4) ?hd (cs:= #[.int .i64 0, .slice none 0 0, .slice none 0 0]) (t:=55) ?hr ?_;(case hd=>rfl);(case hg=>rfl);(case hr=>first | (go_simp;done) | (go_simp;rfl))
             intro gb1578 hg w25 hbox hb
             have HS0_:=(hb.cell (World.block_lt_of_cell? _ _ (hHeld.1))).trans (hHeld.1)
             have HS1_:=(hb.cell (World.block_lt_of_cell? _ _ (hHeld.2))).trans (hHeld.2)
             have n_:=jA12 (zcw (zep (pV HO_0.out) gb1578 (zdq hg.symm)) hb) (zcw (zep (pV HO1560.out) gb1578 (zdq hg.symm)) hb) (zcw (zep (pV HO1571.out) gb1578 (zdq hg.symm)) hb) (zgs (Kd.N_elderB (pN HO1563.out) gb1578 (zdq hg.symm)) hb) (zen (pR HO1566.out) hb) (jbb BK1552.out hb) (zal (bs1 GE1552.out) hb) (hbox) (ge0 hg (bs1 GE1552.out):w.heap.size≤gb1578) (ge0 hg (bs1 GE1552.out):w.heap.size≤gb1578) (nl hg (pB BK1552.out):gb1552≠gb1578) (ng hg (pB BK1552.out):gb1578≠gb1552)
             clear HO_0 HO1560 HO1571 HO1563 HO1566 BK1552 HB
             obtain⟨HO_0,HO1560,HO1571,HO1563,HO1566,BK1552,HB,BK1578,GW1578,GE1578,NB1552_1578,NB1578_1552⟩:=n_
             clear hb hbox hg
             refine hK.out _ _ ⟨HS0_,HS1_⟩ (fun hHeld=>?_)
             clear hK K
             refine norm_ (a':=?_) ?_ ?_
             rotate_left
             ·show Act.put _ (some 4) _=_
              simp only[Act.put,zaa,zae,zaf,i64_w,i32_w]
              rfl
             exact norm_ (by first | (simp only[putAll,Act.put,zaa,zae,zaf];done) | (simp only[putAll,Act.put,zaa,zae,zaf];rfl)) (hJ12_13_19 (v1562,v1565,gb1578) _ ⟨hHeld,(by(with_reducible repeat(first | apply zbn | apply zbo | apply zbu));exact zbh HO1560.out (fun _ hk=>⟨hk.1.1,⟨hk.1.2.1,⟨hk.1.2.2.1,⟨hk.1.2.2.2,hk.2⟩⟩⟩⟩)),(by(with_reducible repeat(first | apply zei | apply zej | apply zet));exact zem HO1563.out (fun _ hk=>⟨hk.1.1,⟨hk.1.2.1,⟨hk.1.2.2,hk.2⟩⟩⟩)),(pR HO1566.out),(by(with_reducible repeat(first | apply zbn | apply zbo | apply zbu));exact zbh HO1571.out (fun _ hk=>⟨hk.1.1,⟨hk.1.2.1,⟨hk.1.2.2.1,⟨hk.1.2.2.2,hk.2⟩⟩⟩⟩)),(by(with_reducible repeat(first | apply zbn | apply zbo | apply zbu));exact zbh HO_0.out (fun _ hk=>⟨hk.1.1,⟨hk.1.2.1,⟨hk.1.2.2.1,⟨hk.1.2.2.2,hk.2⟩⟩⟩⟩)),(pB BK1552.out),(pB BK1578.out),GW1578.out,GE1578.out,NB1552_1578.out,NB1578_1552.out,(bs2 GE1552.out GE1578.out)⟩)
            skip
            rintro⟨v1562,v1573,gb1578⟩ w25 ⟨hS_,h0_,h1_,h2_,h3_,h4_,h5_,h6_,h7_,h8_,h9_,h10_,h11_⟩
            have n0_:Aside0 (Kd.V (Kd.int .u8) 5 w25 w.heap.size (fun k_=>(P0_ k_∨w.heap.size≤k_)∧some k_≠(v1562:Value).ownBlock∧some k_≠(v1573:Value).ownBlock∧k_≠gb1552∧k_≠gb1578) (.slice A18 y1556.length c18) y1556):=⟨h0_⟩
            have n1_:Aside0 (Kd.N (Kd.slice 5 (Kd.int .u8)) 23 w25 w.heap.size (fun k_=>(P0_ k_∨w.heap.size≤k_)∧some k_≠(v1573:Value).ownBlock∧k_≠gb1552∧k_≠gb1578) v1562 y1561):=⟨h1_⟩
            have n2_:Aside0 (Kd.V (Kd.int .u8) 5 w25 w.heap.size (fun k_=>(P0_ k_∨w.heap.size≤k_)∧some k_≠(v1562:Value).ownBlock∧some k_≠(v1573:Value).ownBlock∧k_≠gb1552∧k_≠gb1578) (.slice A19 y1567.length c19) y1567):=⟨h2_⟩
            have n3_:Aside0 (Kd.N (Kd.slice 5 (Kd.int .u8)) 23 w25 w.heap.size (fun k_=>(P0_ k_∨w.heap.size≤k_)∧some k_≠(v1562:Value).ownBlock∧k_≠gb1552∧k_≠gb1578) v1573 y1572):=⟨h3_⟩
            have n4_:Aside0 (Kd.V (Kd.int .u8) 5 w25 w.heap.size (fun k_=>(P0_ k_∨w.heap.size≤k_)∧some k_≠(v1562:Value).ownBlock∧some k_≠(v1573:Value).ownBlock∧k_≠gb1552∧k_≠gb1578) (.slice (some ad1554) l0.length c0) l0):=⟨h4_⟩
            have n5_:Aside0 (w25.heap[gb1552]? =some (.cells #[.int .i64 0, .slice none 0 0, .slice none 0 0] 55 (0,0))):=⟨h5_⟩
            have n6_:Aside0 (w25.heap[gb1578]? =some (.cells #[.int .i64 0, .slice none 0 0, .slice none 0 0] 55 (0,0))):=⟨h6_⟩
            have n7_:Aside0 (w.heap.size≤gb1578):=⟨h7_⟩
            have n8_:Aside0 (w.heap.size≤gb1578):=⟨h8_⟩
            have n9_:Aside0 (gb1552≠gb1578):=⟨h9_⟩
            have n10_:Aside0 (gb1578≠gb1552):=⟨h10_⟩
            have n11_:Aside0 (Below w.heap.size w w25):=⟨h11_⟩
            clear HO_0
            clear BK1552
            clear HB
            clear h0_ h1_ h2_ h3_ h4_ h5_ h6_ h7_ h8_ h9_ h10_ h11_
            have HO1560:=n0_
            have HO1563:=n1_
            have HO1571:=n2_
            have HO1574:=n3_
            have HO_0:=n4_
            have BK1552:=n5_
            have BK1578:=n6_
            have GW1578:=n7_
            have GE1578:=n8_
            have NB1552_1578:=n9_
            have NB1578_1552:=n10_
            have HB:=n11_
            clear n0_ n1_ n2_ n3_ n4_ n5_ n6_ n7_ n8_ n9_ n10_ n11_
            have hHeld:w25.cell? ⟨ad1554.block,ad1554.off+1,none⟩=some (.int .u8 (rd l0 1))∧w25.cell? ⟨ad1554.block,ad1554.off+2,none⟩=some (.int .u8 (rd l0 2)):=hS_
            obtain⟨Ao26,co26,eo26⟩:=zge HO1563.out
            (first | subst eo26 | (injection eo26 with f1_ f2_ f3_;have f4_:=f1_.symm;have f5_:=f3_.symm;clear f1_ f2_ f3_;subst f4_;subst f5_))
            refine norm_ (a':=?_) ?_ ?_
            rotate_left
            ·simp only[putAll,Act.put,zaa,zae,zaf]
             rfl
            refine one_ (i:=13) (N:=some 28) #[true,true,true,true,true,true,true,true,true,true,true,true,true,true,true,true,true,false,false,true,false] rfl rfl (one_of HT_.out (by kernel_rfl)) (by decide) (fun K hK=>?_)
            refine goes_ Try.func79 (by kernel_rfl) rfl #[.slice Ao26 y1561.length co26] (by rfl) rfl rfl jhl ?_
            with_reducible refine(impl_joined.calls _ _ y1561 t1564 _ ?side1 ?side2 A12.out).mono ?_
            (case side1=>repeat(first | exact(zee HO1563.out).2.2 | (with_reducible refine zbs ?_ _) | (with_reducible refine zbt ?_ _) | (with_reducible refine zcg ?_)))
            (case side2=>exact(zee HO1563.out).2.1)
            rintro e w27 ⟨v1565,rfl,ho0,hb⟩
            have HS0_:=(hb.cell (World.block_lt_of_cell? _ _ (hHeld.1))).trans (hHeld.1)
            have HS1_:=(hb.cell (World.block_lt_of_cell? _ _ (hHeld.2))).trans (hHeld.2)
            refine⟨_,rfl,?_⟩
            have n_:=jA9 (zbw (pV HO_0.out) (zba ho0) hb) (zbw (pV HO1560.out) (zba ho0) hb) (zbw (pV HO1571.out) (zba ho0) hb) (zew (pN HO1563.out) (zba ho0) hb) (zew (pN HO1574.out) (zba ho0) hb) (zaq (zfx (M:=fun k_=>(w.heap.size≤k_)) ho0 (zah (bs2 GE1552.out GE1578.out)) (fun k_ h_=>h_)) (zah (bs2 GE1552.out GE1578.out))) (jbb BK1552.out hb) (jbb BK1578.out hb) (zal (bs2 GE1552.out GE1578.out) hb)
            clear HO_0 HO1560 HO1571 HO1563 HO1574 BK1552 BK1578 HB
            obtain⟨HO_0,HO1560,HO1571,HO1563,HO1574,HO1566,BK1552,BK1578,HB⟩:=n_
            (try clear hb)
            (try clear hb2)
            (try clear hk)
            (try clear hi)
            (try clear ho0)
            refine hK.out _ _ ⟨HS0_,HS1_⟩ (fun hHeld=>?_)
            clear hK K
            refine norm_ (a':=?_) ?_ ?_
            rotate_left
            ·show Act.put _ (some 28) _=_
             simp only[Act.put,zaa,zae,zaf,i64_w,i32_w]
             rfl
            exact norm_ (by first | (simp only[putAll,Act.put,zaa,zae,zaf];done) | (simp only[putAll,Act.put,zaa,zae,zaf];rfl)) (hJ12_13_16_19 (.slice Ao26 y1561.length co26,v1565,v1573,gb1578) _ ⟨hHeld,(by(with_reducible repeat(first | apply zbn | apply zbo | apply zbu));exact zbh HO1560.out (fun _ hk=>⟨hk.1.1,⟨hk.1.2.1,⟨hk.2,⟨hk.1.2.2.1,⟨hk.1.2.2.2.1,hk.1.2.2.2.2⟩⟩⟩⟩⟩)),(by(with_reducible repeat(first | apply zei | apply zej | apply zet));exact zem HO1563.out (fun _ hk=>⟨hk.1.1,⟨hk.2,⟨hk.1.2.1,⟨hk.1.2.2.1,hk.1.2.2.2⟩⟩⟩⟩)),(by(with_reducible repeat(first | apply zat | apply zau | apply zar));exact zao HO1566.out (fun _ hk=>hk.1)),(by(with_reducible repeat(first | apply zbn | apply zbo | apply zbu));exact zbh HO1571.out (fun _ hk=>⟨hk.1.1,⟨hk.1.2.1,⟨hk.2,⟨hk.1.2.2.1,⟨hk.1.2.2.2.1,hk.1.2.2.2.2⟩⟩⟩⟩⟩)),(by(with_reducible repeat(first | apply zei | apply zej | apply zet));exact zem HO1574.out (fun _ hk=>⟨hk.1.1,⟨hk.1.2.1,⟨hk.2,⟨hk.1.2.2.1,hk.1.2.2.2⟩⟩⟩⟩)),(by(with_reducible repeat(first | apply zbn | apply zbo | apply zbu));exact zbh HO_0.out (fun _ hk=>⟨hk.1.1,⟨hk.1.2.1,⟨hk.2,⟨hk.1.2.2.1,⟨hk.1.2.2.2.1,hk.1.2.2.2.2⟩⟩⟩⟩⟩)),(pB BK1552.out),(pB BK1578.out),GW1578.out,GE1578.out,NB1552_1578.out,NB1578_1552.out,(bs2 GE1552.out GE1578.out)⟩)
           skip
           rintro⟨v1562,v1565,gb1578⟩ w25 ⟨hS_,h0_,h1_,h2_,h3_,h4_,h5_,h6_,h7_,h8_,h9_,h10_,h11_⟩
           have n0_:Aside0 (Kd.V (Kd.int .u8) 5 w25 w.heap.size (fun k_=>(P0_ k_∨w.heap.size≤k_)∧some k_≠(v1562:Value).ownBlock∧some k_≠(v1565:Value).ownBlock∧k_≠gb1552∧k_≠gb1578) (.slice A18 y1556.length c18) y1556):=⟨h0_⟩
           have n1_:Aside0 (Kd.N (Kd.slice 5 (Kd.int .u8)) 23 w25 w.heap.size (fun k_=>(P0_ k_∨w.heap.size≤k_)∧some k_≠(v1565:Value).ownBlock∧k_≠gb1552∧k_≠gb1578) v1562 y1561):=⟨h1_⟩
           have n2_:Aside0 (Kd.R (Kd.int .u8) 5 w25 w.heap.size (fun k_=>(w.heap.size≤k_)) v1565 t1564):=⟨h2_⟩
           have n3_:Aside0 (Kd.V (Kd.int .u8) 5 w25 w.heap.size (fun k_=>(P0_ k_∨w.heap.size≤k_)∧some k_≠(v1562:Value).ownBlock∧some k_≠(v1565:Value).ownBlock∧k_≠gb1552∧k_≠gb1578) (.slice A19 y1567.length c19) y1567):=⟨h3_⟩
           have n4_:Aside0 (Kd.V (Kd.int .u8) 5 w25 w.heap.size (fun k_=>(P0_ k_∨w.heap.size≤k_)∧some k_≠(v1562:Value).ownBlock∧some k_≠(v1565:Value).ownBlock∧k_≠gb1552∧k_≠gb1578) (.slice (some ad1554) l0.length c0) l0):=⟨h4_⟩
           have n5_:Aside0 (w25.heap[gb1552]? =some (.cells #[.int .i64 0, .slice none 0 0, .slice none 0 0] 55 (0,0))):=⟨h5_⟩
           have n6_:Aside0 (w25.heap[gb1578]? =some (.cells #[.int .i64 0, .slice none 0 0, .slice none 0 0] 55 (0,0))):=⟨h6_⟩
           have n7_:Aside0 (w.heap.size≤gb1578):=⟨h7_⟩
           have n8_:Aside0 (w.heap.size≤gb1578):=⟨h8_⟩
           have n9_:Aside0 (gb1552≠gb1578):=⟨h9_⟩
           have n10_:Aside0 (gb1578≠gb1552):=⟨h10_⟩
           have n11_:Aside0 (Below w.heap.size w w25):=⟨h11_⟩
           clear HO_0
           clear BK1552
           clear HB
           clear h0_ h1_ h2_ h3_ h4_ h5_ h6_ h7_ h8_ h9_ h10_ h11_
           have HO1560:=n0_
           have HO1563:=n1_
           have HO1566:=n2_
           have HO1571:=n3_
           have HO_0:=n4_
           have BK1552:=n5_
           have BK1578:=n6_
           have GW1578:=n7_
           have GE1578:=n8_
           have NB1552_1578:=n9_
           have NB1578_1552:=n10_
           have HB:=n11_
           clear n0_ n1_ n2_ n3_ n4_ n5_ n6_ n7_ n8_ n9_ n10_ n11_
           have hHeld:w25.cell? ⟨ad1554.block,ad1554.off+1,none⟩=some (.int .u8 (rd l0 1))∧w25.cell? ⟨ad1554.block,ad1554.off+2,none⟩=some (.int .u8 (rd l0 2)):=hS_
           refine norm_ (a':=?_) ?_ ?_
           rotate_left
           ·simp only[putAll,Act.put,zaa,zae,zaf]
            rfl
           refine one_ (i:=16) (N:=some 31) #[true,true,true,true,true,true,true,true,true,true,true,true,true,true,true,true,true,false,false,true,false] rfl rfl (one_of HT_.out (by kernel_rfl)) (by decide) (fun K hK=>?_)
           refine zgd (Kd.slice 5 (Kd.int .u8)) _ 23 ?hg (N':=31) ?hd (xs:=([y1567]:List (List Int))) (inner:=[.slice A19 y1567.length c19]) (ok:=(fun k_=>(P0_ k_∨w.heap.size≤k_)∧some k_≠(v1562:Value).ownBlock∧some k_≠(v1565:Value).ownBlock∧k_≠gb1552∧k_≠gb1578)) (okp:=(fun k_=>(P0_ k_∨w.heap.size≤k_)∧some k_≠(v1562:Value).ownBlock∧some k_≠(v1565:Value).ownBlock∧k_≠gb1552∧k_≠gb1578)) ?hr ?hp (fun _ hk=>hk) ((show ∀ k_,w25.heap.size≤k_→(fun k_=>(P0_ k_∨w.heap.size≤k_)∧some k_≠(v1562:Value).ownBlock∧some k_≠(v1565:Value).ownBlock∧k_≠gb1552∧k_≠gb1578) k_ from fun k_ hk=>⟨(.inr (zdo (zah (bs2 GE1552.out GE1578.out)) hk)),zdv (Kd.N_lt (pN HO1563.out)) k_ hk,zdv (zca (pR HO1566.out)) k_ hk,zgk (pB BK1552.out) k_ hk,zgk (pB BK1578.out) k_ hk⟩) _ (zav _)) (zbk _ _) (zav _) (by simp) ?_;(case hd=>rfl);(case hg=>rfl);(case hr=>first | (go_simp;done) | (go_simp;rfl));(case hp=>exact(zan (show Kd.FK (Kd.slice 5 (Kd.int .u8)) _ _ y1567 [.slice A19 y1567.length c19] from(zcy (zbx (zbh (ok':=(fun k_=>(P0_ k_∨w.heap.size≤k_)∧some k_≠(v1562:Value).ownBlock∧some k_≠(v1565:Value).ownBlock∧k_≠gb1552∧k_≠gb1578)) (HO1571.out) (fun k_ hk=>⟨hk.1,⟨hk.2.1,⟨hk.2.2.1,⟨hk.2.2.2.1,hk.2.2.2.2⟩⟩⟩⟩))).2.1 (Kd.V_F (zbh (ok':=(fun k_=>(P0_ k_∨w.heap.size≤k_)∧some k_≠(v1562:Value).ownBlock∧some k_≠(v1565:Value).ownBlock∧k_≠gb1552∧k_≠gb1578)) (HO1571.out) (fun k_ hk=>⟨hk.1,⟨hk.2.1,⟨hk.2.2.1,⟨hk.2.2.2.1,hk.2.2.2.2⟩⟩⟩⟩))))) (zeb _ _)))
           intro v1573 w26 ho27 hb hg_ hnew_
           have HS0_:=(hb.cell (World.block_lt_of_cell? _ _ (hHeld.1))).trans (hHeld.1)
           have HS1_:=(hb.cell (World.block_lt_of_cell? _ _ (hHeld.2))).trans (hHeld.2)
           clear hg_ hnew_
           (first | rw[← Ny1572.out] at ho27 | (simp only[Int.reduceToNat] at ho27;rw[← Ny1572.out] at ho27))
           have n_:=jA9 (zbw (pV HO_0.out) (zea ho27) hb) (zbw (pV HO1560.out) (zea ho27) hb) (zbw (pV HO1571.out) (zea ho27) hb) (zew (pN HO1563.out) (zea ho27) hb) (zen (pR HO1566.out) hb) (zfe ho27 (zah (bs2 GE1552.out GE1578.out))) (jbb BK1552.out hb) (jbb BK1578.out hb) (zal (bs2 GE1552.out GE1578.out) hb)
           clear HO_0 HO1560 HO1571 HO1563 HO1566 BK1552 BK1578 HB
           obtain⟨HO_0,HO1560,HO1571,HO1563,HO1566,HO1574,BK1552,BK1578,HB⟩:=n_
           clear hb ho27
           refine hK.out _ _ ⟨HS0_,HS1_⟩ (fun hHeld=>?_)
           clear hK K
           refine norm_ (a':=?_) ?_ ?_
           rotate_left
           ·show Act.put _ (some 31) _=_
            simp only[Act.put,zaa,zae,zaf,i64_w,i32_w]
            rfl
           exact norm_ (by first | (simp only[putAll,Act.put,zaa,zae,zaf];done) | (simp only[putAll,Act.put,zaa,zae,zaf];rfl)) (hJ12_13_16_19 (v1562,v1565,v1573,gb1578) _ ⟨hHeld,(by(with_reducible repeat(first | apply zbn | apply zbo | apply zbu));exact zbh HO1560.out (fun _ hk=>⟨hk.1.1,⟨hk.1.2.1,⟨hk.1.2.2.1,⟨hk.2,⟨hk.1.2.2.2.1,hk.1.2.2.2.2⟩⟩⟩⟩⟩)),(by(with_reducible repeat(first | apply zei | apply zej | apply zet));exact zem HO1563.out (fun _ hk=>⟨hk.1.1,⟨hk.1.2.1,⟨hk.2,⟨hk.1.2.2.1,hk.1.2.2.2⟩⟩⟩⟩)),(pR HO1566.out),(by(with_reducible repeat(first | apply zbn | apply zbo | apply zbu));exact zbh HO1571.out (fun _ hk=>⟨hk.1.1,⟨hk.1.2.1,⟨hk.1.2.2.1,⟨hk.2,⟨hk.1.2.2.2.1,hk.1.2.2.2.2⟩⟩⟩⟩⟩)),(pN HO1574.out),(by(with_reducible repeat(first | apply zbn | apply zbo | apply zbu));exact zbh HO_0.out (fun _ hk=>⟨hk.1.1,⟨hk.1.2.1,⟨hk.1.2.2.1,⟨hk.2,⟨hk.1.2.2.2.1,hk.1.2.2.2.2⟩⟩⟩⟩⟩)),(pB BK1552.out),(pB BK1578.out),GW1578.out,GE1578.out,NB1552_1578.out,NB1578_1552.out,(bs2 GE1552.out GE1578.out)⟩)
          skip
          rintro⟨v1562,v1565,v1573⟩ w26 ⟨hS_,h0_,h1_,h2_,h3_,h4_,h5_,h6_,h7_⟩
          have n0_:Aside0 (Kd.V (Kd.int .u8) 5 w26 w.heap.size (fun k_=>(P0_ k_∨w.heap.size≤k_)∧some k_≠(v1562:Value).ownBlock∧some k_≠(v1565:Value).ownBlock∧some k_≠(v1573:Value).ownBlock∧k_≠gb1552) (.slice A18 y1556.length c18) y1556):=⟨h0_⟩
          have n1_:Aside0 (Kd.N (Kd.slice 5 (Kd.int .u8)) 23 w26 w.heap.size (fun k_=>(P0_ k_∨w.heap.size≤k_)∧some k_≠(v1565:Value).ownBlock∧some k_≠(v1573:Value).ownBlock∧k_≠gb1552) v1562 y1561):=⟨h1_⟩
          have n2_:Aside0 (Kd.R (Kd.int .u8) 5 w26 w.heap.size (fun k_=>(w.heap.size≤k_)) v1565 t1564):=⟨h2_⟩
          have n3_:Aside0 (Kd.V (Kd.int .u8) 5 w26 w.heap.size (fun k_=>(P0_ k_∨w.heap.size≤k_)∧some k_≠(v1562:Value).ownBlock∧some k_≠(v1565:Value).ownBlock∧some k_≠(v1573:Value).ownBlock∧k_≠gb1552) (.slice A19 y1567.length c19) y1567):=⟨h3_⟩
          have n4_:Aside0 (Kd.N (Kd.slice 5 (Kd.int .u8)) 23 w26 w.heap.size (fun k_=>(P0_ k_∨w.heap.size≤k_)∧some k_≠(v1562:Value).ownBlock∧some k_≠(v1565:Value).ownBlock∧k_≠gb1552) v1573 y1572):=⟨h4_⟩
          have n5_:Aside0 (Kd.V (Kd.int .u8) 5 w26 w.heap.size (fun k_=>(P0_ k_∨w.heap.size≤k_)∧some k_≠(v1562:Value).ownBlock∧some k_≠(v1565:Value).ownBlock∧some k_≠(v1573:Value).ownBlock∧k_≠gb1552) (.slice (some ad1554) l0.length c0) l0):=⟨h5_⟩
          have n6_:Aside0 (w26.heap[gb1552]? =some (.cells #[.int .i64 0, .slice none 0 0, .slice none 0 0] 55 (0,0))):=⟨h6_⟩
          have n7_:Aside0 (Below w.heap.size w w26):=⟨h7_⟩
          clear HO_0
          clear BK1552
          clear HB
          clear h0_ h1_ h2_ h3_ h4_ h5_ h6_ h7_
          have HO1560:=n0_
          have HO1563:=n1_
          have HO1566:=n2_
          have HO1571:=n3_
          have HO1574:=n4_
          have HO_0:=n5_
          have BK1552:=n6_
          have HB:=n7_
          clear n0_ n1_ n2_ n3_ n4_ n5_ n6_ n7_
          have hHeld:w26.cell? ⟨ad1554.block,ad1554.off+1,none⟩=some (.int .u8 (rd l0 1))∧w26.cell? ⟨ad1554.block,ad1554.off+2,none⟩=some (.int .u8 (rd l0 2)):=hS_
          obtain⟨Ao27,co27,eo27⟩:=zge HO1574.out
          (first | subst eo27 | (injection eo27 with f1_ f2_ f3_;have f4_:=f1_.symm;have f5_:=f3_.symm;clear f1_ f2_ f3_;subst f4_;subst f5_))
          refine norm_ (a':=?_) ?_ ?_
          rotate_left
          ·simp only[putAll,Act.put,zaa,zae,zaf]
           rfl
          refine two_ (i:=17) (j:=19) (Ni:=some 32) (Nj:=some 4) #[true,true,true,true,true,true,true,true,true,true,true,true,true,true,true,true,true,true,false,false,false] #[true,true,true,true,true,true,true,true,true,true,true,true,true,true,true,true,true,false,false,true,false] rfl rfl rfl rfl (two_of HT_.out (by kernel_rfl)) (by decide) (by decide) (fun K hK=>?_) (fun K hK=>?_)
          ·skip
           refine goes_ Try.func79 (by kernel_rfl) rfl #[.slice Ao27 y1572.length co27] (by rfl) rfl rfl jhl ?_
           with_reducible refine(impl_joined.calls _ _ y1572 t1575 _ ?side1 ?side2 A14.out).mono ?_
           (case side1=>repeat(first | exact(zee HO1574.out).2.2 | (with_reducible refine zbs ?_ _) | (with_reducible refine zbt ?_ _) | (with_reducible refine zcg ?_)))
           (case side2=>exact(zee HO1574.out).2.1)
           rintro e w28 ⟨v1576,rfl,ho0,hb⟩
           have HS0_:=(hb.cell (World.block_lt_of_cell? _ _ (hHeld.1))).trans (hHeld.1)
           have HS1_:=(hb.cell (World.block_lt_of_cell? _ _ (hHeld.2))).trans (hHeld.2)
           refine⟨_,rfl,?_⟩
           have n_:=jA9 (zbw (pV HO_0.out) (zba ho0) hb) (zbw (pV HO1560.out) (zba ho0) hb) (zbw (pV HO1571.out) (zba ho0) hb) (zew (pN HO1563.out) (zba ho0) hb) (zbp (pR HO1566.out) (zba ho0) hb) (zew (pN HO1574.out) (zba ho0) hb) (zaq (zby (zfx (M:=fun k_=>(w.heap.size≤k_)) ho0 (zah (bs1 GE1552.out)) (fun k_ h_=>h_)) (zca (pR HO1566.out))) (zah (bs1 GE1552.out))) (jbb BK1552.out hb) (zal (bs1 GE1552.out) hb)
           clear HO_0 HO1560 HO1571 HO1563 HO1566 HO1574 BK1552 HB
           obtain⟨HO_0,HO1560,HO1571,HO1563,HO1566,HO1574,HO1577,BK1552,HB⟩:=n_
           (try clear hb)
           (try clear hb2)
           (try clear hk)
           (try clear hi)
           (try clear ho0)
           obtain⟨Ao29,co29,eo29⟩:=zbb HO1577.out
           (first | subst eo29 | (injection eo29 with f1_ f2_ f3_;have f4_:=f1_.symm;have f5_:=f3_.symm;clear f1_ f2_ f3_;subst f4_;subst f5_))
           obtain⟨Ao30,co30,eo30⟩:=zbb HO1566.out
           (first | subst eo30 | (injection eo30 with f1_ f2_ f3_;have f4_:=f1_.symm;have f5_:=f3_.symm;clear f1_ f2_ f3_;subst f4_;subst f5_))
           refine hK.out _ _ ⟨HS0_,HS1_⟩ (fun hHeld=>?_)
           clear hK K
           refine norm_ (a':=?_) ?_ ?_
           rotate_left
           ·show Act.put _ (some 32) _=_
            simp only[Act.put,zaa,zae,zaf,i64_w,i32_w]
            rfl
           refine pu 18 33 HT_.out ?_
           exact norm_ (by first | (simp only[putAll,Act.put,zaa,zae,zaf];done) | (simp only[putAll,Act.put,zaa,zae,zaf];rfl)) (hJ12_13_16_17 (v1562, .slice Ao30 t1564.length co30, .slice Ao27 y1572.length co27, .slice Ao29 t1575.length co29) _ ⟨hHeld,(by(with_reducible repeat(first | apply zbn | apply zbo | apply zbu));exact zbh HO1560.out (fun _ hk=>⟨hk.1.1,⟨hk.1.2.1,⟨hk.1.2.2.1,⟨hk.1.2.2.2.1,⟨hk.2,hk.1.2.2.2.2⟩⟩⟩⟩⟩)),(by(with_reducible repeat(first | apply zei | apply zej | apply zet));exact zem HO1563.out (fun _ hk=>⟨hk.1.1,⟨hk.1.2.1,⟨hk.1.2.2.1,⟨hk.2,hk.1.2.2.2⟩⟩⟩⟩)),(pR HO1566.out),(by(with_reducible repeat(first | apply zbn | apply zbo | apply zbu));exact zbh HO1571.out (fun _ hk=>⟨hk.1.1,⟨hk.1.2.1,⟨hk.1.2.2.1,⟨hk.1.2.2.2.1,⟨hk.2,hk.1.2.2.2.2⟩⟩⟩⟩⟩)),(by(with_reducible repeat(first | apply zei | apply zej | apply zet));exact zem HO1574.out (fun _ hk=>⟨hk.1.1,⟨hk.1.2.1,⟨hk.1.2.2.1,⟨hk.2,hk.1.2.2.2⟩⟩⟩⟩)),(by(with_reducible repeat(first | apply zat | apply zau | apply zar));exact zao HO1577.out (fun _ hk=>⟨hk.1.1,hk.2⟩)),(by(with_reducible repeat(first | apply zbn | apply zbo | apply zbu));exact zbh HO_0.out (fun _ hk=>⟨hk.1.1,⟨hk.1.2.1,⟨hk.1.2.2.1,⟨hk.1.2.2.2.1,⟨hk.2,hk.1.2.2.2.2⟩⟩⟩⟩⟩)),(pB BK1552.out),(bs1 GE1552.out)⟩)
          skip
          refine box_step ?hg (N:=4) ?hd (cs:= #[.int .i64 0, .slice none 0 0, .slice none 0 0]) (t:=55) ?hr ?_;(case hd=>rfl);(case hg=>rfl);(case hr=>first | (go_simp;done) | (go_simp;rfl))
          intro gb1578 hg w27 hbox hb
          have HS0_:=(hb.cell (World.block_lt_of_cell? _ _ (hHeld.1))).trans (hHeld.1)
          have HS1_:=(hb.cell (World.block_lt_of_cell? _ _ (hHeld.2))).trans (hHeld.2)
          have n_:=jA13 (zcw (zep (pV HO_0.out) gb1578 (zdq hg.symm)) hb) (zcw (zep (pV HO1560.out) gb1578 (zdq hg.symm)) hb) (zcw (zep (pV HO1571.out) gb1578 (zdq hg.symm)) hb) (zgs (Kd.N_elderB (pN HO1563.out) gb1578 (zdq hg.symm)) hb) (zen (pR HO1566.out) hb) (zgs (Kd.N_elderB (pN HO1574.out) gb1578 (zdq hg.symm)) hb) (jbb BK1552.out hb) (zal (bs1 GE1552.out) hb) (hbox) (ge0 hg (bs1 GE1552.out):w.heap.size≤gb1578) (ge0 hg (bs1 GE1552.out):w.heap.size≤gb1578) (nl hg (pB BK1552.out):gb1552≠gb1578) (ng hg (pB BK1552.out):gb1578≠gb1552)
          clear HO_0 HO1560 HO1571 HO1563 HO1566 HO1574 BK1552 HB
          obtain⟨HO_0,HO1560,HO1571,HO1563,HO1566,HO1574,BK1552,HB,BK1578,GW1578,GE1578,NB1552_1578,NB1578_1552⟩:=n_
          clear hb hbox hg
          refine hK.out _ _ ⟨HS0_,HS1_⟩ (fun hHeld=>?_)
          clear hK K
          refine norm_ (a':=?_) ?_ ?_
          rotate_left
          ·show Act.put _ (some 4) _=_
           simp only[Act.put,zaa,zae,zaf,i64_w,i32_w]
           rfl
          exact norm_ (by first | (simp only[putAll,Act.put,zaa,zae,zaf];done) | (simp only[putAll,Act.put,zaa,zae,zaf];rfl)) (hJ12_13_16_19 (v1562,v1565,(.slice Ao27 y1572.length co27),gb1578) _ ⟨hHeld,(by(with_reducible repeat(first | apply zbn | apply zbo | apply zbu));exact zbh HO1560.out (fun _ hk=>⟨hk.1.1,⟨hk.1.2.1,⟨hk.1.2.2.1,⟨hk.1.2.2.2.1,⟨hk.1.2.2.2.2,hk.2⟩⟩⟩⟩⟩)),(by(with_reducible repeat(first | apply zei | apply zej | apply zet));exact zem HO1563.out (fun _ hk=>⟨hk.1.1,⟨hk.1.2.1,⟨hk.1.2.2.1,⟨hk.1.2.2.2,hk.2⟩⟩⟩⟩)),(pR HO1566.out),(by(with_reducible repeat(first | apply zbn | apply zbo | apply zbu));exact zbh HO1571.out (fun _ hk=>⟨hk.1.1,⟨hk.1.2.1,⟨hk.1.2.2.1,⟨hk.1.2.2.2.1,⟨hk.1.2.2.2.2,hk.2⟩⟩⟩⟩⟩)),(by(with_reducible repeat(first | apply zei | apply zej | apply zet));exact zem HO1574.out (fun _ hk=>⟨hk.1.1,⟨hk.1.2.1,⟨hk.1.2.2.1,⟨hk.1.2.2.2,hk.2⟩⟩⟩⟩)),(by(with_reducible repeat(first | apply zbn | apply zbo | apply zbu));exact zbh HO_0.out (fun _ hk=>⟨hk.1.1,⟨hk.1.2.1,⟨hk.1.2.2.1,⟨hk.1.2.2.2.1,⟨hk.1.2.2.2.2,hk.2⟩⟩⟩⟩⟩)),(pB BK1552.out),(pB BK1578.out),GW1578.out,GE1578.out,NB1552_1578.out,NB1578_1552.out,(bs2 GE1552.out GE1578.out)⟩)
         skip
         rintro⟨v1562,v1565,v1573,gb1578⟩ w27 ⟨hS_,h0_,h1_,h2_,h3_,h4_,h5_,h6_,h7_,h8_,h9_,h10_,h11_,h12_⟩
         have n0_:Aside0 (Kd.V (Kd.int .u8) 5 w27 w.heap.size (fun k_=>(P0_ k_∨w.heap.size≤k_)∧some k_≠(v1562:Value).ownBlock∧some k_≠(v1565:Value).ownBlock∧some k_≠(v1573:Value).ownBlock∧k_≠gb1552∧k_≠gb1578) (.slice A18 y1556.length c18) y1556):=⟨h0_⟩
         have n1_:Aside0 (Kd.N (Kd.slice 5 (Kd.int .u8)) 23 w27 w.heap.size (fun k_=>(P0_ k_∨w.heap.size≤k_)∧some k_≠(v1565:Value).ownBlock∧some k_≠(v1573:Value).ownBlock∧k_≠gb1552∧k_≠gb1578) v1562 y1561):=⟨h1_⟩
         have n2_:Aside0 (Kd.R (Kd.int .u8) 5 w27 w.heap.size (fun k_=>(w.heap.size≤k_)) v1565 t1564):=⟨h2_⟩
         have n3_:Aside0 (Kd.V (Kd.int .u8) 5 w27 w.heap.size (fun k_=>(P0_ k_∨w.heap.size≤k_)∧some k_≠(v1562:Value).ownBlock∧some k_≠(v1565:Value).ownBlock∧some k_≠(v1573:Value).ownBlock∧k_≠gb1552∧k_≠gb1578) (.slice A19 y1567.length c19) y1567):=⟨h3_⟩
         have n4_:Aside0 (Kd.N (Kd.slice 5 (Kd.int .u8)) 23 w27 w.heap.size (fun k_=>(P0_ k_∨w.heap.size≤k_)∧some k_≠(v1562:Value).ownBlock∧some k_≠(v1565:Value).ownBlock∧k_≠gb1552∧k_≠gb1578) v1573 y1572):=⟨h4_⟩
         have n5_:Aside0 (Kd.V (Kd.int .u8) 5 w27 w.heap.size (fun k_=>(P0_ k_∨w.heap.size≤k_)∧some k_≠(v1562:Value).ownBlock∧some k_≠(v1565:Value).ownBlock∧some k_≠(v1573:Value).ownBlock∧k_≠gb1552∧k_≠gb1578) (.slice (some ad1554) l0.length c0) l0):=⟨h5_⟩
         have n6_:Aside0 (w27.heap[gb1552]? =some (.cells #[.int .i64 0, .slice none 0 0, .slice none 0 0] 55 (0,0))):=⟨h6_⟩
         have n7_:Aside0 (w27.heap[gb1578]? =some (.cells #[.int .i64 0, .slice none 0 0, .slice none 0 0] 55 (0,0))):=⟨h7_⟩
         have n8_:Aside0 (w.heap.size≤gb1578):=⟨h8_⟩
         have n9_:Aside0 (w.heap.size≤gb1578):=⟨h9_⟩
         have n10_:Aside0 (gb1552≠gb1578):=⟨h10_⟩
         have n11_:Aside0 (gb1578≠gb1552):=⟨h11_⟩
         have n12_:Aside0 (Below w.heap.size w w27):=⟨h12_⟩
         clear HO_0
         clear BK1552
         clear HB
         clear h0_ h1_ h2_ h3_ h4_ h5_ h6_ h7_ h8_ h9_ h10_ h11_ h12_
         have HO1560:=n0_
         have HO1563:=n1_
         have HO1566:=n2_
         have HO1571:=n3_
         have HO1574:=n4_
         have HO_0:=n5_
         have BK1552:=n6_
         have BK1578:=n7_
         have GW1578:=n8_
         have GE1578:=n9_
         have NB1552_1578:=n10_
         have NB1578_1552:=n11_
         have HB:=n12_
         clear n0_ n1_ n2_ n3_ n4_ n5_ n6_ n7_ n8_ n9_ n10_ n11_ n12_
         have hHeld:w27.cell? ⟨ad1554.block,ad1554.off+1,none⟩=some (.int .u8 (rd l0 1))∧w27.cell? ⟨ad1554.block,ad1554.off+2,none⟩=some (.int .u8 (rd l0 2)):=hS_
         obtain⟨Ao28,co28,eo28⟩:=zge HO1574.out
         (first | subst eo28 | (injection eo28 with f1_ f2_ f3_;have f4_:=f1_.symm;have f5_:=f3_.symm;clear f1_ f2_ f3_;subst f4_;subst f5_))
         refine norm_ (a':=?_) ?_ ?_
         rotate_left
         ·simp only[putAll,Act.put,zaa,zae,zaf]
          rfl
         refine one_ (i:=17) (N:=some 32) #[true,true,true,true,true,true,true,true,true,true,true,true,true,true,true,true,true,true,false,true,false] rfl rfl (one_of HT_.out (by kernel_rfl)) (by decide) (fun K hK=>?_)
         refine goes_ Try.func79 (by kernel_rfl) rfl #[.slice Ao28 y1572.length co28] (by rfl) rfl rfl jhl ?_
         with_reducible refine(impl_joined.calls _ _ y1572 t1575 _ ?side1 ?side2 A14.out).mono ?_
         (case side1=>repeat(first | exact(zee HO1574.out).2.2 | (with_reducible refine zbs ?_ _) | (with_reducible refine zbt ?_ _) | (with_reducible refine zcg ?_)))
         (case side2=>exact(zee HO1574.out).2.1)
         rintro e w29 ⟨v1576,rfl,ho0,hb⟩
         have HS0_:=(hb.cell (World.block_lt_of_cell? _ _ (hHeld.1))).trans (hHeld.1)
         have HS1_:=(hb.cell (World.block_lt_of_cell? _ _ (hHeld.2))).trans (hHeld.2)
         refine⟨_,rfl,?_⟩
         have n_:=jA10 (zbw (pV HO_0.out) (zba ho0) hb) (zbw (pV HO1560.out) (zba ho0) hb) (zbw (pV HO1571.out) (zba ho0) hb) (zew (pN HO1563.out) (zba ho0) hb) (zbp (pR HO1566.out) (zba ho0) hb) (zew (pN HO1574.out) (zba ho0) hb) (zaq (zby (zfx (M:=fun k_=>(w.heap.size≤k_)) ho0 (zah (bs2 GE1552.out GE1578.out)) (fun k_ h_=>h_)) (zca (pR HO1566.out))) (zah (bs2 GE1552.out GE1578.out))) (jbb BK1552.out hb) (jbb BK1578.out hb) (zal (bs2 GE1552.out GE1578.out) hb)
         clear HO_0 HO1560 HO1571 HO1563 HO1566 HO1574 BK1552 BK1578 HB
         obtain⟨HO_0,HO1560,HO1571,HO1563,HO1566,HO1574,HO1577,BK1552,BK1578,HB⟩:=n_
         (try clear hb)
         (try clear hb2)
         (try clear hk)
         (try clear hi)
         (try clear ho0)
         obtain⟨Ao30,co30,eo30⟩:=zbb HO1577.out
         (first | subst eo30 | (injection eo30 with f1_ f2_ f3_;have f4_:=f1_.symm;have f5_:=f3_.symm;clear f1_ f2_ f3_;subst f4_;subst f5_))
         obtain⟨Ao31,co31,eo31⟩:=zbb HO1566.out
         (first | subst eo31 | (injection eo31 with f1_ f2_ f3_;have f4_:=f1_.symm;have f5_:=f3_.symm;clear f1_ f2_ f3_;subst f4_;subst f5_))
         refine hK.out _ _ ⟨HS0_,HS1_⟩ (fun hHeld=>?_)
         clear hK K
         refine norm_ (a':=?_) ?_ ?_
         rotate_left
         ·show Act.put _ (some 32) _=_
          simp only[Act.put,zaa,zae,zaf,i64_w,i32_w]
          rfl
         refine pu 18 33 HT_.out ?_
         exact norm_ (by first | (simp only[putAll,Act.put,zaa,zae,zaf];done) | (simp only[putAll,Act.put,zaa,zae,zaf];rfl)) (hJ12_13_16_17_19 (v1562, .slice Ao31 t1564.length co31, .slice Ao28 y1572.length co28, .slice Ao30 t1575.length co30,gb1578) _ ⟨hHeld,(by(with_reducible repeat(first | apply zbn | apply zbo | apply zbu));exact zbh HO1560.out (fun _ hk=>⟨hk.1.1,⟨hk.1.2.1,⟨hk.1.2.2.1,⟨hk.1.2.2.2.1,⟨hk.2,⟨hk.1.2.2.2.2.1,hk.1.2.2.2.2.2⟩⟩⟩⟩⟩⟩)),(by(with_reducible repeat(first | apply zei | apply zej | apply zet));exact zem HO1563.out (fun _ hk=>⟨hk.1.1,⟨hk.1.2.1,⟨hk.1.2.2.1,⟨hk.2,⟨hk.1.2.2.2.1,hk.1.2.2.2.2⟩⟩⟩⟩⟩)),(pR HO1566.out),(by(with_reducible repeat(first | apply zbn | apply zbo | apply zbu));exact zbh HO1571.out (fun _ hk=>⟨hk.1.1,⟨hk.1.2.1,⟨hk.1.2.2.1,⟨hk.1.2.2.2.1,⟨hk.2,⟨hk.1.2.2.2.2.1,hk.1.2.2.2.2.2⟩⟩⟩⟩⟩⟩)),(by(with_reducible repeat(first | apply zei | apply zej | apply zet));exact zem HO1574.out (fun _ hk=>⟨hk.1.1,⟨hk.1.2.1,⟨hk.1.2.2.1,⟨hk.2,⟨hk.1.2.2.2.1,hk.1.2.2.2.2⟩⟩⟩⟩⟩)),(by(with_reducible repeat(first | apply zat | apply zau | apply zar));exact zao HO1577.out (fun _ hk=>⟨hk.1.1,hk.2⟩)),(by(with_reducible repeat(first | apply zbn | apply zbo | apply zbu));exact zbh HO_0.out (fun _ hk=>⟨hk.1.1,⟨hk.1.2.1,⟨hk.1.2.2.1,⟨hk.1.2.2.2.1,⟨hk.2,⟨hk.1.2.2.2.2.1,hk.1.2.2.2.2.2⟩⟩⟩⟩⟩⟩)),(pB BK1552.out),(pB BK1578.out),GW1578.out,GE1578.out,NB1552_1578.out,NB1578_1552.out,(bs2 GE1552.out GE1578.out)⟩)
        skip
        rintro⟨v1562,v1565,v1573,v1576⟩ w30 ⟨hS_,h0_,h1_,h2_,h3_,h4_,h5_,h6_,h7_,h8_⟩
        have n0_:Aside0 (Kd.V (Kd.int .u8) 5 w30 w.heap.size (fun k_=>(P0_ k_∨w.heap.size≤k_)∧some k_≠(v1562:Value).ownBlock∧some k_≠(v1565:Value).ownBlock∧some k_≠(v1573:Value).ownBlock∧some k_≠(v1576:Value).ownBlock∧k_≠gb1552) (.slice A18 y1556.length c18) y1556):=⟨h0_⟩
        have n1_:Aside0 (Kd.N (Kd.slice 5 (Kd.int .u8)) 23 w30 w.heap.size (fun k_=>(P0_ k_∨w.heap.size≤k_)∧some k_≠(v1565:Value).ownBlock∧some k_≠(v1573:Value).ownBlock∧some k_≠(v1576:Value).ownBlock∧k_≠gb1552) v1562 y1561):=⟨h1_⟩
        have n2_:Aside0 (Kd.R (Kd.int .u8) 5 w30 w.heap.size (fun k_=>(w.heap.size≤k_)∧some k_≠(v1576:Value).ownBlock) v1565 t1564):=⟨h2_⟩
        have n3_:Aside0 (Kd.V (Kd.int .u8) 5 w30 w.heap.size (fun k_=>(P0_ k_∨w.heap.size≤k_)∧some k_≠(v1562:Value).ownBlock∧some k_≠(v1565:Value).ownBlock∧some k_≠(v1573:Value).ownBlock∧some k_≠(v1576:Value).ownBlock∧k_≠gb1552) (.slice A19 y1567.length c19) y1567):=⟨h3_⟩
        have n4_:Aside0 (Kd.N (Kd.slice 5 (Kd.int .u8)) 23 w30 w.heap.size (fun k_=>(P0_ k_∨w.heap.size≤k_)∧some k_≠(v1562:Value).ownBlock∧some k_≠(v1565:Value).ownBlock∧some k_≠(v1576:Value).ownBlock∧k_≠gb1552) v1573 y1572):=⟨h4_⟩
        have n5_:Aside0 (Kd.R (Kd.int .u8) 5 w30 w.heap.size (fun k_=>(w.heap.size≤k_)∧some k_≠(v1565:Value).ownBlock) v1576 t1575):=⟨h5_⟩
        have n6_:Aside0 (Kd.V (Kd.int .u8) 5 w30 w.heap.size (fun k_=>(P0_ k_∨w.heap.size≤k_)∧some k_≠(v1562:Value).ownBlock∧some k_≠(v1565:Value).ownBlock∧some k_≠(v1573:Value).ownBlock∧some k_≠(v1576:Value).ownBlock∧k_≠gb1552) (.slice (some ad1554) l0.length c0) l0):=⟨h6_⟩
        have n7_:Aside0 (w30.heap[gb1552]? =some (.cells #[.int .i64 0, .slice none 0 0, .slice none 0 0] 55 (0,0))):=⟨h7_⟩
        have n8_:Aside0 (Below w.heap.size w w30):=⟨h8_⟩
        clear HO_0
        clear BK1552
        clear HB
        clear h0_ h1_ h2_ h3_ h4_ h5_ h6_ h7_ h8_
        have HO1560:=n0_
        have HO1563:=n1_
        have HO1566:=n2_
        have HO1571:=n3_
        have HO1574:=n4_
        have HO1577:=n5_
        have HO_0:=n6_
        have BK1552:=n7_
        have HB:=n8_
        clear n0_ n1_ n2_ n3_ n4_ n5_ n6_ n7_ n8_
        have hHeld:w30.cell? ⟨ad1554.block,ad1554.off+1,none⟩=some (.int .u8 (rd l0 1))∧w30.cell? ⟨ad1554.block,ad1554.off+2,none⟩=some (.int .u8 (rd l0 2)):=hS_
        obtain⟨Ao31,co31,eo31⟩:=zbb HO1577.out
        (first | subst eo31 | (injection eo31 with f1_ f2_ f3_;have f4_:=f1_.symm;have f5_:=f3_.symm;clear f1_ f2_ f3_;subst f4_;subst f5_))
        obtain⟨Ao32,co32,eo32⟩:=zbb HO1566.out
        (first | subst eo32 | (injection eo32 with f1_ f2_ f3_;have f4_:=f1_.symm;have f5_:=f3_.symm;clear f1_ f2_ f3_;subst f4_;subst f5_))
        refine norm_ (a':=?_) ?_ ?_
        rotate_left
        ·simp only[putAll,Act.put,zaa,zae,zaf]
         rfl
        refine one_ (i:=19) (N:=some 4) #[true,true,true,true,true,true,true,true,true,true,true,true,true,true,true,true,true,true,true,true,false] rfl rfl (one_of HT_.out (by kernel_rfl)) (by decide) (fun K hK=>?_)
        refine box_step ?hg (N:=4) ?hd (cs:= #[.int .i64 0, .slice none 0 0, .slice none 0 0]) (t:=55) ?hr ?_;(case hd=>rfl);(case hg=>rfl);(case hr=>first | (go_simp;done) | (go_simp;rfl))
        intro gb1578 hg w33 hbox hb
        have HS0_:=(hb.cell (World.block_lt_of_cell? _ _ (hHeld.1))).trans (hHeld.1)
        have HS1_:=(hb.cell (World.block_lt_of_cell? _ _ (hHeld.2))).trans (hHeld.2)
        have n_:=jA14 (zcw (zep (pV HO_0.out) gb1578 (zdq hg.symm)) hb) (zcw (zep (pV HO1560.out) gb1578 (zdq hg.symm)) hb) (zcw (zep (pV HO1571.out) gb1578 (zdq hg.symm)) hb) (zgs (Kd.N_elderB (pN HO1563.out) gb1578 (zdq hg.symm)) hb) (zen (pR HO1566.out) hb) (zgs (Kd.N_elderB (pN HO1574.out) gb1578 (zdq hg.symm)) hb) (zen (pR HO1577.out) hb) (jbb BK1552.out hb) (zal (bs1 GE1552.out) hb) (hbox) (ge0 hg (bs1 GE1552.out):w.heap.size≤gb1578) (ge0 hg (bs1 GE1552.out):w.heap.size≤gb1578) (nl hg (pB BK1552.out):gb1552≠gb1578) (ng hg (pB BK1552.out):gb1578≠gb1552)
        clear HO_0 HO1560 HO1571 HO1563 HO1566 HO1574 HO1577 BK1552 HB
        obtain⟨HO_0,HO1560,HO1571,HO1563,HO1566,HO1574,HO1577,BK1552,HB,BK1578,GW1578,GE1578,NB1552_1578,NB1578_1552⟩:=n_
        clear hb hbox hg
        refine hK.out _ _ ⟨HS0_,HS1_⟩ (fun hHeld=>?_)
        clear hK K
        refine norm_ (a':=?_) ?_ ?_
        rotate_left
        ·show Act.put _ (some 4) _=_
         simp only[Act.put,zaa,zae,zaf,i64_w,i32_w]
         rfl
        exact norm_ (by first | (simp only[putAll,Act.put,zaa,zae,zaf];done) | (simp only[putAll,Act.put,zaa,zae,zaf];rfl)) (hJ12_13_16_17_19 (v1562, .slice Ao32 t1564.length co32,v1573, .slice Ao31 t1575.length co31,gb1578) _ ⟨hHeld,(by(with_reducible repeat(first | apply zbn | apply zbo | apply zbu));exact zbh HO1560.out (fun _ hk=>⟨hk.1.1,⟨hk.1.2.1,⟨hk.1.2.2.1,⟨hk.1.2.2.2.1,⟨hk.1.2.2.2.2.1,⟨hk.1.2.2.2.2.2,hk.2⟩⟩⟩⟩⟩⟩)),(by(with_reducible repeat(first | apply zei | apply zej | apply zet));exact zem HO1563.out (fun _ hk=>⟨hk.1.1,⟨hk.1.2.1,⟨hk.1.2.2.1,⟨hk.1.2.2.2.1,⟨hk.1.2.2.2.2,hk.2⟩⟩⟩⟩⟩)),(pR HO1566.out),(by(with_reducible repeat(first | apply zbn | apply zbo | apply zbu));exact zbh HO1571.out (fun _ hk=>⟨hk.1.1,⟨hk.1.2.1,⟨hk.1.2.2.1,⟨hk.1.2.2.2.1,⟨hk.1.2.2.2.2.1,⟨hk.1.2.2.2.2.2,hk.2⟩⟩⟩⟩⟩⟩)),(by(with_reducible repeat(first | apply zei | apply zej | apply zet));exact zem HO1574.out (fun _ hk=>⟨hk.1.1,⟨hk.1.2.1,⟨hk.1.2.2.1,⟨hk.1.2.2.2.1,⟨hk.1.2.2.2.2,hk.2⟩⟩⟩⟩⟩)),(pR HO1577.out),(by(with_reducible repeat(first | apply zbn | apply zbo | apply zbu));exact zbh HO_0.out (fun _ hk=>⟨hk.1.1,⟨hk.1.2.1,⟨hk.1.2.2.1,⟨hk.1.2.2.2.1,⟨hk.1.2.2.2.2.1,⟨hk.1.2.2.2.2.2,hk.2⟩⟩⟩⟩⟩⟩)),(pB BK1552.out),(pB BK1578.out),GW1578.out,GE1578.out,NB1552_1578.out,NB1578_1552.out,(bs2 GE1552.out GE1578.out)⟩)
       rintro⟨v1562,v1565,v1573,v1576,gb1578⟩ w31 ⟨hS_,h0_,h1_,h2_,h3_,h4_,h5_,h6_,h7_,h8_,h9_,h10_,h11_,h12_,h13_⟩
       have n0_:Aside0 (Kd.V (Kd.int .u8) 5 w31 w.heap.size (fun k_=>(P0_ k_∨w.heap.size≤k_)∧some k_≠(v1562:Value).ownBlock∧some k_≠(v1565:Value).ownBlock∧some k_≠(v1573:Value).ownBlock∧some k_≠(v1576:Value).ownBlock∧k_≠gb1552∧k_≠gb1578) (.slice A18 y1556.length c18) y1556):=⟨h0_⟩
       have n1_:Aside0 (Kd.N (Kd.slice 5 (Kd.int .u8)) 23 w31 w.heap.size (fun k_=>(P0_ k_∨w.heap.size≤k_)∧some k_≠(v1565:Value).ownBlock∧some k_≠(v1573:Value).ownBlock∧some k_≠(v1576:Value).ownBlock∧k_≠gb1552∧k_≠gb1578) v1562 y1561):=⟨h1_⟩
       have n2_:Aside0 (Kd.R (Kd.int .u8) 5 w31 w.heap.size (fun k_=>(w.heap.size≤k_)∧some k_≠(v1576:Value).ownBlock) v1565 t1564):=⟨h2_⟩
       have n3_:Aside0 (Kd.V (Kd.int .u8) 5 w31 w.heap.size (fun k_=>(P0_ k_∨w.heap.size≤k_)∧some k_≠(v1562:Value).ownBlock∧some k_≠(v1565:Value).ownBlock∧some k_≠(v1573:Value).ownBlock∧some k_≠(v1576:Value).ownBlock∧k_≠gb1552∧k_≠gb1578) (.slice A19 y1567.length c19) y1567):=⟨h3_⟩
       have n4_:Aside0 (Kd.N (Kd.slice 5 (Kd.int .u8)) 23 w31 w.heap.size (fun k_=>(P0_ k_∨w.heap.size≤k_)∧some k_≠(v1562:Value).ownBlock∧some k_≠(v1565:Value).ownBlock∧some k_≠(v1576:Value).ownBlock∧k_≠gb1552∧k_≠gb1578) v1573 y1572):=⟨h4_⟩
       have n5_:Aside0 (Kd.R (Kd.int .u8) 5 w31 w.heap.size (fun k_=>(w.heap.size≤k_)∧some k_≠(v1565:Value).ownBlock) v1576 t1575):=⟨h5_⟩
       have n6_:Aside0 (Kd.V (Kd.int .u8) 5 w31 w.heap.size (fun k_=>(P0_ k_∨w.heap.size≤k_)∧some k_≠(v1562:Value).ownBlock∧some k_≠(v1565:Value).ownBlock∧some k_≠(v1573:Value).ownBlock∧some k_≠(v1576:Value).ownBlock∧k_≠gb1552∧k_≠gb1578) (.slice (some ad1554) l0.length c0) l0):=⟨h6_⟩
       have n7_:Aside0 (w31.heap[gb1552]? =some (.cells #[.int .i64 0, .slice none 0 0, .slice none 0 0] 55 (0,0))):=⟨h7_⟩
       have n8_:Aside0 (w31.heap[gb1578]? =some (.cells #[.int .i64 0, .slice none 0 0, .slice none 0 0] 55 (0,0))):=⟨h8_⟩
       have n9_:Aside0 (w.heap.size≤gb1578):=⟨h9_⟩
       have n10_:Aside0 (w.heap.size≤gb1578):=⟨h10_⟩
       have n11_:Aside0 (gb1552≠gb1578):=⟨h11_⟩
       have n12_:Aside0 (gb1578≠gb1552):=⟨h12_⟩
       have n13_:Aside0 (Below w.heap.size w w31):=⟨h13_⟩
       clear HO_0
       clear BK1552
       clear HB
       clear h0_ h1_ h2_ h3_ h4_ h5_ h6_ h7_ h8_ h9_ h10_ h11_ h12_ h13_
       have HO1560:=n0_
       have HO1563:=n1_
       have HO1566:=n2_
       have HO1571:=n3_
       have HO1574:=n4_
       have HO1577:=n5_
       have HO_0:=n6_
       have BK1552:=n7_
       have BK1578:=n8_
       have GW1578:=n9_
       have GE1578:=n10_
       have NB1552_1578:=n11_
       have NB1578_1552:=n12_
       have HB:=n13_
       clear n0_ n1_ n2_ n3_ n4_ n5_ n6_ n7_ n8_ n9_ n10_ n11_ n12_ n13_
       have hHeld:w31.cell? ⟨ad1554.block,ad1554.off+1,none⟩=some (.int .u8 (rd l0 1))∧w31.cell? ⟨ad1554.block,ad1554.off+2,none⟩=some (.int .u8 (rd l0 2)):=hS_
       obtain⟨Ao32,co32,eo32⟩:=zbb HO1577.out
       (first | subst eo32 | (injection eo32 with f1_ f2_ f3_;have f4_:=f1_.symm;have f5_:=f3_.symm;clear f1_ f2_ f3_;subst f4_;subst f5_))
       obtain⟨Ao33,co33,eo33⟩:=zbb HO1566.out
       (first | subst eo33 | (injection eo33 with f1_ f2_ f3_;have f4_:=f1_.symm;have f5_:=f3_.symm;clear f1_ f2_ f3_;subst f4_;subst f5_))
       refine norm_ (a':=?_) ?_ ?_
       rotate_left
       ·simp only[putAll,Act.put,zaa,zae,zaf]
        rfl
       refine one_ (i:=20) (N:=none) #[true,true,true,true,true,true,true,true,true,true,true,true,true,true,true,true,true,true,true,true,true] rfl rfl (one_of HT_.out (by kernel_rfl)) (by decide) (fun K hK=>?_)
       have hs34:w31.cell? ⟨gb1578,0,none⟩=some (.int .i64 0):=(zbd BK1578.out 0).trans rfl
       have hfs34:=zaw BK1578.out 0
       have hns34_0:=NB1552_1578.out
       have hms34_0:=NB1578_1552.out
       have hs35:w31.cell? ⟨gb1578,1,none⟩=some (.slice none 0 0):=(zbd BK1578.out 1).trans rfl
       have hfs35:=zaw BK1578.out 1
       have hns35_0:=NB1552_1578.out
       have hms35_0:=NB1578_1552.out
       have hs36:w31.cell? ⟨gb1578,2,none⟩=some (.slice none 0 0):=(zbd BK1578.out 2).trans rfl
       have hfs36:=zaw BK1578.out 2
       have hns36_0:=NB1552_1578.out
       have hms36_0:=NB1578_1552.out
       refine skip_ (w1:=?_) (by rfl) rfl ?_ ?_
       rotate_left
       ·go_simp
        rfl
       have hnb_:ad1554.block≠gb1578:=by
        obtain⟨ad_,e_,hx_⟩:=zcd (zbx hs0).2.2 1 (by omega) (by have h_:=of_eq_true qi1554;omega)
        cases e_
        have h1_:=World.block_lt_of_cell? w _ hx_
        have h3_:(Addr.add ad1554 (1:Int).toNat).block=ad1554.block:=zdf _ _
        have h2_:=GE1578.out
        first | omega | (rw[h3_] at h1_;omega) | (rw[zdf] at h1_;omega)
       refine hK.out _ _ ⟨((cell_far (p:=⟨gb1578,_,none⟩) (by first | exact hnb_ | (rw[zdf];exact hnb_) | (show(Addr.add _ _).block≠_;rw[zdf];exact hnb_) | (dsimp only;exact hnb_)) _).trans (((cell_far (p:=⟨gb1578,_,none⟩) (by first | exact hnb_ | (rw[zdf];exact hnb_) | (show(Addr.add _ _).block≠_;rw[zdf];exact hnb_) | (dsimp only;exact hnb_)) _).trans (((cell_far (p:=⟨gb1578,_,none⟩) (by first | exact hnb_ | (rw[zdf];exact hnb_) | (show(Addr.add _ _).block≠_;rw[zdf];exact hnb_) | (dsimp only;exact hnb_)) _).trans (hHeld.1)))))),((cell_far (p:=⟨gb1578,_,none⟩) (by first | exact hnb_ | (rw[zdf];exact hnb_) | (show(Addr.add _ _).block≠_;rw[zdf];exact hnb_) | (dsimp only;exact hnb_)) _).trans (((cell_far (p:=⟨gb1578,_,none⟩) (by first | exact hnb_ | (rw[zdf];exact hnb_) | (show(Addr.add _ _).block≠_;rw[zdf];exact hnb_) | (dsimp only;exact hnb_)) _).trans (((cell_far (p:=⟨gb1578,_,none⟩) (by first | exact hnb_ | (rw[zdf];exact hnb_) | (show(Addr.add _ _).block≠_;rw[zdf];exact hnb_) | (dsimp only;exact hnb_)) _).trans (hHeld.2))))))⟩ (fun hHeld=>?_)
       clear hK K
       refine done_ (done_of HT_.out (by kernel_rfl)) ?_
       have hnb37:=NB1578_1552.out
       have hnc37:=NB1552_1578.out
       have hcz38_0:w31.cell? ⟨gb1578,0,none⟩=some (.int .i64 0):=(zbd BK1578.out 0).trans rfl
       have hcz38_1:w31.cell? ⟨gb1578,1,none⟩=some (.slice none 0 0):=(zbd BK1578.out 1).trans rfl
       have hcz38_2:w31.cell? ⟨gb1578,2,none⟩=some (.slice none 0 0):=(zbd BK1578.out 2).trans rfl
       have hfz38_0:=zaw BK1578.out 0
       have hfz38_1:=zaw BK1578.out 1
       have hfz38_2:=zaw BK1578.out 2
       have H:=HZ_.out
       clear HZ_
       by_cases c16:t1579=true
       ·subst c16
        rw[if_pos rfl] at H
        simp only[zcb,zcu] at H
        obtain⟨rfl,rfl,rfl,rfl⟩:=H
        try go_wp2_with (first | (refine jgc 65 ?_;refine jgs 35 Try.func65 #[.agg #[.int .i64 (Go.bits .or .i64 (wrap64 ((wrap64 (rd l0 1))*256)) (wrap64 (rd l0 2))), .slice Ao33 t1564.length co33, .slice Ao32 t1575.length co32]] ?_;(with_reducible refine(impl_LetterOk.calls (Go.bits .or .i64 (wrap64 ((wrap64 (rd l0 1))*256)) (wrap64 (rd l0 2))) _ _ t1564 _ _ t1575 true _ ?side1 ?side2 ?side3 ?side4 A15.out).mono ?_);(case side1=>refine(zam (e:=5) (base:=w.heap.size) (ok:=fun k_=>((w.heap.size≤k_)∧some k_≠(.slice Ao32 t1575.length co32:Value).ownBlock)) (n:=t1564.length) (c:=co33) ?_).2.2;exact(by(with_reducible repeat(first | apply zat | apply zau | apply zar));exact(zao (zdn (p:=⟨gb1578,2,none⟩) (zdn (p:=⟨gb1578,1,none⟩) (zdn (p:=⟨gb1578,0,none⟩) (zeq HO1566.out BK1578.out (by decide)) (fun _ hk=>hk.2) (.int .i64 (Go.bits .or .i64 (wrap64 ((wrap64 (rd l0 1))*256)) (wrap64 (rd l0 2))))) (fun _ hk=>hk.2) (.slice Ao33 t1564.length co33)) (fun _ hk=>hk.2) (.slice Ao32 t1575.length co32)) (fun _ h_=>h_.1))));(case side2=>exact(zam HO1566.out).2.1);(case side3=>refine(zam (e:=5) (base:=w.heap.size) (ok:=fun k_=>((w.heap.size≤k_)∧some k_≠(.slice Ao33 t1564.length co33:Value).ownBlock)) (n:=t1575.length) (c:=co32) ?_).2.2;exact(by(with_reducible repeat(first | apply zat | apply zau | apply zar));exact(zao (zdn (p:=⟨gb1578,2,none⟩) (zdn (p:=⟨gb1578,1,none⟩) (zdn (p:=⟨gb1578,0,none⟩) (zeq HO1577.out BK1578.out (by decide)) (fun _ hk=>hk.2) (.int .i64 (Go.bits .or .i64 (wrap64 ((wrap64 (rd l0 1))*256)) (wrap64 (rd l0 2))))) (fun _ hk=>hk.2) (.slice Ao33 t1564.length co33)) (fun _ hk=>hk.2) (.slice Ao32 t1575.length co32)) (fun _ h_=>h_.1))));(case side4=>exact(zam HO1577.out).2.1);rintro e w39 ⟨rfl,hb⟩;refine⟨_,rfl,?_⟩;have n_:=jA10 (zcw (by(with_reducible repeat(first | apply zbn | apply zbo | apply zbu));exact(zbh (Kd.V_far (p:=⟨gb1578,2,none⟩) (Kd.V_far (p:=⟨gb1578,1,none⟩) (Kd.V_far (p:=⟨gb1578,0,none⟩) (zbh HO_0.out (fun k_ hk=>(⟨hk,hk.2.2.2.2.2.2⟩:_∧k_≠gb1578))) (fun _ hk=>hk.2) (.int .i64 (Go.bits .or .i64 (wrap64 ((wrap64 (rd l0 1))*256)) (wrap64 (rd l0 2))))) (fun _ hk=>hk.2) (.slice Ao33 t1564.length co33)) (fun _ hk=>hk.2) (.slice Ao32 t1575.length co32)) (fun _ h_=>h_.1))) hb) (zcw (by(with_reducible repeat(first | apply zbn | apply zbo | apply zbu));exact(zbh (Kd.V_far (p:=⟨gb1578,2,none⟩) (Kd.V_far (p:=⟨gb1578,1,none⟩) (Kd.V_far (p:=⟨gb1578,0,none⟩) (zbh HO1560.out (fun k_ hk=>(⟨hk,hk.2.2.2.2.2.2⟩:_∧k_≠gb1578))) (fun _ hk=>hk.2) (.int .i64 (Go.bits .or .i64 (wrap64 ((wrap64 (rd l0 1))*256)) (wrap64 (rd l0 2))))) (fun _ hk=>hk.2) (.slice Ao33 t1564.length co33)) (fun _ hk=>hk.2) (.slice Ao32 t1575.length co32)) (fun _ h_=>h_.1))) hb) (zcw (by(with_reducible repeat(first | apply zbn | apply zbo | apply zbu));exact(zbh (Kd.V_far (p:=⟨gb1578,2,none⟩) (Kd.V_far (p:=⟨gb1578,1,none⟩) (Kd.V_far (p:=⟨gb1578,0,none⟩) (zbh HO1571.out (fun k_ hk=>(⟨hk,hk.2.2.2.2.2.2⟩:_∧k_≠gb1578))) (fun _ hk=>hk.2) (.int .i64 (Go.bits .or .i64 (wrap64 ((wrap64 (rd l0 1))*256)) (wrap64 (rd l0 2))))) (fun _ hk=>hk.2) (.slice Ao33 t1564.length co33)) (fun _ hk=>hk.2) (.slice Ao32 t1575.length co32)) (fun _ h_=>h_.1))) hb) (zgs (by(with_reducible repeat(first | apply zei | apply zej | apply zet));exact(zem (Kd.N_far (p:=⟨gb1578,2,none⟩) (Kd.N_far (p:=⟨gb1578,1,none⟩) (Kd.N_far (p:=⟨gb1578,0,none⟩) (zem HO1563.out (fun k_ hk=>(⟨hk,hk.2.2.2.2.2⟩:_∧k_≠gb1578))) (fun _ hk=>hk.2) (.int .i64 (Go.bits .or .i64 (wrap64 ((wrap64 (rd l0 1))*256)) (wrap64 (rd l0 2))))) (fun _ hk=>hk.2) (.slice Ao33 t1564.length co33)) (fun _ hk=>hk.2) (.slice Ao32 t1575.length co32)) (fun _ h_=>h_.1))) hb) (zen (by(with_reducible repeat(first | apply zat | apply zau | apply zar));exact(zao (zdn (p:=⟨gb1578,2,none⟩) (zdn (p:=⟨gb1578,1,none⟩) (zdn (p:=⟨gb1578,0,none⟩) (zeq HO1566.out BK1578.out (by decide)) (fun _ hk=>hk.2) (.int .i64 (Go.bits .or .i64 (wrap64 ((wrap64 (rd l0 1))*256)) (wrap64 (rd l0 2))))) (fun _ hk=>hk.2) (.slice Ao33 t1564.length co33)) (fun _ hk=>hk.2) (.slice Ao32 t1575.length co32)) (fun _ h_=>h_.1))) hb) (zgs (by(with_reducible repeat(first | apply zei | apply zej | apply zet));exact(zem (Kd.N_far (p:=⟨gb1578,2,none⟩) (Kd.N_far (p:=⟨gb1578,1,none⟩) (Kd.N_far (p:=⟨gb1578,0,none⟩) (zem HO1574.out (fun k_ hk=>(⟨hk,hk.2.2.2.2.2⟩:_∧k_≠gb1578))) (fun _ hk=>hk.2) (.int .i64 (Go.bits .or .i64 (wrap64 ((wrap64 (rd l0 1))*256)) (wrap64 (rd l0 2))))) (fun _ hk=>hk.2) (.slice Ao33 t1564.length co33)) (fun _ hk=>hk.2) (.slice Ao32 t1575.length co32)) (fun _ h_=>h_.1))) hb) (zen (by(with_reducible repeat(first | apply zat | apply zau | apply zar));exact(zao (zdn (p:=⟨gb1578,2,none⟩) (zdn (p:=⟨gb1578,1,none⟩) (zdn (p:=⟨gb1578,0,none⟩) (zeq HO1577.out BK1578.out (by decide)) (fun _ hk=>hk.2) (.int .i64 (Go.bits .or .i64 (wrap64 ((wrap64 (rd l0 1))*256)) (wrap64 (rd l0 2))))) (fun _ hk=>hk.2) (.slice Ao33 t1564.length co33)) (fun _ hk=>hk.2) (.slice Ao32 t1575.length co32)) (fun _ h_=>h_.1))) hb) (zgm (g:=gb1552) (o:= .cells #[.int .i64 0, .slice none 0 0, .slice none 0 0] 55 (0,0)) (by(with_reducible repeat(first | refine zbl ?_ _ | refine zbr ?_ | refine zbm ?_ _));refine blk_far ?_ NB1552_1578.out _;(with_reducible repeat(first | refine zbl ?_ _ | refine zbr ?_ | refine zbm ?_ _));refine blk_far ?_ NB1552_1578.out _;(with_reducible repeat(first | refine zbl ?_ _ | refine zbr ?_ | refine zbm ?_ _));refine blk_far ?_ NB1552_1578.out _;(with_reducible repeat(first | refine zbl ?_ _ | refine zbr ?_ | refine zbm ?_ _));exact BK1552.out) hb) (zgm (g:=gb1578) (o:= .cells #[.int .i64 (Go.bits .or .i64 (wrap64 ((wrap64 (rd l0 1))*256)) (wrap64 (rd l0 2))), .slice Ao33 t1564.length co33, .slice Ao32 t1575.length co32] 55 (0,0)) (by(with_reducible repeat(first | refine zbl ?_ _ | refine zbr ?_ | refine zbm ?_ _));refine zed (cs:= #[.int .i64 (Go.bits .or .i64 (wrap64 ((wrap64 (rd l0 1))*256)) (wrap64 (rd l0 2))), .slice Ao33 t1564.length co33, .slice none 0 0]) ?_ 2 _ rfl;(with_reducible repeat(first | refine zbl ?_ _ | refine zbr ?_ | refine zbm ?_ _));refine zed (cs:= #[.int .i64 (Go.bits .or .i64 (wrap64 ((wrap64 (rd l0 1))*256)) (wrap64 (rd l0 2))), .slice none 0 0, .slice none 0 0]) ?_ 1 _ rfl;(with_reducible repeat(first | refine zbl ?_ _ | refine zbr ?_ | refine zbm ?_ _));refine zed (cs:= #[.int .i64 0, .slice none 0 0, .slice none 0 0]) ?_ 0 _ rfl;(with_reducible repeat(first | refine zbl ?_ _ | refine zbr ?_ | refine zbm ?_ _));exact BK1578.out) hb) (zal (bs2 GE1552.out GE1578.out) hb);clear HO_0 HO1560 HO1571 HO1563 HO1566 HO1574 HO1577 BK1552 BK1578 HB;obtain⟨HO_0,HO1560,HO1571,HO1563,HO1566,HO1574,HO1577,BK1552,BK1578,HB⟩:=n_;(try clear hb);(try clear hb2);(try clear hk);(try clear hi);have hcz40_0:w39.cell? ⟨gb1578,0,none⟩=some (.int .i64 (Go.bits .or .i64 (wrap64 ((wrap64 (rd l0 1))*256)) (wrap64 (rd l0 2)))):=(zbd BK1578.out 0).trans rfl;have hcz40_1:w39.cell? ⟨gb1578,1,none⟩=some (.slice Ao33 t1564.length co33):=(zbd BK1578.out 1).trans rfl;have hcz40_2:w39.cell? ⟨gb1578,2,none⟩=some (.slice Ao32 t1575.length co32):=(zbd BK1578.out 2).trans rfl;have hfz40_0:=zaw BK1578.out 0;have hfz40_1:=zaw BK1578.out 1;have hfz40_2:=zaw BK1578.out 2;have hcz41_0:w39.cell? ⟨gb1552,0,none⟩=some (.int .i64 0):=(zbd BK1552.out 0).trans rfl;have hcz41_1:w39.cell? ⟨gb1552,1,none⟩=some (.slice none 0 0):=(zbd BK1552.out 1).trans rfl;have hcz41_2:w39.cell? ⟨gb1552,2,none⟩=some (.slice none 0 0):=(zbd BK1552.out 2).trans rfl;have hfz41_0:=zaw BK1552.out 0;have hfz41_1:=zaw BK1552.out 1;have hfz41_2:=zaw BK1552.out 2))
        refine zfw (results_ct rfl _ _ gb1552 55 #[.int .i64 (Go.bits .or .i64 (wrap64 ((wrap64 (rd l0 1))*256)) (wrap64 (rd l0 2))), .slice Ao33 t1564.length co33, .slice Ao32 t1575.length co32] (0,0) _ rfl (by(with_reducible repeat(first | refine zbl ?_ _ | refine zbr ?_ | refine zbm ?_ _));refine zed (cs:= #[.int .i64 (Go.bits .or .i64 (wrap64 ((wrap64 (rd l0 1))*256)) (wrap64 (rd l0 2))), .slice Ao33 t1564.length co33, .slice none 0 0]) ?_ 2 _ rfl;(with_reducible repeat(first | refine zbl ?_ _ | refine zbr ?_ | refine zbm ?_ _));refine zed (cs:= #[.int .i64 (Go.bits .or .i64 (wrap64 ((wrap64 (rd l0 1))*256)) (wrap64 (rd l0 2))), .slice none 0 0, .slice none 0 0]) ?_ 1 _ rfl;(with_reducible repeat(first | refine zbl ?_ _ | refine zbr ?_ | refine zbm ?_ _));refine zed (cs:= #[.int .i64 0, .slice none 0 0, .slice none 0 0]) ?_ 0 _ rfl;(with_reducible repeat(first | refine zbl ?_ _ | refine zbr ?_ | refine zbm ?_ _));exact BK1552.out) Try.underlying55 rfl (by kernel_rfl)) rfl ?_
        exact⟨_,_,jex,by(with_reducible repeat(first | apply zat | apply zau | apply zar));exact zao (zdn (p:=⟨gb1552,2,none⟩) (zdn (p:=⟨gb1552,1,none⟩) (zdn (p:=⟨gb1552,0,none⟩) (zeq HO1566.out BK1552.out (by decide)) (fun _ hk=>hk.2) (.int .i64 (Go.bits .or .i64 (wrap64 ((wrap64 (rd l0 1))*256)) (wrap64 (rd l0 2))))) (fun _ hk=>hk.2) (.slice Ao33 t1564.length co33)) (fun _ hk=>hk.2) (.slice Ao32 t1575.length co32)) (fun _ hk=>⟨hk.1.1,hk.1.2⟩),by(with_reducible repeat(first | apply zat | apply zau | apply zar));exact zao (zdn (p:=⟨gb1552,2,none⟩) (zdn (p:=⟨gb1552,1,none⟩) (zdn (p:=⟨gb1552,0,none⟩) (zeq HO1577.out BK1552.out (by decide)) (fun _ hk=>hk.2) (.int .i64 (Go.bits .or .i64 (wrap64 ((wrap64 (rd l0 1))*256)) (wrap64 (rd l0 2))))) (fun _ hk=>hk.2) (.slice Ao33 t1564.length co33)) (fun _ hk=>hk.2) (.slice Ao32 t1575.length co32)) (fun _ hk=>⟨hk.1.1,hk.1.2⟩),(bs2 GE1552.out GE1578.out)⟩
       replace c16:=zds.mpr c16
       subst c16
       rw[if_neg (show ¬(false=true) by decide)] at H
       simp only[zcb,zcu] at H
       obtain⟨rfl,rfl,rfl,rfl⟩:=H
       try go_wp2_with (first | (refine jgc 65 ?_;refine jgs 35 Try.func65 #[.agg #[.int .i64 (Go.bits .or .i64 (wrap64 ((wrap64 (rd l0 1))*256)) (wrap64 (rd l0 2))), .slice Ao33 t1564.length co33, .slice Ao32 t1575.length co32]] ?_;(with_reducible refine(impl_LetterOk.calls (Go.bits .or .i64 (wrap64 ((wrap64 (rd l0 1))*256)) (wrap64 (rd l0 2))) _ _ t1564 _ _ t1575 false _ ?side1 ?side2 ?side3 ?side4 A15.out).mono ?_);(case side1=>refine(zam (e:=5) (base:=w.heap.size) (ok:=fun k_=>((w.heap.size≤k_)∧some k_≠(.slice Ao32 t1575.length co32:Value).ownBlock)) (n:=t1564.length) (c:=co33) ?_).2.2;exact(by(with_reducible repeat(first | apply zat | apply zau | apply zar));exact(zao (zdn (p:=⟨gb1578,2,none⟩) (zdn (p:=⟨gb1578,1,none⟩) (zdn (p:=⟨gb1578,0,none⟩) (zeq HO1566.out BK1578.out (by decide)) (fun _ hk=>hk.2) (.int .i64 (Go.bits .or .i64 (wrap64 ((wrap64 (rd l0 1))*256)) (wrap64 (rd l0 2))))) (fun _ hk=>hk.2) (.slice Ao33 t1564.length co33)) (fun _ hk=>hk.2) (.slice Ao32 t1575.length co32)) (fun _ h_=>h_.1))));(case side2=>exact(zam HO1566.out).2.1);(case side3=>refine(zam (e:=5) (base:=w.heap.size) (ok:=fun k_=>((w.heap.size≤k_)∧some k_≠(.slice Ao33 t1564.length co33:Value).ownBlock)) (n:=t1575.length) (c:=co32) ?_).2.2;exact(by(with_reducible repeat(first | apply zat | apply zau | apply zar));exact(zao (zdn (p:=⟨gb1578,2,none⟩) (zdn (p:=⟨gb1578,1,none⟩) (zdn (p:=⟨gb1578,0,none⟩) (zeq HO1577.out BK1578.out (by decide)) (fun _ hk=>hk.2) (.int .i64 (Go.bits .or .i64 (wrap64 ((wrap64 (rd l0 1))*256)) (wrap64 (rd l0 2))))) (fun _ hk=>hk.2) (.slice Ao33 t1564.length co33)) (fun _ hk=>hk.2) (.slice Ao32 t1575.length co32)) (fun _ h_=>h_.1))));(case side4=>exact(zam HO1577.out).2.1);rintro e w64 ⟨rfl,hb⟩;refine⟨_,rfl,?_⟩;have n_:=jA10 (zcw (by(with_reducible repeat(first | apply zbn | apply zbo | apply zbu));exact(zbh (Kd.V_far (p:=⟨gb1578,2,none⟩) (Kd.V_far (p:=⟨gb1578,1,none⟩) (Kd.V_far (p:=⟨gb1578,0,none⟩) (zbh HO_0.out (fun k_ hk=>(⟨hk,hk.2.2.2.2.2.2⟩:_∧k_≠gb1578))) (fun _ hk=>hk.2) (.int .i64 (Go.bits .or .i64 (wrap64 ((wrap64 (rd l0 1))*256)) (wrap64 (rd l0 2))))) (fun _ hk=>hk.2) (.slice Ao33 t1564.length co33)) (fun _ hk=>hk.2) (.slice Ao32 t1575.length co32)) (fun _ h_=>h_.1))) hb) (zcw (by(with_reducible repeat(first | apply zbn | apply zbo | apply zbu));exact(zbh (Kd.V_far (p:=⟨gb1578,2,none⟩) (Kd.V_far (p:=⟨gb1578,1,none⟩) (Kd.V_far (p:=⟨gb1578,0,none⟩) (zbh HO1560.out (fun k_ hk=>(⟨hk,hk.2.2.2.2.2.2⟩:_∧k_≠gb1578))) (fun _ hk=>hk.2) (.int .i64 (Go.bits .or .i64 (wrap64 ((wrap64 (rd l0 1))*256)) (wrap64 (rd l0 2))))) (fun _ hk=>hk.2) (.slice Ao33 t1564.length co33)) (fun _ hk=>hk.2) (.slice Ao32 t1575.length co32)) (fun _ h_=>h_.1))) hb) (zcw (by(with_reducible repeat(first | apply zbn | apply zbo | apply zbu));exact(zbh (Kd.V_far (p:=⟨gb1578,2,none⟩) (Kd.V_far (p:=⟨gb1578,1,none⟩) (Kd.V_far (p:=⟨gb1578,0,none⟩) (zbh HO1571.out (fun k_ hk=>(⟨hk,hk.2.2.2.2.2.2⟩:_∧k_≠gb1578))) (fun _ hk=>hk.2) (.int .i64 (Go.bits .or .i64 (wrap64 ((wrap64 (rd l0 1))*256)) (wrap64 (rd l0 2))))) (fun _ hk=>hk.2) (.slice Ao33 t1564.length co33)) (fun _ hk=>hk.2) (.slice Ao32 t1575.length co32)) (fun _ h_=>h_.1))) hb) (zgs (by(with_reducible repeat(first | apply zei | apply zej | apply zet));exact(zem (Kd.N_far (p:=⟨gb1578,2,none⟩) (Kd.N_far (p:=⟨gb1578,1,none⟩) (Kd.N_far (p:=⟨gb1578,0,none⟩) (zem HO1563.out (fun k_ hk=>(⟨hk,hk.2.2.2.2.2⟩:_∧k_≠gb1578))) (fun _ hk=>hk.2) (.int .i64 (Go.bits .or .i64 (wrap64 ((wrap64 (rd l0 1))*256)) (wrap64 (rd l0 2))))) (fun _ hk=>hk.2) (.slice Ao33 t1564.length co33)) (fun _ hk=>hk.2) (.slice Ao32 t1575.length co32)) (fun _ h_=>h_.1))) hb) (zen (by(with_reducible repeat(first | apply zat | apply zau | apply zar));exact(zao (zdn (p:=⟨gb1578,2,none⟩) (zdn (p:=⟨gb1578,1,none⟩) (zdn (p:=⟨gb1578,0,none⟩) (zeq HO1566.out BK1578.out (by decide)) (fun _ hk=>hk.2) (.int .i64 (Go.bits .or .i64 (wrap64 ((wrap64 (rd l0 1))*256)) (wrap64 (rd l0 2))))) (fun _ hk=>hk.2) (.slice Ao33 t1564.length co33)) (fun _ hk=>hk.2) (.slice Ao32 t1575.length co32)) (fun _ h_=>h_.1))) hb) (zgs (by(with_reducible repeat(first | apply zei | apply zej | apply zet));exact(zem (Kd.N_far (p:=⟨gb1578,2,none⟩) (Kd.N_far (p:=⟨gb1578,1,none⟩) (Kd.N_far (p:=⟨gb1578,0,none⟩) (zem HO1574.out (fun k_ hk=>(⟨hk,hk.2.2.2.2.2⟩:_∧k_≠gb1578))) (fun _ hk=>hk.2) (.int .i64 (Go.bits .or .i64 (wrap64 ((wrap64 (rd l0 1))*256)) (wrap64 (rd l0 2))))) (fun _ hk=>hk.2) (.slice Ao33 t1564.length co33)) (fun _ hk=>hk.2) (.slice Ao32 t1575.length co32)) (fun _ h_=>h_.1))) hb) (zen (by(with_reducible repeat(first | apply zat | apply zau | apply zar));exact(zao (zdn (p:=⟨gb1578,2,none⟩) (zdn (p:=⟨gb1578,1,none⟩) (zdn (p:=⟨gb1578,0,none⟩) (zeq HO1577.out BK1578.out (by decide)) (fun _ hk=>hk.2) (.int .i64 (Go.bits .or .i64 (wrap64 ((wrap64 (rd l0 1))*256)) (wrap64 (rd l0 2))))) (fun _ hk=>hk.2) (.slice Ao33 t1564.length co33)) (fun _ hk=>hk.2) (.slice Ao32 t1575.length co32)) (fun _ h_=>h_.1))) hb) (zgm (g:=gb1552) (o:= .cells #[.int .i64 0, .slice none 0 0, .slice none 0 0] 55 (0,0)) (by(with_reducible repeat(first | refine zbl ?_ _ | refine zbr ?_ | refine zbm ?_ _));refine blk_far ?_ NB1552_1578.out _;(with_reducible repeat(first | refine zbl ?_ _ | refine zbr ?_ | refine zbm ?_ _));refine blk_far ?_ NB1552_1578.out _;(with_reducible repeat(first | refine zbl ?_ _ | refine zbr ?_ | refine zbm ?_ _));refine blk_far ?_ NB1552_1578.out _;(with_reducible repeat(first | refine zbl ?_ _ | refine zbr ?_ | refine zbm ?_ _));exact BK1552.out) hb) (zgm (g:=gb1578) (o:= .cells #[.int .i64 (Go.bits .or .i64 (wrap64 ((wrap64 (rd l0 1))*256)) (wrap64 (rd l0 2))), .slice Ao33 t1564.length co33, .slice Ao32 t1575.length co32] 55 (0,0)) (by(with_reducible repeat(first | refine zbl ?_ _ | refine zbr ?_ | refine zbm ?_ _));refine zed (cs:= #[.int .i64 (Go.bits .or .i64 (wrap64 ((wrap64 (rd l0 1))*256)) (wrap64 (rd l0 2))), .slice Ao33 t1564.length co33, .slice none 0 0]) ?_ 2 _ rfl;(with_reducible repeat(first | refine zbl ?_ _ | refine zbr ?_ | refine zbm ?_ _));refine zed (cs:= #[.int .i64 (Go.bits .or .i64 (wrap64 ((wrap64 (rd l0 1))*256)) (wrap64 (rd l0 2))), .slice none 0 0, .slice none 0 0]) ?_ 1 _ rfl;(with_reducible repeat(first | refine zbl ?_ _ | refine zbr ?_ | refine zbm ?_ _));refine zed (cs:= #[.int .i64 0, .slice none 0 0, .slice none 0 0]) ?_ 0 _ rfl;(with_reducible repeat(first | refine zbl ?_ _ | refine zbr ?_ | refine zbm ?_ _));exact BK1578.out) hb) (zal (bs2 GE1552.out GE1578.out) hb);clear HO_0 HO1560 HO1571 HO1563 HO1566 HO1574 HO1577 BK1552 BK1578 HB;obtain⟨HO_0,HO1560,HO1571,HO1563,HO1566,HO1574,HO1577,BK1552,BK1578,HB⟩:=n_;(try clear hb);(try clear hb2);(try clear hk);(try clear hi);have hcz65_0:w64.cell? ⟨gb1552,0,none⟩=some (.int .i64 0):=(zbd BK1552.out 0).trans rfl;have hcz65_1:w64.cell? ⟨gb1552,1,none⟩=some (.slice none 0 0):=(zbd BK1552.out 1).trans rfl;have hcz65_2:w64.cell? ⟨gb1552,2,none⟩=some (.slice none 0 0):=(zbd BK1552.out 2).trans rfl;have hfz65_0:=zaw BK1552.out 0;have hfz65_1:=zaw BK1552.out 1;have hfz65_2:=zaw BK1552.out 2))
       refine zfw (results_ct rfl _ _ gb1552 55 #[.int .i64 0, .slice none 0 0, .slice none 0 0] (0,0) _ rfl (by(with_reducible repeat(first | refine zbl ?_ _ | refine zbr ?_ | refine zbm ?_ _));refine zed (cs:= #[.int .i64 0, .slice none 0 0, .slice none 0 0]) ?_ 2 _ rfl;(with_reducible repeat(first | refine zbl ?_ _ | refine zbr ?_ | refine zbm ?_ _));refine zed (cs:= #[.int .i64 0, .slice none 0 0, .slice none 0 0]) ?_ 1 _ rfl;(with_reducible repeat(first | refine zbl ?_ _ | refine zbr ?_ | refine zbm ?_ _));refine zed (cs:= #[.int .i64 0, .slice none 0 0, .slice none 0 0]) ?_ 0 _ rfl;(with_reducible repeat(first | refine zbl ?_ _ | refine zbr ?_ | refine zbm ?_ _));exact BK1552.out) Try.underlying55 rfl (by kernel_rfl)) rfl ?_
       exact⟨_,_,jex,by first | exact Kd.R_nil _ _ _ _ _ | exact Kd.N_nil _ _ _ _ _ | exact Kd.V_nil _ _ _ _ _ | exact Kd.Q_nil _ _ _ _ _ | exact Kd.S_nil _ _ _ _ _,by first | exact Kd.R_nil _ _ _ _ _ | exact Kd.N_nil _ _ _ _ _ | exact Kd.V_nil _ _ _ _ _ | exact Kd.Q_nil _ _ _ _ _ | exact Kd.S_nil _ _ _ _ _,(bs2 GE1552.out GE1578.out)⟩
      rw[if_neg c11] at H
      exact absurd H (by simp)
     rw[if_neg c10] at H
     exact absurd H (by simp)
    rw[if_neg c9] at H
    exact absurd H (by simp)
   rw[if_neg c8] at H
   exact absurd H (by simp)
end Go.Proofs.Ytienlgcjohpphaa.P
