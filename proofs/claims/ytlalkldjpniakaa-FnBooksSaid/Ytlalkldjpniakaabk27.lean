import Derived.Test.Ytlalkldjpniakaabk26
import Derived.Test.Ytlalkldjpniakaabk12
namespace Go.Proofs.Ytlalkldjpniakaa.P
open Go.RowKit Go.Proofs.YtlalkldjpniakaaW.PrintWords Go.Proofs.YtlalkldjpniakaaW.PrintLast Go.Proofs.YtlalkldjpniakaaW.PrintMore
attribute [local go_sem] zck zcl zdl zdm zbz zca zcm zcn -- for this text's walks alone
set_option linter.unusedVariables false
set_option linter.unusedSimpArgs false
set_option maxHeartbeats 8000000
set_option maxRecDepth 100000

def impl_cloneItems.l0:Nat→List (S34)→List (S34)→Int→Int→Option ((List (S34)))
 | 0,_,_,_,_=>none
 | k+1,x3,x6,x7,x8=>if x8<x7 then(if 0≤x8 then(if x8<(x6.length:Int) then((impl_cloneItem.f ((rd_T34 x6 x8).f0) ((rd_T34 x6 x8).f1) ((rd_T34 x6 x8).f2) ((rd_T34 x6 x8).f3)).bind fun bt367=>(if x3.length<2513169434916 then(impl_cloneItems.l0 k (x3++[(⟨bt367.1,bt367.2.1,bt367.2.2.1,bt367.2.2.2⟩:S34)]) x6 x7 (wrap64 (x8+1))) else(none))) else(none)) else(none)) else(some x3)
def impl_cloneItems.f (k:Nat) (l0:List (S34)):Option ((List (S34))):=impl_cloneItems.l0 k ([]:List (S34)) l0 (l0.length:Int) 0
theorem impl_cloneItems.mono_l:∀ k,(∀ y0 y1 y2 y3,LeO (impl_cloneItems.l0 k y0 y1 y2 y3) (impl_cloneItems.l0 (k+1) y0 y1 y2 y3))
 | 0=>fun _ _ _ _ r h=>by simp [impl_cloneItems.l0] at h
 | k+1=>by
  have ih0:=impl_cloneItems.mono_l k
  intro y0 y1 y2 y3
  unfold impl_cloneItems.l0
  exact mt
theorem impl_cloneItems.mono:∀ a0 k,LeO (impl_cloneItems.f k a0) (impl_cloneItems.f (k+1) a0):=by
 intro a0 k
 have ih0:=impl_cloneItems.mono_l k
 unfold impl_cloneItems.f
 exact mt
theorem impl_cloneItems.calls (k:Nat) (A0:Option Addr) (c0:Nat) (l0:List (S34)) (r:List (S34)) (w:World) (hr0:Kd.C k34 w A0 l0.length l0) (hc0:l0.length≤c0) (h:impl_cloneItems.f k l0=some r):
  Calls Try.prog 96 #[.slice A0 l0.length c0] w fun e w'=>∃ v0_:Value,e= .returned (v0_)∧Kd.S k34 34 w' w.heap.size (fun _=>True) v0_ r∧Below w.heap.size w w':=by
 have hu34:=Try.underlying34
 have HR0:=Aside0.mk hr0
 have V1:=Aside0.mk hc0
 clear hr0 hc0
 have HB:=Aside0.mk (zbo w.heap.size w)
 have H:(impl_cloneItems.l0 k ([]:List (S34)) l0 (l0.length:Int) 0)=some r:=h
 clear h
 have H':=Aside0.mk H
 clear H
 go_enter Try.func96,Try.ntmps96
 go_wp2
 go_loopg [3,8] k (fun kq v3 v8 w'=>∃ (I0:List (S34)) (o0:Int),v8= .int .i64 o0∧Aside0 (impl_cloneItems.l0 kq I0 l0 (l0.length:Int) o0=some r)∧Aside0 (kq≤k)∧Aside0 (Kd.S k34 34 w' w.heap.size (fun _=>True) v3 I0)∧Aside0 (Below w.heap.size w w'))
 case atStart=>exact⟨(([]:List (S34))),(0),jer,H',⟨zaf _⟩,⟨by first | exact Kd.S_nil _ _ _ _ _ | exact Kd.N_nil _ _ _ _ _ | exact Kd.V_nil _ _ _ _ _ | exact Kd.Q_nil _ _ _ _ _ | exact zgo _ _ _ _ _⟩,⟨bq⟩⟩
 case round=>
  clear H'
  obtain⟨I0,o0,rfl,HA,N1,D0,HB⟩:=hrel
  cases gk with
  | zero=>exact absurd HA.out (by simp [impl_cloneItems.l0])
  | succ k1=>
   have H:=HA.out
   clear HA
   simp only[impl_cloneItems.l0] at H
   by_cases c2:o0<(l0.length:Int)
   ·rw[if_pos c2] at H
    have Z0:=zae c2
    clear c2
    by_cases c3:0≤o0
    ·rw[if_pos c3] at H
     have Q1:=zae c3
     clear c3
     by_cases c4:o0<(l0.length:Int)
     ·rw[if_pos c4] at H
      have R1:=zae c4
      clear c4
      obtain⟨⟨K0,L0,M0,J0⟩,A5,H⟩:=bnd H
      try dsimp only at H
      by_cases c6:I0.length<2513169434916
      ·rw[if_pos c6] at H
       have n1:=Aside0.mk c6
       clear c6
       obtain⟨Q0,N0⟩:∃ y_:List (S34),y_=(I0++[(⟨K0,L0,M0,J0⟩:S34)]):=⟨_,rfl⟩
       replace H:(impl_cloneItems.l0 k1 Q0 l0 (l0.length:Int) (wrap64 (o0+1)))=some r:=jrw N0 H
       have R0:=Aside0.mk N0
       clear N0
       have H':=Aside0.mk H
       clear H
       obtain⟨S1,U1,O1,F0,G0,C1,V0,W0,X0,Y0,O0,P0⟩:=jel HR0.out HB.out o0
       cases C1
       go_wp2_with (first | (refine jgd 5 ?_;refine bx 5 (#[.string (⟨#[]⟩:ByteArray), .int .i64 0, .int .i64 0, .slice none 0 0]) 34 ?_;intro B0 hg w7 hbox hb;have xb_:=below_ofs bq hb;have n_:=jA5 (zfp (Kd.S_elderB (pS D0.out) B0 (zev hg.symm)) hb) (zac xb_ hb) (hbox) (ge0 hg xb_:w.heap.size≤B0) (ge0 hg xb_:w.heap.size≤B0);clear D0 HB;obtain⟨D0,HB,C0,P1,E0⟩:=n_;clear xb_ hb hbox hg;obtain⟨D1,E1,F1,G1,H1,I1,J1,K1⟩:=cz4 C0.out) | (refine jgc 104 ?_;refine jgs 14 Try.func104 #[.agg #[.string ((rd_T34 l0 o0).f0), .int .i64 ((rd_T34 l0 o0).f1), .int .i64 ((rd_T34 l0 o0).f2), .slice F0 ((rd_T34 l0 o0).f3).length G0]] ?_;(with_reducible refine(impl_cloneItem.calls ((rd_T34 l0 o0).f0) ((rd_T34 l0 o0).f1) ((rd_T34 l0 o0).f2) _ _ ((rd_T34 l0 o0).f3) K0 L0 M0 J0 _ ?side1 ?side2 A5.out).mono ?_);(case side1=>exact zbc P0.out (bs1 E0.out));(case side2=>exact O0.out);rintro e w9 ⟨v371,rfl,ho0,hb⟩;refine⟨_,rfl,?_⟩;have n_:=jA4 (zen (by(with_reducible repeat(first | apply zeh | apply zei | apply zeu));exact(zdw (zds (p:=⟨B0,3,none⟩) (zds (p:=⟨B0,2,none⟩) (zds (p:=⟨B0,1,none⟩) (zds (p:=⟨B0,0,none⟩) (zdw D0.out (fun k_ hk=>(⟨hk,hk.2⟩:_∧k_≠B0))) (fun _ hk=>hk.2) (.string ((rd_T34 l0 o0).f0))) (fun _ hk=>hk.2) (.int .i64 ((rd_T34 l0 o0).f1))) (fun _ hk=>hk.2) (.int .i64 ((rd_T34 l0 o0).f2))) (fun _ hk=>hk.2) (.slice F0 ((rd_T34 l0 o0).f3).length G0)) (fun _ h_=>h_.1))) (zbg ho0) hb) (zax ho0 (zal (bs1 E0.out))) (blk_below (g:=B0) (o:= .cells #[.string ((rd_T34 l0 o0).f0), .int .i64 ((rd_T34 l0 o0).f1), .int .i64 ((rd_T34 l0 o0).f2), .slice F0 ((rd_T34 l0 o0).f3).length G0] 34 (0,0)) (by(with_reducible repeat(first | refine zaj ?_ _ | refine zan ?_ | refine zak ?_ _));refine zbw (cs:= #[.string ((rd_T34 l0 o0).f0), .int .i64 ((rd_T34 l0 o0).f1), .int .i64 ((rd_T34 l0 o0).f2), .slice none 0 0]) ?_ 3 _ rfl;(with_reducible repeat(first | refine zaj ?_ _ | refine zan ?_ | refine zak ?_ _));refine zbw (cs:= #[.string ((rd_T34 l0 o0).f0), .int .i64 ((rd_T34 l0 o0).f1), .int .i64 0, .slice none 0 0]) ?_ 2 _ rfl;(with_reducible repeat(first | refine zaj ?_ _ | refine zan ?_ | refine zak ?_ _));refine zbw (cs:= #[.string ((rd_T34 l0 o0).f0), .int .i64 0, .int .i64 0, .slice none 0 0]) ?_ 1 _ rfl;(with_reducible repeat(first | refine zaj ?_ _ | refine zan ?_ | refine zak ?_ _));refine zbw (cs:= #[.string (⟨#[]⟩:ByteArray), .int .i64 0, .int .i64 0, .slice none 0 0]) ?_ 0 _ rfl;(with_reducible repeat(first | refine zaj ?_ _ | refine zan ?_ | refine zak ?_ _));exact C0.out) hb) (zac (bs1 E0.out) hb);clear D0 C0 HB;obtain⟨D0,H0,C0,HB⟩:=n_;clear hb ho0;obtain⟨S0,T0,M1⟩:=zbd H0.out;subst M1) | ((with_reducible refine zcd (b:= .append) (xs:= #[.tmp 12, .tmp 15]) rfl ?_);at_builtin;refine zfm k34 (w0:=w) w.heap.size rfl (.tmp 12) (.tmp 15) 25 34 (.agg #[(.string ⟨#[]⟩),(.int .i64 0),(.int .i64 0),(.slice none 0 0)]) 56 rfl Try.underlying25 info34 rfl (by decide) (by omega) u3 I0 (⟨K0,L0,M0,J0⟩:S34) [.string K0, .int .i64 L0, .int .i64 M0, .slice S0 J0.length T0] (fun k_=>k_≠B0) (fun k_=>some k_=(.slice S0 J0.length T0:Value).ownBlock) rfl rfl ?aP (fun k_ hk_=>((zam (ok':=fun k_=>((fun k_=>k_≠B0)) k_∧some k_≠(u3:Value).ownBlock) (zdc (zee (H0.out) (zel D0.out) (by decide)) C0.out (by decide)) (fun k_ hk=>⟨hk.2,hk.1.2⟩))).1 k_ hk_.symm) ?aF ?aO ?aB ?aS ?aL ?_;(case aP=>exact k34_mkM _ _ _ (⟨K0,L0,M0,J0⟩:S34) (zam (zfv rfl (zam (ok':=fun k_=>((fun k_=>k_≠B0)) k_∧some k_≠(u3:Value).ownBlock) (zdc (zee (H0.out) (zel D0.out) (by decide)) C0.out (by decide)) (fun k_ hk=>⟨hk.2,hk.1.2⟩))) (fun _ h_=>h_)));(case aB=>exact(bs1 E0.out));(case aF=>exact(fun k_ hk=>zfw (pB C0.out) k_ hk));(case aO=>exact(by(with_reducible repeat(first | apply zeh | apply zei | apply zeu));exact zdw D0.out (fun k_ hk=>⟨hk.1.2,fun e_=>hk.2 e_⟩)));(case aS=>exact(zal (bs1 E0.out)));(case aL=>have:=n1.out;omega);intro v374 w10 ho hb hg hat;rw[← R0.out] at ho;have n_:=jA3 (zeq (pB C0.out) hg (Kd.S_away D0.out (fun _ hk=>hk.1.2))) (hb) (ho);clear C0 HB D0 H0;obtain⟨C0,HB,U0⟩:=n_;clear ho hb hg hat))
       go_roundg k1
       case measure=>have:=N1.out;omega
       case rel=>exact⟨(Q0),(wrap64 (o0+1)),jer,H',⟨by have:=N1.out;omega⟩,⟨tqS U0.out⟩,⟨bs1 E0.out⟩⟩
      rw[if_neg c6] at H
      exact absurd H (by simp)
     rw[if_neg c4] at H
     exact absurd H (by simp)
    rw[if_neg c3] at H
    exact absurd H (by simp)
   rw[if_neg c2] at H
   have Z0:=zbf c2
   clear c2
   obtain rfl:=Option.some.inj H
   go_wp2
   go_ret
   exact⟨_,jex,by(with_reducible repeat(first | apply zeh | apply zei | apply zeu));exact D0.out,bq⟩
def impl_Due.f (k:Nat) (l0:List (S34)) (a1:Int):Option (List (S34)):=(impl_cloneItems.f k l0).bind fun t=>some (t.filter fun x=> !decide (x.f2<a1))
theorem impl_Due.mono:∀ a0 a1 k,LeO (impl_Due.f k a0 a1) (impl_Due.f (k+1) a0 a1):=by
 intro a0 a1 k
 unfold impl_Due.f
 exact LeO.bind (impl_cloneItems.mono _ _) (fun _=>LeO.refl _)
theorem impl_Due.calls (k:Nat) (A0:Option Addr) (c0:Nat) (l0:List (S34)) (a1:Int) (r:List (S34)) (w:World) (hr0:Kd.C k34 w A0 l0.length l0) (hc0:l0.length≤c0) (h:impl_Due.f k l0 a1=some r):
  Calls Try.prog 39 #[.slice A0 l0.length c0, .int .i64 a1] w fun e w'=>∃ v0_:Value,e= .returned (v0_)∧Kd.S k34 34 w' w.heap.size (fun _=>True) v0_ r∧Below w.heap.size w w':=by
 unfold impl_Due.f at h
 replace h:=zcq.1 h
 obtain⟨t,ht,h⟩:=h
 obtain rfl:=Option.some.inj h
 have HR:=Aside0.mk hr0
 have HC:=Aside0.mk hc0
 have F:=Aside0.mk ht
 have eg:∀ args w,(callFunc 97 args).run Try.prog w= .ok (.enter 97 args) w:=enters_of Try.func97 (by kernel_rfl) rfl
 clear h ht hr0 hc0
 go_enter Try.func39,Try.ntmps39
 go_wp2_with (first | (go_at_call 96;(with_reducible refine(impl_cloneItems.calls k _ _ l0 t _ (zdd HR.out _) HC.out F.out).mono ?_);rintro e w1 ⟨v1,rfl,ho,hb⟩;have HS:=Aside0.mk ho;have HB:=Aside0.mk hb;clear ho hb;obtain⟨A1,c1,e1⟩:=zbd (Kd.S_R HS.out);subst e1) | (go_at_call 95;refine Hid.out ?_))
 show Calls _ _ _ _ _
 have hsz:w.heap.size+1=(w.alloc (.cells #[.int .i64 a1] 3)).heap.size:=by simp
 refine(items_delete (fun x=>decide (x.f2<a1)) _ _ w.heap.size _ (due_pred a1 w.heap.size) eg A1 c1 t w1 _ _ HS.out ?ho ?hne).mono ?_
 case ho=>rw[HB.out.block _ (by omega)];exact zgp w _
 case hne=>intro e_;have h1:=Kd.S_base HS.out _ e_.symm;omega
 rintro e w2 ⟨v2,rfl,hs,hg,hv⟩
 go_wp2_with (fail "none")
 go_ret
 replace hsz:w.heap.size≤(w.alloc (.cells #[.int .i64 a1] 3)).heap.size:=by omega
 exact⟨_,rfl,zdw (zfz hs hsz) (fun _ _=>trivial),zcw (((zbo _ w).alloc (zaf _) _).trans (HB.out.mono hsz)) _ (zcv hsz HB.out.size) hg (fun k hk=>zcv hsz (Kd.S_base HS.out k hk))⟩
end Go.Proofs.Ytlalkldjpniakaa.P
/- slices.Delete of one item, over a list of items of the call's own. -/
namespace Go.Proofs.Ytlalkldjpniakaa.P
open Go.RowKit Go.Proofs.YtlalkldjpniakaaW.PrintWords Go.Proofs.YtlalkldjpniakaaW.PrintLast Go.Proofs.YtlalkldjpniakaaW.PrintMore
set_option linter.unusedVariables false
set_option linter.unusedSimpArgs false
set_option maxHeartbeats 8000000
set_option maxRecDepth 100000
/-- What lies behind the row may be written. -/
theorem S_beyond {w:World} {base g n cap:Nat} {ok:Nat→Prop} {xs:List S34} (h:Kd.S k34 34 w base ok (.slice (some ⟨g,0,none⟩) n cap) xs) (seg:List Value) (hs:n*4+seg.length≤cap*4):
    Kd.S k34 34 (w.setCells g (n*4) seg) base ok (.slice (some ⟨g,0,none⟩) n cap) xs∧w.grownBy (w.setCells g (n*4) seg) (some g):=by
  have hg:=grown_setCells4 w g (n*4) seg
  refine⟨?_,hg⟩
  obtain⟨f,rows,hrl,hraw,hok,hM⟩:=raw_of_S h
  have hn:=(Kd.R_reads' hraw).1
  obtain⟨h0,inner,ho,hr⟩:=hraw
  refine S_of_raw (okr:=fun k=>some k=(Value.slice (some ⟨g,0,none⟩) n cap).ownBlock) f hok ?_ hrl (fun j x c hx hc=>Kd.M_step (hM j x c hx hc) (fun k hk hlt=>hg.block k hlt (fun e=>hk.1.2 (by rw[e];rfl))))
  rcases ho.2 with ⟨hv,_⟩ | ⟨g2,cap2,cur2,hv,hb2,hh2,hnc2,hm2,hsz2,htk2⟩
  · cases hv
  injection hv with hva hvn hvc
  injection hva with hva
  injection hva with hvg
  subst hvg hvc
  have hsz:cap*4≤cur2.size:=hsz2
  obtain⟨cur',c1,c2,c3⟩:=setCells_row seg (n*4) w cur2 hh2 (by omega)
  refine⟨h0,inner,⟨ho.1, .inr ⟨g,cap,cur',by rw[← hvn],hb2,c1,hnc2,hm2,by rw[c2];exact hsz2,?_⟩⟩,hr⟩
  rw[← htk2,c3, ← hvn]
  show(cur2.toList.take (n*4)++seg++cur2.toList.drop (n*4+seg.length)).take (n*4)=cur2.toList.take (n*4)
  rw[List.append_assoc,List.take_append_of_le_length (by rw[List.length_take,Array.length_toList];omega),List.take_take,Nat.min_self]
theorem S_room {w:World} {base g n cap:Nat} {ok:Nat→Prop} {xs:List S34} (h:Kd.S k34 34 w base ok (.slice (some ⟨g,0,none⟩) n cap) xs) (j:Nat) (hj:j<cap*4):
    (w.cell? ⟨g,j,none⟩).isSome=true∧w.frozen? ⟨g,j,none⟩=false:=by
  obtain⟨inner,ho⟩:=Kd.S_own h
  rcases ho.2 with ⟨hv,_⟩ | ⟨g2,cap2,cur2,hv,hb2,hh2,hnc2,hm2,hsz2,htk2⟩
  · cases hv
  injection hv with hva hvn hvc
  injection hva with hva
  injection hva with hvg
  subst hvg hvc
  have hsz:cap*4≤cur2.size:=hsz2
  refine⟨?_,blk_frozen hh2 j⟩
  rw[blk_cell hh2 j,Array.getElem?_eq_getElem (by omega)];rfl
theorem items_erase (A:Option Addr) (c:Nat) (xs:List S34) (i:Nat) (hi:i<xs.length) (w:World) (base:Nat) (ok:Nat→Prop) (hS:Kd.S k34 34 w base ok (.slice A xs.length c) xs):
    Calls Try.prog 105 #[.slice A xs.length c, .int .i64 (i:Int), .int .i64 ((i:Int)+1)] w fun e w'=>∃ v':Value,e= .returned v'∧Kd.S k34 34 w' base ok v' (xs.eraseIdx i)∧w.grownBy w' (Value.slice A xs.length c).ownBlock∧v'.ownBlock=(Value.slice A xs.length c).ownBlock:=by
  have hu34:=Try.underlying34
  obtain⟨g,cap,ev,hbg,hgl,_⟩:=Kd.S_form hS (by omega)
  have e2:A=some ⟨g,0,none⟩∧c=cap:=by
    injection ev with ea en ec
    exact⟨ea,ec⟩
  obtain⟨rfl,rfl⟩:=e2
  obtain⟨_,hcap,hC⟩:=Kd.S_reads' hS
  have hlen:=hC.2.1
  obtain⟨n,hn⟩:∃ n,xs.length=n:=⟨_,rfl⟩
  have hrl:(xs.eraseIdx i).length=n - 1:=by rw[List.length_eraseIdx_of_lt hi,hn]
  rw[hn] at hi hS hcap hlen ⊢
  obtain⟨ti,hti,hz⟩:=Option.map_eq_some_iff.1 info34
  simp only[Prod.mk.injEq] at hz
  have hb34:base≤w.heap.size:=by omega
  have HB34:=Aside0.mk hb34
  have HS:=Aside0.mk hS
  have HI:=Aside0.mk hi
  have HRL:=Aside0.mk hrl
  have HCAP:=Aside0.mk hcap
  have HLEN:=Aside0.mk hlen
  obtain⟨V,hcutV⟩:∃ V,∀ W:World,(Instr.slice 25 (.slice (some ⟨g,0,none⟩) n c) (some (.int .i64 (i:Int))) (some (.int .i64 ((i:Int)+1))) (some (.int .i64 (n:Int)))).run Try.prog W= .ok V W:=by
    refine⟨sliced (some ⟨g,0,none⟩) (i:Int).toNat ((i:Int)+1).toNat (n:Int).toNat 4,fun W=>?_⟩
    have hel:Try.prog.elem 25=34:=by kernel_rfl
    have hzz:(Go.sizeOf 34).run Try.prog W= .ok 4 W:=by kernel_rfl
    rw[run_slice_lhm W 25 _ _ _ (by rw[hel];exact Try.underlying25) .i64 .i64 .i64 _ _ _ (by omega) (by omega) (by omega) (by omega),hel,hzz]
    rfl
  have hcut1:=cut_to (P:=Try.prog) 25 34 .i64 Try.underlying25 hti (some ⟨g,0,none⟩) n c (i:Int) (by omega) (by omega) hcap
  rw[Int.toNat_natCast] at hcut1
  have hcut2:=cut_from (P:=Try.prog) 25 34 .i64 Try.underlying25 hti 4 hz.2.1 (some ⟨g,0,none⟩) n c ((i:Int)+1) (by omega) (by omega)
  rw[show((i:Int)+1).toNat=i+1 by omega] at hcut2
  generalize hA2:(if c=i+1 then some (⟨g,0,none⟩:Addr) else(some (⟨g,0,none⟩:Addr)).map (·.add ((i+1)*4)))=A2 at hcut2
  have HA2:=Aside0.mk hA2
  have hcut3:∀ W:World,(Instr.slice 25 (.slice (some ⟨g,0,none⟩) (n - 1) c) (some (.int .i64 ((n - 1:Nat):Int))) (some (.int .i64 (n:Int))) none).run Try.prog W= .ok (.slice (some ⟨g,(n - 1)*4,none⟩) 1 (c - (n - 1))) W:=by
    intro W
    have hel:Try.prog.elem 25=34:=by kernel_rfl
    have hzz:(Go.sizeOf 34).run Try.prog W= .ok 4 W:=by kernel_rfl
    rw[run_slice_lh W 25 _ _ _ (by rw[hel];exact Try.underlying25) .i64 .i64 _ _ (by omega) (by omega) (by omega),hel,hzz]
    have e3:¬c=n - 1:=by omega
    have e4:(n - (n - 1))=1:=by omega
    simp [Result.andThen,sliced,e3,e4,add_plain]
  have hne:((i:Int)==(i:Int)+1)=false:=beq_eq_false_iff_ne.2 (by omega)
  have hnn:n - 1≤c:=by omega
  clear hS hC hcap hA2 hti hz ev hn hrl
  go_enter Try.func105,Try.ntmps105
  go_wp2
  clear hcutV hne hi hlen hbg hgl hnn hb34
  go_region_law ((refine Kd.S_delete_step k34 (w0:=w) base (by rfl) (.tmp 22) (.tmp 25) 25 34 rfl Try.underlying25 (by kernel_rfl) (g:=g) (n:=n) (c:=c) (k:=i) rfl rfl HA2.out.symm rfl (by(with_reducible repeat(first | apply Kd.S_drewN | apply Kd.S_drew));exact HS.out) HI.out (by repeat(first | exact Below.refl _ _ | apply pw_below_drewN | apply below_drew1)) HB34.out ?_;intro w2 hs2 hb2 hg2;have HS2:=Aside0.mk hs2;have HB2:=Aside0.mk hb2;have HG2:=Aside0.mk hg2;clear hs2 hb2 hg2))
  have hi1:=HI.out
  have hcp:=HCAP.out
  have hrun:=fun ty=>run_clear4 w2 ty g ((n - 1)*4) 1 (c - (n - 1)) (by omega) (fun t ht=>(S_room HS2.out _ (by omega)).1) (fun t ht=>(S_room HS2.out _ (by omega)).2)
  have hsl:=zeros4_length 1
  generalize zeros4 1=seg at hrun hsl
  obtain⟨hs3,hg3⟩:=S_beyond HS2.out seg (by rw[hsl];omega)
  have HS3:=Aside0.mk hs3
  have HG3:=Aside0.mk (grown_trans HG2.out hg3)
  clear hs3 hg3 hsl hi1 hcp
  generalize w2.setCells g ((n - 1)*4) seg=wz at hrun HS3 HG3
  go_wp2
  go_ret
  have hl:(n:Nat) - 1=(xs.eraseIdx i).length:=HRL.out.symm
  exact⟨_,rfl,HS3.out,grown_below (by repeat(first | exact Below.refl _ _ | apply pw_below_drewN | apply below_drew1)) HG3.out,rfl⟩
end Go.Proofs.Ytlalkldjpniakaa.P
/- A variable of four cells written whole: its block is told. -/
namespace Go.Proofs.Ytlalkldjpniakaa.P
open Go.RowKit Go.Proofs.YtlalkldjpniakaaW.PrintWords Go.Proofs.YtlalkldjpniakaaW.PrintLast Go.Proofs.YtlalkldjpniakaaW.PrintMore
set_option linter.unusedVariables false
set_option linter.unusedSimpArgs false
set_option maxHeartbeats 8000000
set_option maxRecDepth 100000
theorem box_put3 {ops:Array Oper} {rest:List Oper} {o:Oper} {a:Act} {Q:Exit→Act→World→Prop} {W:World} (hN:o.dst=none) (hgd:o.guard=none) (p x:Operand) (ho:o.op= .store 34 p x) {g:Nat} {a0 a1 a2 a3 b0 b1 b2 b3:Value}
    (haddr:a.eval p= .pointer (some ⟨g,0,none⟩)) (hx:a.eval x= .agg #[b0,b1,b2,b3]) (hb:W.heap[g]? =some (.cells #[a0,a1,a2,a3] 34 (0,0)))
    (h1:∀ u∈[b0,b1,b2,b3],u.oneCell'=true) (hc:(Value.agg #[b0,b1,b2,b3]).cells.toList=[b0,b1,b2,b3])
    (h:∀ w1,W.grownBy w1 (some g)→w1.heap[g]? =some (.cells #[b0,b1,b2,b3] 34 (0,0))→wpList Try.prog ops Q rest a w1):wpList Try.prog ops Q (o :: rest) a W:=by
  obtain⟨cur',c1,c2,c3⟩:=setCells_row [b0,b1,b2,b3] 0 W #[a0,a1,a2,a3] hb (by simp)
  have hcur:cur'= #[b0,b1,b2,b3]:=by
    apply Array.toList_inj.1
    rw[c3];rfl
  subst hcur
  have hrun:(Instr.storeAt 34 (.pointer (some ⟨g,0,none⟩)) (.agg #[b0,b1,b2,b3])).run Try.prog W= .ok () (W.setCells g 0 [b0,b1,b2,b3]):=
    run_store_run 34 _ _ hb hc (by kernel_rfl) (by simp) h1
  refine wpList_plain hgd fun K hK=>?_
  unfold Oper.wp execOp
  simp only[ho,haddr,hx,Sem.run_bind,Sem.run_pure,Result.andThen_ok,hrun]
  show K (a.put o.dst undef) _
  rw[hN]
  exact hK a _ (h _ (grown_setCells4 W g 0 _) c1)
end Go.Proofs.Ytlalkldjpniakaa.P
namespace Go.Proofs.Ytlalkldjpniakaa.P
open Go.RowKit Go.Proofs.YtlalkldjpniakaaW.PrintWords Go.Proofs.YtlalkldjpniakaaW.PrintLast Go.Proofs.YtlalkldjpniakaaW.PrintMore
attribute [local go_sem] zck zcl zdl zdm zbz zca zcm zcn -- for this text's walks alone
set_option linter.unusedVariables false
set_option linter.unusedSimpArgs false
set_option maxHeartbeats 8000000
set_option maxRecDepth 100000

def impl_Take.f (k:Nat) (l0:List (S34)) (a1:ByteArray):Option (ByteArray×Int×Int×List Int×List (S34)×Bool):=(impl_cloneItems.f k l0).bind fun t=>if idxI (fun x=>x.f0.toList==a1.toList) l0<0 then some (⟨#[]⟩,0,0,[],t,false) else if(idxI (fun x=>x.f0.toList==a1.toList) l0).toNat<t.length then(impl_cloneItem.f (rd_T34 l0 (idxI (fun x=>x.f0.toList==a1.toList) l0)).f0 (rd_T34 l0 (idxI (fun x=>x.f0.toList==a1.toList) l0)).f1 (rd_T34 l0 (idxI (fun x=>x.f0.toList==a1.toList) l0)).f2 (rd_T34 l0 (idxI (fun x=>x.f0.toList==a1.toList) l0)).f3).bind fun u=>some (u.1,u.2.1,u.2.2.1,u.2.2.2,t.eraseIdx (idxI (fun x=>x.f0.toList==a1.toList) l0).toNat,true) else none
theorem impl_Take.mono:∀ a0 a1 k,LeO (impl_Take.f k a0 a1) (impl_Take.f (k+1) a0 a1):=by
 intro a0 a1 k
 unfold impl_Take.f
 exact LeO.bind (impl_cloneItems.mono _ _) (fun _=>LeO.refl _)
theorem impl_Take.calls (k:Nat) (A0:Option Addr) (c0:Nat) (l0:List (S34)) (a1:ByteArray) (r1:ByteArray) (r2:Int) (r3:Int) (r4:List Int) (r5:List (S34)) (r6:Bool) (w:World) (hr0:Kd.C k34 w A0 l0.length l0) (hc0:l0.length≤c0) (h:impl_Take.f k l0 a1=some (r1,r2,r3,r4,r5,r6)):
  Calls Try.prog 45 #[.slice A0 l0.length c0, .string a1] w fun e w'=>∃ v3_ v4_:Value,e= .returned (.tuple #[.agg #[.string r1, .int .i64 r2, .int .i64 r3,v3_],v4_, .bool r6])∧Kd.R (Kd.int .u8) 5 w' w.heap.size (fun _=>True) v3_ r4∧Kd.S k34 34 w' w.heap.size (fun k_=>some k_≠(v3_:Value).ownBlock) v4_ r5∧Below w.heap.size w w':=by
 have hu34:=Try.underlying34
 have eg:∀ args w,(callFunc 103 args).run Try.prog w= .ok (.enter 103 args) w:=enters_of Try.func103 (by kernel_rfl) rfl
 unfold impl_Take.f at h
 replace h:=zcq.1 h
 obtain⟨t,ht,h⟩:=h
 have HR:=Aside0.mk hr0
 have HC:=Aside0.mk hc0
 have F:=Aside0.mk ht
 clear ht
 rcases idxI_cases (fun x=>x.f0.toList==a1.toList) l0 with ⟨hix,_⟩ | ⟨kk,hkk,hix,_,_⟩
 ·rw[hix,if_pos (by omega)] at h
  have h:=Option.some.inj h
  simp only[zbn] at h
  obtain⟨rfl,rfl,rfl,rfl,rfl,rfl⟩:=h
  have HIX:=Aside0.mk hix
  clear hr0 hc0 hix
  go_enter Try.func45,Try.ntmps45
  go_wp2_with (first | (refine jgd 4 ?_;refine bx 4 (#[.string (⟨#[]⟩:ByteArray), .int .i64 0, .int .i64 0, .slice none 0 0]) 34 ?_;intro gb hgb w1 hbox hb;have G0:=Aside0.mk hbox;have HT1:=Aside0.mk ((hb.block _ (by simp)).trans (zgp w (.cells #[.string a1] 9 (0,0))));have B0:=Aside0.mk (zac ((zbo _ w).alloc (zaf _) _) hb);have HGB:=Aside0.mk (show w.heap.size≤gb by rw[hgb];simp);have HGL:=Aside0.mk ((Array.getElem?_eq_some_iff.1 hbox).1);clear hbox hb hgb) | (go_at_call 96;have hcl:=impl_cloneItems.calls k _ c0 l0 t w1 (zbc HR.out B0.out) HC.out F.out;(try rw[HN.out] at hcl);refine hcl.mono ?_;clear hcl;rintro e w2 ⟨v1,rfl,ho,hb2⟩;have HS2:=Aside0.mk ho;have HB2:=Aside0.mk (zac B0.out hb2);have D0:=Aside0.mk ((hb2.block _ HGL.out).trans G0.out);have HT2:=Aside0.mk ((hb2.block _ (Array.getElem?_eq_some_iff.1 HT1.out).1).trans HT1.out);have HBASE:=Aside0.mk B0.out.size;have H12:=Aside0.mk hb2.size;clear ho hb2;obtain⟨A1,c1,e1⟩:=zbd (Kd.S_R HS2.out);subst e1) | (go_at_call 102;have hix:=items_index (fun x=>x.f0.toList==a1.toList) _ _ w.heap.size _ (take_pred a1 w.heap.size) eg _ c0 l0 w2 (zbc HR.out HB2.out) HC.out HT2.out;rw[HIX.out] at hix;(try rw[HN.out] at hix);refine hix.mono ?_;clear hix;rintro e w3 ⟨rfl,hb3⟩;have o0:=Aside0.mk (zac HB2.out hb3);(try replace h0:=zbv o0.out h0);(try replace h1:=zbv o0.out h1);(try replace h2:=zbv o0.out h2);(try replace h3:=zbv o0.out h3);have E0:=Aside0.mk ((hb3.block _ (Array.getElem?_eq_some_iff.1 D0.out).1).trans D0.out);have HS3:=Aside0.mk (zfp HS2.out hb3);have HGLE:=Aside0.mk (zcv H12.out hb3.size);clear hb3) | ((with_reducible refine zet (t:=34) (p:=4) rfl ?_);refine box_put3 rfl rfl (.tmp 4) (.tmp 16) rfl rfl rfl E0.out (by intro u hu;simp only[zdr,zct,zfu] at hu;rcases hu with rfl | rfl | rfl | rfl <;> rfl) rfl ?_;intro w4 hg4 hbw;have BW4:=Aside0.mk hbw;have F0:=Aside0.mk (zcw o0.out (some gb) o0.out.size hg4 (fun k_ e=>by injection e with e;rw[← e];exact HGB.out));have HS4:=Aside0.mk (Kd.S_grown (zgy HS3.out) hg4 (fun k_ hk_ e=>by injection e with e;have h1:=hk_.2.1;have h2:=HGL.out;omega));clear hg4 hbw))
  refine zdp (zft rfl _ _ gb 34 #[.string (⟨#[]⟩:ByteArray), .int .i64 0, .int .i64 0, .slice none 0 0] (0,0) _ rfl BW4.out Try.underlying34 rfl (by kernel_rfl)) rfl ?_
  refine⟨.slice none 0 0, .slice A1 _ c1,rfl,zgo _ _ _ _ _,?_,F0.out⟩
  exact zfz (zdw HS4.out (fun k_ hk_ e_=>by simp [Value.ownBlock] at e_)) HBASE.out
 rw[hix,if_neg (by omega),Int.toNat_natCast] at h
 by_cases hlt:kk<t.length
 ·rw[if_pos hlt] at h
  replace h:=zcq.1 h
  obtain⟨u,hu,h⟩:=h
  have h:=Option.some.inj h
  obtain⟨u1,u2,u3,u4⟩:=u
  simp only[zbn] at h
  obtain⟨rfl,rfl,rfl,rfl,rfl,rfl⟩:=h
  obtain⟨ad,A3,c3,rfl,h0,h1,h2,h3,H0,I0⟩:=at_T34 hr0 (kk:Int) (by omega) (by omega)
  simp only[Int.toNat_natCast] at h0 h1 h2 h3
  generalize rd_T34 l0 (kk:Int)=x at h0 h1 h2 h3 H0 I0 hu
  have HX3:=Aside0.mk I0
  have M0:=Aside0.mk H0
  have HU:=Aside0.mk hu
  have HIX:=Aside0.mk hix
  have hkz:¬(kk:Int)<0:=by omega
  have hlen:=hr0.2.1
  have hkn:(kk:Int)<(l0.length:Int):=by omega
  have hkp:wrap64 ((kk:Int)+1)=(kk:Int)+1:=by unfold wrap64;omega
  have HKP:=Aside0.mk hkp
  have HLT:=Aside0.mk hlt
  have h0':=h0
  clear hr0 hc0 hix I0 H0 hu hlt hkp
  generalize hn:l0.length=n at hkn hlen ⊢
  have HN:=Aside0.mk hn
  clear hn
  go_enter Try.func45,Try.ntmps45
  go_wp2_with (first | (refine jgd 4 ?_;refine bx 4 (#[.string (⟨#[]⟩:ByteArray), .int .i64 0, .int .i64 0, .slice none 0 0]) 34 ?_;intro gb hgb w1 hbox hb;have G0:=Aside0.mk hbox;have HT1:=Aside0.mk ((hb.block _ (by simp)).trans (zgp w (.cells #[.string a1] 9 (0,0))));have B0:=Aside0.mk (zac ((zbo _ w).alloc (zaf _) _) hb);have HGB:=Aside0.mk (show w.heap.size≤gb by rw[hgb];simp);have HGL:=Aside0.mk ((Array.getElem?_eq_some_iff.1 hbox).1);clear hbox hb hgb) | (go_at_call 96;have hcl:=impl_cloneItems.calls k _ c0 l0 t w1 (zbc HR.out B0.out) HC.out F.out;(try rw[HN.out] at hcl);refine hcl.mono ?_;clear hcl;rintro e w2 ⟨v1,rfl,ho,hb2⟩;have HS2:=Aside0.mk ho;have HB2:=Aside0.mk (zac B0.out hb2);have D0:=Aside0.mk ((hb2.block _ HGL.out).trans G0.out);have HT2:=Aside0.mk ((hb2.block _ (Array.getElem?_eq_some_iff.1 HT1.out).1).trans HT1.out);have HBASE:=Aside0.mk B0.out.size;have H12:=Aside0.mk hb2.size;clear ho hb2;obtain⟨A1,c1,e1⟩:=zbd (Kd.S_R HS2.out);subst e1) | (go_at_call 102;have hix:=items_index (fun x=>x.f0.toList==a1.toList) _ _ w.heap.size _ (take_pred a1 w.heap.size) eg _ c0 l0 w2 (zbc HR.out HB2.out) HC.out HT2.out;rw[HIX.out] at hix;(try rw[HN.out] at hix);refine hix.mono ?_;clear hix;rintro e w3 ⟨rfl,hb3⟩;have o0:=Aside0.mk (zac HB2.out hb3);(try replace h0:=zbv o0.out h0);(try replace h1:=zbv o0.out h1);(try replace h2:=zbv o0.out h2);(try replace h3:=zbv o0.out h3);have E0:=Aside0.mk ((hb3.block _ (Array.getElem?_eq_some_iff.1 D0.out).1).trans D0.out);have HS3:=Aside0.mk (zfp HS2.out hb3);have HGLE:=Aside0.mk (zcv H12.out hb3.size);clear hb3) | (go_at_call 104;refine(impl_cloneItem.calls x.f0 x.f1 x.f2 A3 c3 x.f3 u1 u2 u3 u4 w3 (zbc HX3.out o0.out) M0.out HU.out).mono ?_;rintro e w4 ⟨v4,rfl,ho,hb4⟩;have F0:=Aside0.mk (zac o0.out hb4);have J0:=Aside0.mk ((hb4.block _ (Array.getElem?_eq_some_iff.1 E0.out).1).trans E0.out);have C0:=Aside0.mk (zch HGL.out HGLE.out);have K0:=Aside0.mk (zam (Kd.R_bound (zfv rfl ho)) (fun k_ hk_=>zfy hk_.1 hk_.2.1):(Kd.int .u8).R 5 w4 w3.heap.size (fun k_=>some k_=v4.ownBlock∧w3.heap.size≤k_) v4 u4);have HS4:=Aside0.mk (zdw (zfp (zgy HS3.out) hb4) (fun k_ hk_=>(⟨fun e=>by have h1:=zbg ho k_ e.symm;have h2:=hk_.2.2.1;omega,hk_.2.1⟩:some k_≠v4.ownBlock∧w1.heap.size≤k_)));clear ho hb4;obtain⟨A4,c4,e4⟩:=zbd K0.out;subst e4) | (go_at_call 105;refine(items_erase A1 c1 t kk HLT.out w4 _ _ HS4.out).mono ?_;rintro e w5 ⟨v5,rfl,hs5,hg5,hv5⟩;have L0:=Aside0.mk (zcw F0.out _ F0.out.size hg5 (fun k_ e=>zcv HBASE.out (Kd.S_base HS4.out k_ e)));have HS5:=Aside0.mk hs5;have N0:=Aside0.mk (Kd.R_grown K0.out hg5 (fun k_ hk_ e=>by have h1:=Kd.S_lt HS3.out k_ e.symm;have h2:=hk_.2;omega));have O0:=Aside0.mk ((hg5.block _ (Array.getElem?_eq_some_iff.1 J0.out).1 (fun e=>by have h1:=Kd.S_base HS4.out _ e.symm;have h2:=HGL.out;omega)).trans J0.out);clear hs5 hg5 hv5) | ((with_reducible refine zet (t:=34) (p:=4) rfl ?_);refine box_put3 rfl rfl (.tmp 4) (.tmp 22) rfl rfl rfl O0.out (by intro u hu;simp only[zdr,zct,zfu] at hu;rcases hu with rfl | rfl | rfl | rfl <;> rfl) rfl ?_;intro w6 hg6 hbw;have BW6:=Aside0.mk hbw;have P0:=Aside0.mk (zcw L0.out (some gb) L0.out.size hg6 (fun k_ e=>by injection e with e;rw[← e];exact HGB.out));have HS6:=Aside0.mk (Kd.S_grown HS5.out hg6 (fun k_ hk_ e=>by injection e with e;have h1:=hk_.2;have h2:=HGL.out;omega));have Q0:=Aside0.mk (Kd.R_grown N0.out hg6 (fun k_ hk_ e=>by injection e with e;have h1:=hk_.2;have h2:=HGL.out;have h3:=C0.out;omega));clear hg6 hbw))
  refine zdp (zft rfl _ _ gb 34 #[.string u1, .int .i64 u2, .int .i64 u3, .slice A4 u4.length c4] (0,0) _ rfl BW6.out Try.underlying34 rfl (by kernel_rfl)) rfl ?_
  exact⟨.slice A4 _ c4,v5,rfl,zax (zam Q0.out (fun _ _=>trivial)) o0.out.size,zfz (Kd.S_drop HS6.out) HBASE.out,P0.out⟩
 rw[if_neg hlt] at h
 cases h
end Go.Proofs.Ytlalkldjpniakaa.P
