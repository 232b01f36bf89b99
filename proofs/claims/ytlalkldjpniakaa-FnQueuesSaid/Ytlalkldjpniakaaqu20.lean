import Derived.Test.Ytlalkldjpniakaaqu19
import Derived.Test.Ytlalkldjpniakaaqu14
namespace Go.Proofs.Ytlalkldjpniakaa.P
open Go.RowKit Go.Proofs.YtlalkldjpniakaaW.PrintWords Go.Proofs.YtlalkldjpniakaaW.PrintLast Go.Proofs.YtlalkldjpniakaaW.PrintMore
attribute [local go_sem] zbr zbs zch zci zbk zbl zbt zbu -- for this text's walks alone
set_option linter.unusedVariables false
set_option linter.unusedSimpArgs false
set_option maxHeartbeats 8000000
set_option maxRecDepth 100000

def impl_QueueOk.l0:Nat→List (S34)→Nat→Option Bool
 | 0,_,_=>none
 | k+1,l,i=>if i<l.length then((impl_ItemOk.f k (rd_T34 l i).f0 (rd_T34 l i).f1 (rd_T34 l i).f2 (rd_T34 l i).f3).bind fun t1=>if t1=true then((impl_Of.f k l (rd_T34 l i).f0).bind fun t2=>if t2>4 then some false else if(rd_T34 l i).f1>0 then(if(l.take i).any (likeI (rd_T34 l i).f0 (rd_T34 l i).f1)=true then some false else impl_QueueOk.l0 k l (i+1)) else impl_QueueOk.l0 k l (i+1)) else some false) else some true
def impl_QueueOk.f (k:Nat) (l0:List (S34)):Option Bool:=if(l0.length:Int)>10 then some false else impl_QueueOk.l0 k l0 0
theorem impl_QueueOk.l0_mono:∀ k l i,LeO (impl_QueueOk.l0 k l i) (impl_QueueOk.l0 (k+1) l i)
 | 0,l,i=>fun r h=>by simp [impl_QueueOk.l0] at h
 | k+1,l,i=>by
  have ih:=impl_QueueOk.l0_mono k
  unfold impl_QueueOk.l0
  repeat' first
   | (with_reducible exact ih _ _)
   | (with_reducible exact impl_ItemOk.mono _ _ _ _ _)
   | (with_reducible exact impl_Of.mono _ _ _)
   | (with_reducible exact LeO.refl _)
   | (with_reducible refine LeO.ite ?_ ?_)
   | (with_reducible refine LeO.bind ?_ (fun _=>?_))
theorem impl_QueueOk.mono:∀ a0 k,LeO (impl_QueueOk.f k a0) (impl_QueueOk.f (k+1) a0):=by
 intro a0 k
 unfold impl_QueueOk.f
 exact LeO.ite (LeO.refl _) (impl_QueueOk.l0_mono _ _ _)
theorem impl_QueueOk.calls (k:Nat) (A0:Option Addr) (c0:Nat) (l0:List (S34)) (r:Bool) (w:World) (hr0:Kd.C k34 w A0 l0.length l0) (hc0:l0.length≤c0) (h:impl_QueueOk.f k l0=some r):
  Calls Try.prog 43 #[.slice A0 l0.length c0] w fun e w'=>e= .returned (.bool r)∧Below w.heap.size w w':=by
 have hu34:=Try.underlying34
 have eg:∀ args w,(callFunc 100 args).run Try.prog w= .ok (.enter 100 args) w:=enters_of Try.func100 (by kernel_rfl) rfl
 have hlen:=hr0.2.1
 have HR:=Aside0.mk hr0
 have HC:=Aside0.mk hc0
 obtain⟨n,hn⟩:∃ n,l0.length=n:=⟨_,rfl⟩
 have HN:=Aside0.mk hn
 unfold impl_QueueOk.f at h
 by_cases hbig:(l0.length:Int)>10
 ·rw[if_pos hbig] at h
  obtain rfl:=Option.some.inj h
  rw[hn] at hbig hlen ⊢
  clear hr0 hc0 hn h
  go_enter Try.func43,Try.ntmps43
  go_wp2
  go_ret
  exact⟨rfl,zbe _ _⟩
 rw[if_neg hbig] at h
 have F:=Aside0.mk h
 rw[hn] at hbig hlen ⊢
 clear hr0 hc0 hn h
 go_enter Try.func43,Try.ntmps43
 go_wp2
 go_loopg [10] k (fun kq s10 wr=>∃ i:Nat,i≤n∧s10= .int .i64 i∧Aside0 (impl_QueueOk.l0 kq l0 i=some r)∧Aside0 (kq≤k)∧Aside0 (Below w.heap.size w wr))
 case atStart=>exact⟨0,Nat.zero_le _,rfl,F,⟨zbc _⟩,⟨zbe _ w⟩⟩
 case round=>
  clear F
  obtain⟨i,hi,rfl,HA,HK1,HB⟩:=hrel
  cases gk with
  | zero=>exact absurd HA.out (by simp [impl_QueueOk.l0])
  | succ k1=>
   have H:=HA.out
   clear HA
   simp only[impl_QueueOk.l0] at H
   by_cases hlt:i<n
   ·rw[if_pos (by rw[HN.out];exact hlt)] at H
    have hltz:(i:Int)<(n:Int):=by omega
    obtain⟨ad,A3,c3,rfl,h0,h1,h2,h3,hl3,hi3⟩:=at_T34 HR.out (i:Int) (by omega) (by rw[HN.out];exact hltz)
    replace h0:=jcB HB.out h0
    replace h1:=jcB HB.out h1
    replace h2:=jcB HB.out h2
    replace h3:=jcB HB.out h3
    simp only[Int.toNat_natCast] at h0 h1 h2 h3
    have HX3:=Aside0.mk hi3
    have HL3:=Aside0.mk hl3
    clear hi3 hl3
    generalize rd_T34 l0 (i:Int)=x at h0 h1 h2 h3 HX3 HL3 H
    replace H:=zdg.1 H
    obtain⟨t1,HF1,H⟩:=H
    have F1:=Aside0.mk HF1
    clear HF1
    cases t1 with
    | false=>
     rw[if_neg (by simp)] at H
     obtain rfl:=Option.some.inj H
     clear H
     go_wp2_with (first | (refine jgd 4 ?_;refine bx 4 (#[.string (⟨#[]⟩:ByteArray), .int .i64 0, .int .i64 0, .slice none 0 0]) 34 ?_;intro gb hgb w7 hbox hb;have BK:=Aside0.mk hbox;have HB7:=Aside0.mk (zah HB.out hb);have HGB:=Aside0.mk (show w.heap.size≤gb by rw[hgb];exact HB.out.size);clear hbox hb hgb) | ((with_reducible refine gate_store (t:=34) (p:=4) rfl ?_);refine box_put rfl rfl (.tmp 4) (.tmp 14) rfl rfl rfl BK.out (by intro u hu;simp only[zdr,zcz,or_false] at hu;rcases hu with rfl | rfl | rfl | rfl <;> rfl) (by intro u hu;simp only[zdr,zcz,or_false] at hu;rcases hu with rfl | rfl | rfl | rfl <;> rfl) rfl ?_;intro w8 hg8 b0 b1 b2 b3;have HB8:=Aside0.mk (zdx HB7.out (some gb) HB7.out.size hg8 (fun k_ e=>by injection e with e;rw[← e];exact HGB.out));clear hg8 BK HB7) | (go_at_call 26;refine(impl_ItemOk.calls k1 x.f0 x.f1 x.f2 A3 c3 x.f3 false w8 (zcu HX3.out HB8.out) HL3.out F1.out).mono ?_;rintro e w9 ⟨rfl,hb9⟩;replace b0:=zaz hb9 b0;replace b1:=zaz hb9 b1;replace b2:=zaz hb9 b2;replace b3:=zaz hb9 b3;have HB9:=Aside0.mk (zah HB8.out hb9);clear hb9))
     go_ret
     exact⟨rfl,HB9.out⟩
    | true=>
     rw[if_pos rfl] at H
     replace H:=zdg.1 H
     obtain⟨t2,HF2,H⟩:=H
     have F2:=Aside0.mk HF2
     clear HF2
     by_cases ht2:t2>4
     ·rw[if_pos ht2] at H
      obtain rfl:=Option.some.inj H
      clear H
      go_wp2_with (first | (refine jgd 4 ?_;refine bx 4 (#[.string (⟨#[]⟩:ByteArray), .int .i64 0, .int .i64 0, .slice none 0 0]) 34 ?_;intro gb hgb w7 hbox hb;have BK:=Aside0.mk hbox;have HB7:=Aside0.mk (zah HB.out hb);have HGB:=Aside0.mk (show w.heap.size≤gb by rw[hgb];exact HB.out.size);clear hbox hb hgb) | ((with_reducible refine gate_store (t:=34) (p:=4) rfl ?_);refine box_put rfl rfl (.tmp 4) (.tmp 14) rfl rfl rfl BK.out (by intro u hu;simp only[zdr,zcz,or_false] at hu;rcases hu with rfl | rfl | rfl | rfl <;> rfl) (by intro u hu;simp only[zdr,zcz,or_false] at hu;rcases hu with rfl | rfl | rfl | rfl <;> rfl) rfl ?_;intro w8 hg8 b0 b1 b2 b3;have HB8:=Aside0.mk (zdx HB7.out (some gb) HB7.out.size hg8 (fun k_ e=>by injection e with e;rw[← e];exact HGB.out));clear hg8 BK HB7) | (go_at_call 26;refine(impl_ItemOk.calls k1 x.f0 x.f1 x.f2 A3 c3 x.f3 true w8 (zcu HX3.out HB8.out) HL3.out F1.out).mono ?_;rintro e w9 ⟨rfl,hb9⟩;replace b0:=zaz hb9 b0;replace b1:=zaz hb9 b1;replace b2:=zaz hb9 b2;replace b3:=zaz hb9 b3;have HB9:=Aside0.mk (zah HB8.out hb9);clear hb9) | (go_at_call 21;have hof:=impl_Of.calls k1 (some ad) c0 l0 x.f0 t2 w9 (zcu HR.out HB9.out) HC.out F2.out;rw[HN.out] at hof;refine hof.mono ?_;clear hof;rintro e w10 ⟨rfl,hb10⟩;replace b0:=zaz hb10 b0;replace b1:=zaz hb10 b1;replace b2:=zaz hb10 b2;replace b3:=zaz hb10 b3;have HB10:=Aside0.mk (zah HB9.out hb10);clear hb10))
      go_ret
      exact⟨rfl,HB10.out⟩
     rw[if_neg ht2] at H
     by_cases ht:x.f1>0
     ·rw[if_pos ht] at H
      obtain⟨ti,hti,hz⟩:=Option.map_eq_some_iff.1 info34
      have hcut:=cut_to (P:=Try.prog) 25 34 .i64 Try.underlying25 hti (some ad) n c0 (i:Int) (by omega) (by omega) (by have:=HC.out;rw[HN.out] at this;exact this)
      rw[Int.toNat_natCast] at hcut
      clear hti hz
      generalize hb_:(l0.take i).any (likeI x.f0 x.f1)=b at H
      have hl:(l0.take i).length=i:=by rw[List.length_take,HN.out];omega
      have HT:=Aside0.mk hl
      have HY:=Aside0.mk hb_
      have hq:Kd.C k34 w (some ad) (l0.take i).length (l0.take i):=Kd.C_take HR.out (by rw[HN.out];exact hi)
      have HQ:=Aside0.mk hq
      clear hb_ hl hq
      cases b with
      | true=>
       rw[if_pos rfl] at H
       obtain rfl:=Option.some.inj H
       clear H
       go_wp2_with (first | (refine jgd 4 ?_;refine bx 4 (#[.string (⟨#[]⟩:ByteArray), .int .i64 0, .int .i64 0, .slice none 0 0]) 34 ?_;intro gb hgb w7 hbox hb;have BK:=Aside0.mk hbox;have HB7:=Aside0.mk (zah HB.out hb);have HGB:=Aside0.mk (show w.heap.size≤gb by rw[hgb];exact HB.out.size);clear hbox hb hgb) | ((with_reducible refine gate_store (t:=34) (p:=4) rfl ?_);refine box_put rfl rfl (.tmp 4) (.tmp 14) rfl rfl rfl BK.out (by intro u hu;simp only[zdr,zcz,or_false] at hu;rcases hu with rfl | rfl | rfl | rfl <;> rfl) (by intro u hu;simp only[zdr,zcz,or_false] at hu;rcases hu with rfl | rfl | rfl | rfl <;> rfl) rfl ?_;intro w8 hg8 b0 b1 b2 b3;have HB8:=Aside0.mk (zdx HB7.out (some gb) HB7.out.size hg8 (fun k_ e=>by injection e with e;rw[← e];exact HGB.out));clear hg8 BK HB7) | (go_at_call 26;refine(impl_ItemOk.calls k1 x.f0 x.f1 x.f2 A3 c3 x.f3 true w8 (zcu HX3.out HB8.out) HL3.out F1.out).mono ?_;rintro e w9 ⟨rfl,hb9⟩;replace b0:=zaz hb9 b0;replace b1:=zaz hb9 b1;replace b2:=zaz hb9 b2;replace b3:=zaz hb9 b3;have HB9:=Aside0.mk (zah HB8.out hb9);clear hb9) | (go_at_call 21;have hof:=impl_Of.calls k1 (some ad) c0 l0 x.f0 t2 w9 (zcu HR.out HB9.out) HC.out F2.out;rw[HN.out] at hof;refine hof.mono ?_;clear hof;rintro e w10 ⟨rfl,hb10⟩;replace b0:=zaz hb10 b0;replace b1:=zaz hb10 b1;replace b2:=zaz hb10 b2;replace b3:=zaz hb10 b3;have HB10:=Aside0.mk (zah HB9.out hb10);clear hb10) | (go_at_call 99;obtain⟨o_,ho_⟩:=obj_of_cell b0;have hany:=items_any (likeI x.f0 x.f1) _ _ gb o_ (queue_pred2 x.f0 x.f1 gb o_ w10 ho_ b0 b1) eg (some ad) c0 (l0.take i) w10 (zcu HQ.out HB10.out) (by rw[HT.out];have h1:=HC.out;rw[HN.out] at h1;omega) ho_;rw[HY.out,HT.out] at hany;refine hany.mono ?_;clear hany;rintro e w11 ⟨rfl,hb11⟩;have HB11:=Aside0.mk (zah HB10.out hb11);clear hb11 ho_))
       go_ret
       exact⟨rfl,HB11.out⟩
      | false=>
       rw[if_neg (by simp)] at H
       have HA:=Aside0.mk H
       clear H
       go_wp2_with (first | (refine jgd 4 ?_;refine bx 4 (#[.string (⟨#[]⟩:ByteArray), .int .i64 0, .int .i64 0, .slice none 0 0]) 34 ?_;intro gb hgb w7 hbox hb;have BK:=Aside0.mk hbox;have HB7:=Aside0.mk (zah HB.out hb);have HGB:=Aside0.mk (show w.heap.size≤gb by rw[hgb];exact HB.out.size);clear hbox hb hgb) | ((with_reducible refine gate_store (t:=34) (p:=4) rfl ?_);refine box_put rfl rfl (.tmp 4) (.tmp 14) rfl rfl rfl BK.out (by intro u hu;simp only[zdr,zcz,or_false] at hu;rcases hu with rfl | rfl | rfl | rfl <;> rfl) (by intro u hu;simp only[zdr,zcz,or_false] at hu;rcases hu with rfl | rfl | rfl | rfl <;> rfl) rfl ?_;intro w8 hg8 b0 b1 b2 b3;have HB8:=Aside0.mk (zdx HB7.out (some gb) HB7.out.size hg8 (fun k_ e=>by injection e with e;rw[← e];exact HGB.out));clear hg8 BK HB7) | (go_at_call 26;refine(impl_ItemOk.calls k1 x.f0 x.f1 x.f2 A3 c3 x.f3 true w8 (zcu HX3.out HB8.out) HL3.out F1.out).mono ?_;rintro e w9 ⟨rfl,hb9⟩;replace b0:=zaz hb9 b0;replace b1:=zaz hb9 b1;replace b2:=zaz hb9 b2;replace b3:=zaz hb9 b3;have HB9:=Aside0.mk (zah HB8.out hb9);clear hb9) | (go_at_call 21;have hof:=impl_Of.calls k1 (some ad) c0 l0 x.f0 t2 w9 (zcu HR.out HB9.out) HC.out F2.out;rw[HN.out] at hof;refine hof.mono ?_;clear hof;rintro e w10 ⟨rfl,hb10⟩;replace b0:=zaz hb10 b0;replace b1:=zaz hb10 b1;replace b2:=zaz hb10 b2;replace b3:=zaz hb10 b3;have HB10:=Aside0.mk (zah HB9.out hb10);clear hb10) | (go_at_call 99;obtain⟨o_,ho_⟩:=obj_of_cell b0;have hany:=items_any (likeI x.f0 x.f1) _ _ gb o_ (queue_pred2 x.f0 x.f1 gb o_ w10 ho_ b0 b1) eg (some ad) c0 (l0.take i) w10 (zcu HQ.out HB10.out) (by rw[HT.out];have h1:=HC.out;rw[HN.out] at h1;omega) ho_;rw[HY.out,HT.out] at hany;refine hany.mono ?_;clear hany;rintro e w11 ⟨rfl,hb11⟩;have HB11:=Aside0.mk (zah HB10.out hb11);clear hb11 ho_))
       go_roundg k1
       case measure=>have:=HK1.out;omega
       case rel=>exact⟨i+1,by omega,by go_num,HA,⟨by have:=HK1.out;omega⟩,HB11⟩
     rw[if_neg ht] at H
     have HA:=Aside0.mk H
     clear H
     go_wp2_with (first | (refine jgd 4 ?_;refine bx 4 (#[.string (⟨#[]⟩:ByteArray), .int .i64 0, .int .i64 0, .slice none 0 0]) 34 ?_;intro gb hgb w7 hbox hb;have BK:=Aside0.mk hbox;have HB7:=Aside0.mk (zah HB.out hb);have HGB:=Aside0.mk (show w.heap.size≤gb by rw[hgb];exact HB.out.size);clear hbox hb hgb) | ((with_reducible refine gate_store (t:=34) (p:=4) rfl ?_);refine box_put rfl rfl (.tmp 4) (.tmp 14) rfl rfl rfl BK.out (by intro u hu;simp only[zdr,zcz,or_false] at hu;rcases hu with rfl | rfl | rfl | rfl <;> rfl) (by intro u hu;simp only[zdr,zcz,or_false] at hu;rcases hu with rfl | rfl | rfl | rfl <;> rfl) rfl ?_;intro w8 hg8 b0 b1 b2 b3;have HB8:=Aside0.mk (zdx HB7.out (some gb) HB7.out.size hg8 (fun k_ e=>by injection e with e;rw[← e];exact HGB.out));clear hg8 BK HB7) | (go_at_call 26;refine(impl_ItemOk.calls k1 x.f0 x.f1 x.f2 A3 c3 x.f3 true w8 (zcu HX3.out HB8.out) HL3.out F1.out).mono ?_;rintro e w9 ⟨rfl,hb9⟩;replace b0:=zaz hb9 b0;replace b1:=zaz hb9 b1;replace b2:=zaz hb9 b2;replace b3:=zaz hb9 b3;have HB9:=Aside0.mk (zah HB8.out hb9);clear hb9) | (go_at_call 21;have hof:=impl_Of.calls k1 (some ad) c0 l0 x.f0 t2 w9 (zcu HR.out HB9.out) HC.out F2.out;rw[HN.out] at hof;refine hof.mono ?_;clear hof;rintro e w10 ⟨rfl,hb10⟩;replace b0:=zaz hb10 b0;replace b1:=zaz hb10 b1;replace b2:=zaz hb10 b2;replace b3:=zaz hb10 b3;have HB10:=Aside0.mk (zah HB9.out hb10);clear hb10))
     go_roundg k1
     case measure=>have:=HK1.out;omega
     case rel=>exact⟨i+1,by omega,by go_num,HA,⟨by have:=HK1.out;omega⟩,HB10⟩
   rw[if_neg (by rw[HN.out];exact hlt)] at H
   obtain rfl:=Option.some.inj H
   have hltz:¬(i:Int)<(n:Int):=by omega
   clear H
   go_wp2
   go_ret
   exact⟨rfl,HB.out⟩
def spec_l13Queue.l0:Nat→List (S34)→List (S34)→Int→Option ((List (S34)))
 | 0,_,_,_=>none
 | k+1,x0,x3,x4=>if x4<(x0.length:Int) then(if 0≤x4 then((spec_l13Item.f ((rd_T34 x0 x4).f0) ((rd_T34 x0 x4).f1) ((rd_T34 x0 x4).f2) ((rd_T34 x0 x4).f3)).bind fun bt402=>(if x3.length<2513169434916 then(spec_l13Queue.l0 k x0 (x3++[(⟨bt402.1,bt402.2.1,bt402.2.2.1,bt402.2.2.2⟩:S34)]) (wrap64 (x4+1))) else(none))) else(none)) else(some x3)
def spec_l13Queue.f (k:Nat) (l0:List (S34)):Option ((List (S34))):=spec_l13Queue.l0 k l0 (([]:List (S34))) 0
theorem spec_l13Queue.mono_l:∀ k,(∀ y0 y1 y2,LeO (spec_l13Queue.l0 k y0 y1 y2) (spec_l13Queue.l0 (k+1) y0 y1 y2))
 | 0=>fun _ _ _ r h=>by simp [spec_l13Queue.l0] at h
 | k+1=>by
  have ih0:=spec_l13Queue.mono_l k
  intro y0 y1 y2
  unfold spec_l13Queue.l0
  exact mt
theorem spec_l13Queue.mono:∀ a0 k,LeO (spec_l13Queue.f k a0) (spec_l13Queue.f (k+1) a0):=by
 intro a0 k
 have ih0:=spec_l13Queue.mono_l k
 unfold spec_l13Queue.f
 exact mt
theorem spec_l13Queue.calls (k:Nat) (A0:Option Addr) (c0:Nat) (l0:List (S34)) (r:List (S34)) (w:World) (hr0:Kd.C k34 w A0 l0.length l0) (hc0:l0.length≤c0) (h:spec_l13Queue.f k l0=some r):
  Calls Try.prog 101 #[.slice A0 l0.length c0] w fun e w'=>∃ v0_:Value,e= .returned (v0_)∧Kd.S k34 34 w' w.heap.size (fun _=>True) v0_ r∧Below w.heap.size w w':=by
 have hu34:=Try.underlying34
 have HR0:=Aside0.mk hr0
 have HC0:=Aside0.mk hc0
 clear hr0 hc0
 have HB:=Aside0.mk (zbe w.heap.size w)
 have H:(spec_l13Queue.l0 k l0 (([]:List (S34))) 0)=some r:=h
 clear h
 obtain⟨y398,hy398⟩:∃ y_:List (S34),y_=(([]:List (S34))):=⟨_,rfl⟩
 replace H:(spec_l13Queue.l0 k l0 y398 0)=some r:=jrw hy398 H
 have Ny398:=Aside0.mk hy398
 clear hy398
 have H':=Aside0.mk H
 clear H
 go_enter Try.func101,Try.ntmps101
 go_wp2_with (first | (refine jgd 5 ?_;refine Kd.S_lit k34 _ 34 ?hg (N:=5) ?hd (xs:=([]:List (S34))) (inner:=[]) (ok:=fun _=>True) (okp:=fun _=>True) ?hr ?hp (fun _ hk=>hk) trivial (zbe _ _) (zbc _) (by simp) ?_;(case hd=>rfl);(case hg=>rfl);(case hr=>first | (go_simp;done) | (go_simp;rfl));(case hp=>exact(Reps.none _ _));intro v399 w2 ho3 hb hg_ hnew_;have xb_:=below_ofs bq hb;clear hg_ hnew_;(first | rw[← Ny398.out] at ho3 | (simp only[Int.reduceToNat] at ho3;rw[← Ny398.out] at ho3));have n_:=jA2 (zdf ho3 (zav xb_)) (zah xb_ hb);clear HB;obtain⟨HO400,HB⟩:=n_;clear xb_ hb ho3))
 go_loopg [3,4] k (fun kq v3 v4 w'=>∃ (x3_1:List (S34)) (x4_1:Int),v4= .int .i64 x4_1∧Aside0 (spec_l13Queue.l0 kq l0 x3_1 x4_1=some r)∧Aside0 (kq≤k)∧Aside0 (Kd.S k34 34 w' w.heap.size (fun _=>True) v3 x3_1)∧Aside0 (Below w.heap.size w w'))
 case atStart=>exact⟨(y398),(0),jer,H',⟨zbc _⟩,⟨pS HO400.out⟩,⟨bq⟩⟩
 case round=>
  clear H'
  try clear c1
  try clear p2
  obtain⟨x3_1,x4_1,rfl,HA,HK1,HO_3,HB⟩:=hrel
  cases gk with
  | zero=>exact absurd HA.out (by simp [spec_l13Queue.l0])
  | succ k1=>
   have H:=HA.out
   clear HA
   simp only[spec_l13Queue.l0] at H
   by_cases c4:x4_1<(l0.length:Int)
   ·rw[if_pos c4] at H
    have c4b0:=zag c4
    clear c4
    by_cases c5:0≤x4_1
    ·rw[if_pos c5] at H
     have c5b0:=zag c5
     clear c5
     obtain⟨⟨t402,t403,t404,t405⟩,A6,H⟩:=bnd H
     try dsimp only at H
     by_cases c7:x3_1.length<2513169434916
     ·rw[if_pos c7] at H
      have LMc7:=Aside0.mk c7
      clear c7
      obtain⟨y408,hy408⟩:∃ y_:List (S34),y_=(x3_1++[(⟨t402,t403,t404,t405⟩:S34)]):=⟨_,rfl⟩
      replace H:(spec_l13Queue.l0 k1 l0 y408 (wrap64 (x4_1+1)))=some r:=jrw hy408 H
      have Ny408:=Aside0.mk hy408
      clear hy408
      have H':=Aside0.mk H
      clear H
      obtain⟨p401,q401,ad401,A401_3,c401_3,e401,hx401_0,hx401_1,hx401_2,hx401_3,HC401_3,HR401_3⟩:=jel HR0.out HB.out x4_1
      cases e401
      go_wp2_with (first | (refine jgc 94 ?_;refine jgs 17 Try.func94 #[.agg #[.string ((rd_T34 l0 x4_1).f0), .int .i64 ((rd_T34 l0 x4_1).f1), .int .i64 ((rd_T34 l0 x4_1).f2), .slice A401_3 ((rd_T34 l0 x4_1).f3).length c401_3]] ?_;(with_reducible refine(spec_l13Item.calls ((rd_T34 l0 x4_1).f0) ((rd_T34 l0 x4_1).f1) ((rd_T34 l0 x4_1).f2) _ _ ((rd_T34 l0 x4_1).f3) t402 t403 t404 t405 _ ?side1 ?side2 A6.out).mono ?_);(case side1=>exact jcs HR401_3.out);(case side2=>exact HC401_3.out);rintro e w8 ⟨v406,rfl,ho0,hb⟩;refine⟨_,rfl,?_⟩;have xb_:=below_ofs bq hb;have n_:=jA3 (zds (pS HO_3.out) (zcp ho0) hb) (zbf ho0 (zav xb_)) (zah xb_ hb);clear HO_3 HB;obtain⟨HO_3,HO407,HB⟩:=n_;clear xb_ hb ho0;obtain⟨Ao10,co10,eo10⟩:=zbh HO407.out;subst eo10) | ((with_reducible refine zbz (b:= .append) (xs:= #[.tmp 12, .tmp 18]) rfl ?_);at_builtin;refine zdj k34 (w0:=w) w.heap.size rfl (.tmp 12) (.tmp 18) 25 34 (.agg #[(.string ⟨#[]⟩),(.int .i64 0),(.int .i64 0),(.slice none 0 0)]) 56 rfl Try.underlying25 info34 rfl (by decide) (by omega) u3 x3_1 (⟨t402,t403,t404,t405⟩:S34) [.string t402, .int .i64 t403, .int .i64 t404, .slice Ao10 t405.length co10] (fun _=>True) (fun k_=>some k_=(.slice Ao10 t405.length co10:Value).ownBlock) rfl rfl ?aP (fun k_ hk_=>((zas (ok':=fun k_=>((fun _=>True)) k_∧some k_≠(u3:Value).ownBlock) (zcc (HO407.out) (zcl HO_3.out) (by decide)) (fun k_ hk=>⟨trivial,hk.2⟩))).1 k_ hk_.symm) ?aF ?aO ?aB ?aS ?aL ?_;(case aP=>exact k34_mkM _ _ _ (⟨t402,t403,t404,t405⟩:S34) (zas (zdm rfl (zas (ok':=fun k_=>((fun _=>True)) k_∧some k_≠(u3:Value).ownBlock) (zcc (HO407.out) (zcl HO_3.out) (by decide)) (fun k_ hk=>⟨trivial,hk.2⟩))) (fun _ h_=>h_)));(case aB=>exact bq);(case aF=>exact(fun _ _=>trivial));(case aO=>exact(by(with_reducible repeat(first | apply zcn | apply zco | apply zcw));exact zca HO_3.out (fun k_ hk=>⟨trivial,fun e_=>hk.2 e_⟩)));(case aS=>exact(zav bq));(case aL=>have:=LMc7.out;omega);intro v409 w9 ho hb hg hat;rw[← Ny408.out] at ho;have n_:=jA2 (hb) (ho);clear HB HO_3 HO407;obtain⟨HB,HO410⟩:=n_;clear ho hb hg hat))
      go_roundg k1
      case measure=>have:=HK1.out;omega
      case rel=>exact⟨(y408),(wrap64 (x4_1+1)),jer,H',⟨by have:=HK1.out;omega⟩,⟨pS HO410.out⟩,⟨bq⟩⟩
     rw[if_neg c7] at H
     exact absurd H (by simp)
    rw[if_neg c5] at H
    exact absurd H (by simp)
   rw[if_neg c4] at H
   have c4b0:=zaw c4
   clear c4
   obtain rfl:=Option.some.inj H
   go_wp2
   go_ret
   exact⟨_,jex,by(with_reducible repeat(first | apply zcn | apply zco | apply zcw));exact HO_3.out,bq⟩
end Go.Proofs.Ytlalkldjpniakaa.P
