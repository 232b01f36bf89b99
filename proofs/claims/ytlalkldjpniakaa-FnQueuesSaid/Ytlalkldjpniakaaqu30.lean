import Derived.Test.Ytlalkldjpniakaaqu22
import Derived.Test.Ytlalkldjpniakaaqu29
namespace Go.Proofs.Ytlalkldjpniakaa.P
open Go.RowKit Go.Proofs.YtlalkldjpniakaaW.PrintWords Go.Proofs.YtlalkldjpniakaaW.PrintLast Go.Proofs.YtlalkldjpniakaaW.PrintMore
attribute [local go_sem] zbr zbs zch zci zbk zbl zbt zbu -- for this text's walks alone
set_option linter.unusedVariables false
set_option linter.unusedSimpArgs false
set_option maxHeartbeats 8000000
set_option maxRecDepth 100000

def putI (a:ByteArray) (n:Int) (t:List S34):List S34:=if n>0 then t.filter (fun x=> !likeI a n x) else t
def impl_Put.f (k:Nat) (l0:List (S34)) (a1_0:ByteArray) (a1_1:Int) (a1_2:Int) (l1_3:List Int):Option ((List (S34))×Bool):=(impl_cloneItems.f k l0).bind fun t=>(impl_cloneItem.f a1_0 a1_1 a1_2 l1_3).bind fun u=>if(putI a1_0 a1_1 t).length<2513169434916 then((impl_QueueOk.f k (putI a1_0 a1_1 t++[(⟨u.1,u.2.1,u.2.2.1,u.2.2.2⟩:S34)])).bind fun b=>if b=true then some (putI a1_0 a1_1 t++[(⟨u.1,u.2.1,u.2.2.1,u.2.2.2⟩:S34)],true) else some (t,false)) else none
theorem impl_Put.mono:∀ a0 a1 a2 a3 a4 k,LeO (impl_Put.f k a0 a1 a2 a3 a4) (impl_Put.f (k+1) a0 a1 a2 a3 a4):=by
 intro a0 a1 a2 a3 a4 k
 unfold impl_Put.f
 refine LeO.bind (impl_cloneItems.mono _ _) (fun _=>LeO.bind (LeO.refl _) (fun _=>LeO.ite (LeO.bind (impl_QueueOk.mono _ _) (fun _=>LeO.refl _)) (LeO.refl _)))
theorem impl_Put.calls (k:Nat) (A0:Option Addr) (c0:Nat) (l0:List (S34)) (a1_0:ByteArray) (a1_1:Int) (a1_2:Int) (A1_3:Option Addr) (c1_3:Nat) (l1_3:List Int) (r1:List (S34)) (r2:Bool) (w:World) (hr0:Kd.C k34 w A0 l0.length l0) (hc0:l0.length≤c0) (hr1_3:Kd.C (Kd.int .u8) w A1_3 l1_3.length l1_3) (hc1_3:l1_3.length≤c1_3) (h:impl_Put.f k l0 a1_0 a1_1 a1_2 l1_3=some (r1,r2)):
  Calls Try.prog 60 #[.slice A0 l0.length c0, .agg #[.string a1_0, .int .i64 a1_1, .int .i64 a1_2, .slice A1_3 l1_3.length c1_3]] w fun e w'=>∃ v0_:Value,e= .returned (.tuple #[v0_, .bool r2])∧Kd.S k34 34 w' w.heap.size (fun _=>True) v0_ r1∧Below w.heap.size w w':=by
 have hu34:=Try.underlying34
 have eg:∀ args w,(callFunc 120 args).run Try.prog w= .ok (.enter 120 args) w:=enters_of Try.func120 (by kernel_rfl) rfl
 unfold impl_Put.f at h
 replace h:=zdg.1 h
 obtain⟨t,ht,h⟩:=h
 replace h:=zdg.1 h
 obtain⟨u,hu,h⟩:=h
 obtain⟨u1,u2,u3,u4⟩:=u
 by_cases hlt:(putI a1_0 a1_1 t).length<2513169434916
 ·rw[if_pos hlt] at h
  replace h:=zdg.1 h
  obtain⟨b,hb,h⟩:=h
  have HR:=Aside0.mk hr0
  have HC:=Aside0.mk hc0
  have HR3:=Aside0.mk hr1_3
  have HC3:=Aside0.mk hc1_3
  have F:=Aside0.mk ht
  have FU:=Aside0.mk hu
  have FB:=Aside0.mk hb
  have HLT:=Aside0.mk hlt
  have hbox:(w.alloc (.cells #[.string a1_0, .int .i64 a1_1, .int .i64 a1_2, .slice A1_3 l1_3.length c1_3] 34)).heap.size=w.heap.size+1:=by simp
  have HBX:=Aside0.mk hbox
  have HB0:=Aside0.mk ((zbe _ w).alloc (zbc _) (.cells #[.string a1_0, .int .i64 a1_1, .int .i64 a1_2, .slice A1_3 l1_3.length c1_3] 34))
  clear ht hu hb hr0 hc0 hr1_3 hc1_3 hlt hbox
  by_cases hp:a1_1>0
  ·have hpi:putI a1_0 a1_1 t=t.filter (fun x=> !likeI a1_0 a1_1 x):=if_pos hp
   rw[hpi] at HLT FB h
   clear hpi
   generalize hl9:t.filter (fun x=> !likeI a1_0 a1_1 x)=t9 at HLT FB h
   have HL9:=Aside0.mk hl9
   clear hl9
   generalize htt:t9++[(⟨u1,u2,u3,u4⟩:S34)]=TT at FB h
   have HTT:=Aside0.mk htt
   clear htt
   cases b with
   | true=>
    rw[if_pos rfl] at h
    have h:=Option.some.inj h
    simp only[zay] at h
    obtain⟨rfl,rfl⟩:=h
    go_enter Try.func60,Try.ntmps60
    go_wp2_with (first | (go_at_call 96;refine(impl_cloneItems.calls k _ c0 l0 t _ (zdo HR.out _) HC.out F.out).mono ?_;rintro e w2 ⟨v2,rfl,ho,hb2⟩;have HS2:=Aside0.mk (zdf (zca (zeq ho) (fun k_ hk_=>(by have h1:=HBX.out;have h2:=hk_.2.1;omega:w.heap.size<k_))) HB0.out.size);have HB2:=Aside0.mk (zah HB0.out hb2);have HT2:=Aside0.mk ((hb2.block w.heap.size (by have h1:=HBX.out;omega)).trans (heap_alloc_new w (.cells #[.string a1_0, .int .i64 a1_1, .int .i64 a1_2, .slice A1_3 l1_3.length c1_3] 34)));have HW2:=Aside0.mk ((Array.getElem?_eq_some_iff.1 HT2.out).1);obtain⟨b0,b1,b2,b3⟩:=cells_of_block HT2.out;clear ho hb2;obtain⟨A1,c1,e1⟩:=zbh (Kd.S_R HS2.out);subst e1) | (go_at_call 95;refine(items_delete (likeI a1_0 a1_1) _ _ w.heap.size _ (put_pred a1_0 a1_1 a1_2 _ w.heap.size) eg A1 c1 t w2 _ _ HS2.out HT2.out (fun e_=>by have h1:=(Kd.S_R HS2.out).1 _ e_.symm;omega)).mono ?_;rintro e w3 ⟨v3,rfl,hs,hg,hv⟩;rw[HL9.out] at hs;have HS3:=Aside0.mk hs;have HB3:=Aside0.mk (zdx HB2.out _ HB2.out.size hg (fun k_ hk_=>Nat.le_of_lt ((Kd.S_R HS2.out).1 k_ hk_)));have HT3:=Aside0.mk ((hg.block _ HW2.out (fun e_=>by have h1:=(Kd.S_R HS2.out).1 _ e_.symm;omega)).trans HT2.out);have HW3:=Aside0.mk ((Array.getElem?_eq_some_iff.1 HT3.out).1);clear hs hg hv b0 b1 b2 b3;obtain⟨b0,b1,b2,b3⟩:=cells_of_block HT3.out) | (go_at_call 104;refine(impl_cloneItem.calls a1_0 a1_1 a1_2 A1_3 c1_3 l1_3 u1 u2 u3 u4 w3 (zcu HR3.out HB3.out) HC3.out FU.out).mono ?_;rintro e w4 ⟨v4,rfl,ho,hb4⟩;have HB4:=Aside0.mk (zah HB3.out hb4);have HR4:=Aside0.mk (zbf (zas (Kd.R_bound ho) (fun k_ hk_=>hk_.2.1)) HB3.out.size);have HS4:=Aside0.mk (zca (zei (zeq HS3.out) hb4) (fun k_ hk_=>(⟨hk_.1,fun e=>by have h1:=zcp ho k_ e.symm;have h2:=hk_.2.2.1;omega⟩:w.heap.size<k_∧some k_≠v4.ownBlock)));have HW4:=Aside0.mk (zcm HW3.out hb4.size);clear ho hb4;obtain⟨A4,c4,e4⟩:=zbh HR4.out;subst e4) | ((with_reducible refine zbz (b:= .append) (xs:= #[.tmp 15, .tmp 18]) rfl ?_);at_builtin;refine zdj k34 (w0:=w) w.heap.size rfl (.tmp 15) (.tmp 18) 25 34 (.agg #[(.string ⟨#[]⟩),(.int .i64 0),(.int .i64 0),(.slice none 0 0)]) 56 rfl Try.underlying25 info34 rfl (by decide) (by omega) v3 t9 (⟨u1,u2,u3,u4⟩:S34) [.string u1, .int .i64 u2, .int .i64 u3, .slice A4 u4.length c4] (fun k_=>w.heap.size<k_) (fun k_=>some k_=(.slice A4 u4.length c4:Value).ownBlock) rfl rfl ?aP ?aK ?aF ?aO ?aB ?aS ?aL ?_;(case aP=>exact k34_mkM _ _ _ (⟨u1,u2,u3,u4⟩:S34) (zdm rfl HR4.out));(case aK=>intro k_ hk_;exact⟨zcm HW3.out (HR4.out.1 k_ hk_.symm),fun e_=>by have h1:=HR4.out.1 k_ hk_.symm;have h2:=Kd.S_lt HS3.out k_ e_.symm;omega⟩);(case aF=>intro k_ hk_;exact zcm HW4.out hk_);(case aO=>exact HS4.out);(case aB=>exact HB4.out);(case aS=>exact HB4.out.size);(case aL=>have h1:=HLT.out;omega);intro v5 w5 ho hb hg hat;rw[HTT.out] at ho;have HS5:=Aside0.mk ho;have HB5:=Aside0.mk hb;clear ho hb hg hat;obtain⟨A5,c5,e5⟩:=zbh (Kd.S_R HS5.out);subst e5) | (go_at_call 43;refine(impl_QueueOk.calls k A5 c5 TT _ w5 (zeg HS5.out).2.2 (zeg HS5.out).2.1 FB.out).mono ?_;rintro e w6 ⟨rfl,hb6⟩;have HS6:=Aside0.mk (zei HS5.out hb6);have HB6:=Aside0.mk (zah HB5.out hb6);clear hb6))
    go_ret2
    exact⟨_,rfl,zca HS6.out (fun _ _=>trivial),HB6.out⟩
   | false=>
    rw[if_neg (by simp)] at h
    have h:=Option.some.inj h
    simp only[zay] at h
    obtain⟨rfl,rfl⟩:=h
    go_enter Try.func60,Try.ntmps60
    go_wp2_with (first | (have HB6_:=HB6.out;go_at_call 96;refine(impl_cloneItems.calls k _ c0 l0 _ w6 (zcu HR.out HB6_) HC.out F.out).mono ?_;rintro e w7 ⟨v7,rfl,ho,hb7⟩;have HS7:=Aside0.mk ho;have HB7:=Aside0.mk (zah HB6_ hb7);clear ho hb7) | (go_at_call 96;refine(impl_cloneItems.calls k _ c0 l0 t _ (zdo HR.out _) HC.out F.out).mono ?_;rintro e w2 ⟨v2,rfl,ho,hb2⟩;have HS2:=Aside0.mk (zdf (zca (zeq ho) (fun k_ hk_=>(by have h1:=HBX.out;have h2:=hk_.2.1;omega:w.heap.size<k_))) HB0.out.size);have HB2:=Aside0.mk (zah HB0.out hb2);have HT2:=Aside0.mk ((hb2.block w.heap.size (by have h1:=HBX.out;omega)).trans (heap_alloc_new w (.cells #[.string a1_0, .int .i64 a1_1, .int .i64 a1_2, .slice A1_3 l1_3.length c1_3] 34)));have HW2:=Aside0.mk ((Array.getElem?_eq_some_iff.1 HT2.out).1);obtain⟨b0,b1,b2,b3⟩:=cells_of_block HT2.out;clear ho hb2;obtain⟨A1,c1,e1⟩:=zbh (Kd.S_R HS2.out);subst e1) | (go_at_call 95;refine(items_delete (likeI a1_0 a1_1) _ _ w.heap.size _ (put_pred a1_0 a1_1 a1_2 _ w.heap.size) eg A1 c1 t w2 _ _ HS2.out HT2.out (fun e_=>by have h1:=(Kd.S_R HS2.out).1 _ e_.symm;omega)).mono ?_;rintro e w3 ⟨v3,rfl,hs,hg,hv⟩;rw[HL9.out] at hs;have HS3:=Aside0.mk hs;have HB3:=Aside0.mk (zdx HB2.out _ HB2.out.size hg (fun k_ hk_=>Nat.le_of_lt ((Kd.S_R HS2.out).1 k_ hk_)));have HT3:=Aside0.mk ((hg.block _ HW2.out (fun e_=>by have h1:=(Kd.S_R HS2.out).1 _ e_.symm;omega)).trans HT2.out);have HW3:=Aside0.mk ((Array.getElem?_eq_some_iff.1 HT3.out).1);clear hs hg hv b0 b1 b2 b3;obtain⟨b0,b1,b2,b3⟩:=cells_of_block HT3.out) | (go_at_call 104;refine(impl_cloneItem.calls a1_0 a1_1 a1_2 A1_3 c1_3 l1_3 u1 u2 u3 u4 w3 (zcu HR3.out HB3.out) HC3.out FU.out).mono ?_;rintro e w4 ⟨v4,rfl,ho,hb4⟩;have HB4:=Aside0.mk (zah HB3.out hb4);have HR4:=Aside0.mk (zbf (zas (Kd.R_bound ho) (fun k_ hk_=>hk_.2.1)) HB3.out.size);have HS4:=Aside0.mk (zca (zei (zeq HS3.out) hb4) (fun k_ hk_=>(⟨hk_.1,fun e=>by have h1:=zcp ho k_ e.symm;have h2:=hk_.2.2.1;omega⟩:w.heap.size<k_∧some k_≠v4.ownBlock)));have HW4:=Aside0.mk (zcm HW3.out hb4.size);clear ho hb4;obtain⟨A4,c4,e4⟩:=zbh HR4.out;subst e4) | ((with_reducible refine zbz (b:= .append) (xs:= #[.tmp 15, .tmp 18]) rfl ?_);at_builtin;refine zdj k34 (w0:=w) w.heap.size rfl (.tmp 15) (.tmp 18) 25 34 (.agg #[(.string ⟨#[]⟩),(.int .i64 0),(.int .i64 0),(.slice none 0 0)]) 56 rfl Try.underlying25 info34 rfl (by decide) (by omega) v3 t9 (⟨u1,u2,u3,u4⟩:S34) [.string u1, .int .i64 u2, .int .i64 u3, .slice A4 u4.length c4] (fun k_=>w.heap.size<k_) (fun k_=>some k_=(.slice A4 u4.length c4:Value).ownBlock) rfl rfl ?aP ?aK ?aF ?aO ?aB ?aS ?aL ?_;(case aP=>exact k34_mkM _ _ _ (⟨u1,u2,u3,u4⟩:S34) (zdm rfl HR4.out));(case aK=>intro k_ hk_;exact⟨zcm HW3.out (HR4.out.1 k_ hk_.symm),fun e_=>by have h1:=HR4.out.1 k_ hk_.symm;have h2:=Kd.S_lt HS3.out k_ e_.symm;omega⟩);(case aF=>intro k_ hk_;exact zcm HW4.out hk_);(case aO=>exact HS4.out);(case aB=>exact HB4.out);(case aS=>exact HB4.out.size);(case aL=>have h1:=HLT.out;omega);intro v5 w5 ho hb hg hat;rw[HTT.out] at ho;have HS5:=Aside0.mk ho;have HB5:=Aside0.mk hb;clear ho hb hg hat;obtain⟨A5,c5,e5⟩:=zbh (Kd.S_R HS5.out);subst e5) | (go_at_call 43;refine(impl_QueueOk.calls k A5 c5 TT _ w5 (zeg HS5.out).2.2 (zeg HS5.out).2.1 FB.out).mono ?_;rintro e w6 ⟨rfl,hb6⟩;have HS6:=Aside0.mk (zei HS5.out hb6);have HB6:=Aside0.mk (zah HB5.out hb6);clear hb6))
    go_ret2
    exact⟨_,rfl,zdf HS7.out HB6.out.size,HB7.out⟩
  have hpi:putI a1_0 a1_1 t=t:=if_neg hp
  rw[hpi] at HLT FB h
  clear hpi
  generalize htt:t++[(⟨u1,u2,u3,u4⟩:S34)]=TT at FB h
  have HTT:=Aside0.mk htt
  clear htt
  cases b with
  | true=>
   rw[if_pos rfl] at h
   have h:=Option.some.inj h
   simp only[zay] at h
   obtain⟨rfl,rfl⟩:=h
   go_enter Try.func60,Try.ntmps60
   go_wp2_with (first | (go_at_call 96;refine(impl_cloneItems.calls k _ c0 l0 t _ (zdo HR.out _) HC.out F.out).mono ?_;rintro e w3 ⟨v3,rfl,ho,hb2⟩;have HS3:=Aside0.mk (zdf (zca (zeq ho) (fun k_ hk_=>(by have h1:=HBX.out;have h2:=hk_.2.1;omega:w.heap.size<k_))) HB0.out.size);have HB3:=Aside0.mk (zah HB0.out hb2);have HT3:=Aside0.mk ((hb2.block w.heap.size (by have h1:=HBX.out;omega)).trans (heap_alloc_new w (.cells #[.string a1_0, .int .i64 a1_1, .int .i64 a1_2, .slice A1_3 l1_3.length c1_3] 34)));have HW3:=Aside0.mk ((Array.getElem?_eq_some_iff.1 HT3.out).1);obtain⟨b0,b1,b2,b3⟩:=cells_of_block HT3.out;clear ho hb2) | (go_at_call 104;refine(impl_cloneItem.calls a1_0 a1_1 a1_2 A1_3 c1_3 l1_3 u1 u2 u3 u4 w3 (zcu HR3.out HB3.out) HC3.out FU.out).mono ?_;rintro e w4 ⟨v4,rfl,ho,hb4⟩;have HB4:=Aside0.mk (zah HB3.out hb4);have HR4:=Aside0.mk (zbf (zas (Kd.R_bound ho) (fun k_ hk_=>hk_.2.1)) HB3.out.size);have HS4:=Aside0.mk (zca (zei (zeq HS3.out) hb4) (fun k_ hk_=>(⟨hk_.1,fun e=>by have h1:=zcp ho k_ e.symm;have h2:=hk_.2.2.1;omega⟩:w.heap.size<k_∧some k_≠v4.ownBlock)));have HW4:=Aside0.mk (zcm HW3.out hb4.size);clear ho hb4;obtain⟨A4,c4,e4⟩:=zbh HR4.out;subst e4) | ((with_reducible refine zbz (b:= .append) (xs:= #[.tmp 15, .tmp 18]) rfl ?_);at_builtin;refine zdj k34 (w0:=w) w.heap.size rfl (.tmp 15) (.tmp 18) 25 34 (.agg #[(.string ⟨#[]⟩),(.int .i64 0),(.int .i64 0),(.slice none 0 0)]) 56 rfl Try.underlying25 info34 rfl (by decide) (by omega) v3 t (⟨u1,u2,u3,u4⟩:S34) [.string u1, .int .i64 u2, .int .i64 u3, .slice A4 u4.length c4] (fun k_=>w.heap.size<k_) (fun k_=>some k_=(.slice A4 u4.length c4:Value).ownBlock) rfl rfl ?aP ?aK ?aF ?aO ?aB ?aS ?aL ?_;(case aP=>exact k34_mkM _ _ _ (⟨u1,u2,u3,u4⟩:S34) (zdm rfl HR4.out));(case aK=>intro k_ hk_;exact⟨zcm HW3.out (HR4.out.1 k_ hk_.symm),fun e_=>by have h1:=HR4.out.1 k_ hk_.symm;have h2:=Kd.S_lt HS3.out k_ e_.symm;omega⟩);(case aF=>intro k_ hk_;exact zcm HW4.out hk_);(case aO=>exact HS4.out);(case aB=>exact HB4.out);(case aS=>exact HB4.out.size);(case aL=>have h1:=HLT.out;omega);intro v5 w5 ho hb hg hat;rw[HTT.out] at ho;have HS5:=Aside0.mk ho;have HB5:=Aside0.mk hb;clear ho hb hg hat;obtain⟨A5,c5,e5⟩:=zbh (Kd.S_R HS5.out);subst e5) | (go_at_call 43;refine(impl_QueueOk.calls k A5 c5 TT _ w5 (zeg HS5.out).2.2 (zeg HS5.out).2.1 FB.out).mono ?_;rintro e w6 ⟨rfl,hb6⟩;have HS6:=Aside0.mk (zei HS5.out hb6);have HB6:=Aside0.mk (zah HB5.out hb6);clear hb6))
   go_ret2
   exact⟨_,rfl,zca HS6.out (fun _ _=>trivial),HB6.out⟩
  | false=>
   rw[if_neg (by simp)] at h
   have h:=Option.some.inj h
   simp only[zay] at h
   obtain⟨rfl,rfl⟩:=h
   go_enter Try.func60,Try.ntmps60
   go_wp2_with (first | (have HB6_:=HB6.out;go_at_call 96;refine(impl_cloneItems.calls k _ c0 l0 _ w6 (zcu HR.out HB6_) HC.out F.out).mono ?_;rintro e w7 ⟨v7,rfl,ho,hb7⟩;have HS7:=Aside0.mk ho;have HB7:=Aside0.mk (zah HB6_ hb7);clear ho hb7) | (go_at_call 96;refine(impl_cloneItems.calls k _ c0 l0 t _ (zdo HR.out _) HC.out F.out).mono ?_;rintro e w3 ⟨v3,rfl,ho,hb2⟩;have HS3:=Aside0.mk (zdf (zca (zeq ho) (fun k_ hk_=>(by have h1:=HBX.out;have h2:=hk_.2.1;omega:w.heap.size<k_))) HB0.out.size);have HB3:=Aside0.mk (zah HB0.out hb2);have HT3:=Aside0.mk ((hb2.block w.heap.size (by have h1:=HBX.out;omega)).trans (heap_alloc_new w (.cells #[.string a1_0, .int .i64 a1_1, .int .i64 a1_2, .slice A1_3 l1_3.length c1_3] 34)));have HW3:=Aside0.mk ((Array.getElem?_eq_some_iff.1 HT3.out).1);obtain⟨b0,b1,b2,b3⟩:=cells_of_block HT3.out;clear ho hb2) | (go_at_call 104;refine(impl_cloneItem.calls a1_0 a1_1 a1_2 A1_3 c1_3 l1_3 u1 u2 u3 u4 w3 (zcu HR3.out HB3.out) HC3.out FU.out).mono ?_;rintro e w4 ⟨v4,rfl,ho,hb4⟩;have HB4:=Aside0.mk (zah HB3.out hb4);have HR4:=Aside0.mk (zbf (zas (Kd.R_bound ho) (fun k_ hk_=>hk_.2.1)) HB3.out.size);have HS4:=Aside0.mk (zca (zei (zeq HS3.out) hb4) (fun k_ hk_=>(⟨hk_.1,fun e=>by have h1:=zcp ho k_ e.symm;have h2:=hk_.2.2.1;omega⟩:w.heap.size<k_∧some k_≠v4.ownBlock)));have HW4:=Aside0.mk (zcm HW3.out hb4.size);clear ho hb4;obtain⟨A4,c4,e4⟩:=zbh HR4.out;subst e4) | ((with_reducible refine zbz (b:= .append) (xs:= #[.tmp 15, .tmp 18]) rfl ?_);at_builtin;refine zdj k34 (w0:=w) w.heap.size rfl (.tmp 15) (.tmp 18) 25 34 (.agg #[(.string ⟨#[]⟩),(.int .i64 0),(.int .i64 0),(.slice none 0 0)]) 56 rfl Try.underlying25 info34 rfl (by decide) (by omega) v3 t (⟨u1,u2,u3,u4⟩:S34) [.string u1, .int .i64 u2, .int .i64 u3, .slice A4 u4.length c4] (fun k_=>w.heap.size<k_) (fun k_=>some k_=(.slice A4 u4.length c4:Value).ownBlock) rfl rfl ?aP ?aK ?aF ?aO ?aB ?aS ?aL ?_;(case aP=>exact k34_mkM _ _ _ (⟨u1,u2,u3,u4⟩:S34) (zdm rfl HR4.out));(case aK=>intro k_ hk_;exact⟨zcm HW3.out (HR4.out.1 k_ hk_.symm),fun e_=>by have h1:=HR4.out.1 k_ hk_.symm;have h2:=Kd.S_lt HS3.out k_ e_.symm;omega⟩);(case aF=>intro k_ hk_;exact zcm HW4.out hk_);(case aO=>exact HS4.out);(case aB=>exact HB4.out);(case aS=>exact HB4.out.size);(case aL=>have h1:=HLT.out;omega);intro v5 w5 ho hb hg hat;rw[HTT.out] at ho;have HS5:=Aside0.mk ho;have HB5:=Aside0.mk hb;clear ho hb hg hat;obtain⟨A5,c5,e5⟩:=zbh (Kd.S_R HS5.out);subst e5) | (go_at_call 43;refine(impl_QueueOk.calls k A5 c5 TT _ w5 (zeg HS5.out).2.2 (zeg HS5.out).2.1 FB.out).mono ?_;rintro e w6 ⟨rfl,hb6⟩;have HS6:=Aside0.mk (zei HS5.out hb6);have HB6:=Aside0.mk (zah HB5.out hb6);clear hb6))
   go_ret2
   exact⟨_,rfl,zdf HS7.out HB6.out.size,HB7.out⟩
 rw[if_neg hlt] at h
 cases h
def spec_DrawTake.f (k:Nat) (l0:List Int):Option ((List (S34))×ByteArray):=(spec_l1New.f k l0).bind fun bt934=>((spec_l13Draw.f k bt934.1 bt934.2.1 bt934.2.2).bind fun bt938=>((spec_l13DrawRoute.f bt934.1 bt938.2.1 bt938.2.2).bind fun bt943=>(some (bt938.1,bt943.1))))
theorem spec_DrawTake.mono:∀ a0 k,LeO (spec_DrawTake.f k a0) (spec_DrawTake.f (k+1) a0):=by
 intro a0 k
 unfold spec_DrawTake.f
 have m0:=@spec_l13Draw.mono
 have m1:=@spec_l1New.mono
 exact mt
theorem spec_DrawTake.calls (k:Nat) (A0:Option Addr) (c0:Nat) (l0:List Int) (r1:List (S34)) (r2:ByteArray) (w:World) (hr0:Kd.C (Kd.int .u8) w A0 l0.length l0) (hc0:l0.length≤c0) (h:spec_DrawTake.f k l0=some (r1,r2)):
  Calls Try.prog 62 #[.slice A0 l0.length c0] w fun e w'=>∃ v0_:Value,e= .returned (.tuple #[v0_, .string r2])∧Kd.S k34 34 w' w.heap.size (fun _=>True) v0_ r1∧Below w.heap.size w w':=by
 have HR0:=Aside0.mk hr0
 have HC0:=Aside0.mk hc0
 clear hr0 hc0
 have HB:=Aside0.mk (zbe w.heap.size w)
 have H:((spec_l1New.f k l0).bind fun bt934=>((spec_l13Draw.f k bt934.1 bt934.2.1 bt934.2.2).bind fun bt938=>((spec_l13DrawRoute.f bt934.1 bt938.2.1 bt938.2.2).bind fun bt943=>(some (bt938.1,bt943.1)))))=some (r1,r2):=h
 clear h
 obtain⟨⟨t934,t935,t936⟩,A2,H⟩:=bnd H
 try dsimp only at H
 obtain⟨⟨t938,t941,t942⟩,A3,H⟩:=bnd H
 try dsimp only at H
 obtain⟨⟨t943,t944,t945⟩,A4,H⟩:=bnd H
 try dsimp only at H
 simp only[zax,zay] at H
 obtain⟨rfl,rfl⟩:=H
 go_enter Try.func62,Try.ntmps62
 go_wp2_with (first | (refine jgc 117 ?_;refine jgs 7 Try.func117 #[.slice A0 l0.length c0] ?_;(with_reducible refine(spec_l1New.calls k _ _ l0 t934 t935 t936 w _ ?side1 ?side2 ?side3 A2.out).mono ?_);(case side1=>repeat(first | (with_reducible first | exact HB.out | apply zap | apply zai | apply zan) | exact HB.out));(case side2=>exact HR0.out);(case side3=>exact HC0.out);rintro e w5 ⟨g937,rfl,hi,hb,hb2⟩;refine⟨_,rfl,?_⟩;have n_:=jA2 (hb) (hi);clear HB;obtain⟨HB,HI937⟩:=n_;(try clear hb);(try clear hb2);(try clear hk);(try clear hi)) | (refine jgc 118 ?_;refine jgs 9 Try.func118 #[.pointer (some ⟨g937,0,none⟩)] ?_;(with_reducible refine(spec_l13Draw.calls k g937 t934 t935 t936 t938 t941 t942 w _ ?side1 ?side2 A3.out).mono ?_);(case side1=>repeat(first | (with_reducible first | exact HI937.out | apply IsS132.alloc | apply IsS132.drewN | apply IsS132.drew | apply IsS132.set_1 | apply IsS132.set_2) | exact HI937.out));(case side2=>repeat(first | (with_reducible first | exact HB.out | apply zap | apply zai | apply zan | refine zao ?_ (IsS132.ge HI937.out)) | exact HB.out));rintro e w6 ⟨v939,rfl,ho0,hi,hb,hk⟩;refine⟨_,rfl,?_⟩;have n_:=jA3 (zdf ho0 (zav (bs1 (IsS132.ge HI937.out)))) (hb) (hi);clear HB HI937;obtain⟨HO940,HB,HI937⟩:=n_;clear hb hk hi ho0) | (refine jgc 121 ?_;refine jgs 12 Try.func121 #[.pointer (some ⟨g937,0,none⟩)] ?_;(with_reducible refine(spec_l13DrawRoute.calls g937 t934 t941 t942 t943 t944 t945 w _ ?side1 ?side2 A4.out).mono ?_);(case side1=>repeat(first | (with_reducible first | exact HI937.out | apply IsS132.alloc | apply IsS132.drewN | apply IsS132.drew | apply IsS132.set_1 | apply IsS132.set_2) | exact HI937.out));(case side2=>repeat(first | (with_reducible first | exact HB.out | apply zap | apply zai | apply zan | refine zao ?_ (IsS132.ge HI937.out)) | exact HB.out));rintro e w7 ⟨rfl,hi,hb,hk⟩;refine⟨_,rfl,?_⟩;have n_:=jA3 (zca (Kd.S_keep (IsS132.apartS (show IsS132 w _ g937 t934 t941 t942 from by repeat(first | (with_reducible first | exact HI937.out | apply IsS132.alloc | apply IsS132.drewN | apply IsS132.drew | apply IsS132.set_1 | apply IsS132.set_2) | exact HI937.out)) (pS HO940.out) (by decide)) hk (fun _ h=>h.2)) (fun _ h=>h.1)) (hb) (hi);clear HO940 HB HI937;obtain⟨HO940,HB,HI937⟩:=n_;(try clear hb);(try clear hb2);(try clear hk);(try clear hi)))
 go_ret2
 exact⟨_,jex,by(with_reducible repeat(first | apply zcn | apply zco | apply zcw));exact HO940.out,(bs1 (IsS132.ge HI937.out))⟩
end Go.Proofs.Ytlalkldjpniakaa.P
