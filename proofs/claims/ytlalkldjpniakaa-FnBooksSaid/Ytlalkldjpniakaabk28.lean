import Derived.Test.Ytlalkldjpniakaabk27
namespace Go.Proofs.Ytlalkldjpniakaa.P
open Go.RowKit Go.Proofs.YtlalkldjpniakaaW.PrintWords Go.Proofs.YtlalkldjpniakaaW.PrintLast Go.Proofs.YtlalkldjpniakaaW.PrintMore
attribute [local go_sem] zck zcl zdl zdm zbz zca zcm zcn -- for this text's walks alone
set_option linter.unusedVariables false
set_option linter.unusedSimpArgs false

def putI (a:ByteArray) (n:Int) (t:List S34):List S34:=if n>0 then t.filter (fun x=> !likeI a n x) else t
def impl_Put.f (k:Nat) (l0:List (S34)) (a1_0:ByteArray) (a1_1:Int) (a1_2:Int) (l1_3:List Int):Option ((List (S34))×Bool):=(impl_cloneItems.f k l0).bind fun t=>(impl_cloneItem.f a1_0 a1_1 a1_2 l1_3).bind fun u=>if(putI a1_0 a1_1 t).length<2513169434916 then((impl_QueueOk.f k (putI a1_0 a1_1 t++[(⟨u.1,u.2.1,u.2.2.1,u.2.2.2⟩:S34)])).bind fun b=>if b=true then some (putI a1_0 a1_1 t++[(⟨u.1,u.2.1,u.2.2.1,u.2.2.2⟩:S34)],true) else some (t,false)) else none
theorem impl_Put.mono:∀ a0 a1 a2 a3 a4 k,LeO (impl_Put.f k a0 a1 a2 a3 a4) (impl_Put.f (k+1) a0 a1 a2 a3 a4):=by
 intro a0 a1 a2 a3 a4 k
 unfold impl_Put.f
 refine LeO.bind (impl_cloneItems.mono _ _) (fun _=>LeO.bind (LeO.refl _) (fun _=>LeO.ite (LeO.bind (impl_QueueOk.mono _ _) (fun _=>LeO.refl _)) (LeO.refl _)))
set_option maxHeartbeats 8000000 in
set_option maxRecDepth 100000 in
theorem impl_Put.calls (k:Nat) (A0:Option Addr) (c0:Nat) (l0:List (S34)) (a1_0:ByteArray) (a1_1:Int) (a1_2:Int) (A1_3:Option Addr) (c1_3:Nat) (l1_3:List Int) (r1:List (S34)) (r2:Bool) (w:World) (hr0:Kd.C k34 w A0 l0.length l0) (hc0:l0.length≤c0) (hr1_3:Kd.C (Kd.int .u8) w A1_3 l1_3.length l1_3) (hc1_3:l1_3.length≤c1_3) (h:impl_Put.f k l0 a1_0 a1_1 a1_2 l1_3=some (r1,r2)):
  Calls Try.prog 60 #[.slice A0 l0.length c0, .agg #[.string a1_0, .int .i64 a1_1, .int .i64 a1_2, .slice A1_3 l1_3.length c1_3]] w fun e w'=>∃ v0_:Value,e= .returned (.tuple #[v0_, .bool r2])∧Kd.S k34 34 w' w.heap.size (fun _=>True) v0_ r1∧Below w.heap.size w w':=by
 have hu34:=Try.underlying34
 have eg:∀ args w,(callFunc 120 args).run Try.prog w= .ok (.enter 120 args) w:=enters_of Try.func120 (by kernel_rfl) rfl
 unfold impl_Put.f at h
 replace h:=zcq.1 h
 obtain⟨t,ht,h⟩:=h
 replace h:=zcq.1 h
 obtain⟨u,hu,h⟩:=h
 obtain⟨u1,u2,u3,u4⟩:=u
 by_cases hlt:(putI a1_0 a1_1 t).length<2513169434916
 ·rw[if_pos hlt] at h
  replace h:=zcq.1 h
  obtain⟨b,hb,h⟩:=h
  have HR:=Aside0.mk hr0
  have HC:=Aside0.mk hc0
  have HR3:=Aside0.mk hr1_3
  have G0:=Aside0.mk hc1_3
  have F:=Aside0.mk ht
  have FU:=Aside0.mk hu
  have FB:=Aside0.mk hb
  have HLT:=Aside0.mk hlt
  have hbox:(w.alloc (.cells #[.string a1_0, .int .i64 a1_1, .int .i64 a1_2, .slice A1_3 l1_3.length c1_3] 34)).heap.size=w.heap.size+1:=by simp
  have HBX:=Aside0.mk hbox
  have HB0:=Aside0.mk ((zbo _ w).alloc (zaf _) (.cells #[.string a1_0, .int .i64 a1_1, .int .i64 a1_2, .slice A1_3 l1_3.length c1_3] 34))
  clear ht hu hb hr0 hc0 hr1_3 hc1_3 hlt hbox
  by_cases hp:a1_1>0
  ·have hpi:putI a1_0 a1_1 t=t.filter (fun x=> !likeI a1_0 a1_1 x):=if_pos hp
   rw[hpi] at HLT FB h
   clear hpi
   generalize H0:t.filter (fun x=> !likeI a1_0 a1_1 x)=t9 at HLT FB h
   have I0:=Aside0.mk H0
   clear H0
   generalize htt:t9++[(⟨u1,u2,u3,u4⟩:S34)]=TT at FB h
   have HTT:=Aside0.mk htt
   clear htt
   cases b with
   | true=>
    rw[if_pos rfl] at h
    have h:=Option.some.inj h
    simp only[zbn] at h
    obtain⟨rfl,rfl⟩:=h
    go_enter Try.func60,Try.ntmps60
    go_wp2_with (first | (go_at_call 96;refine(impl_cloneItems.calls k _ c0 l0 t _ (zdd HR.out _) HC.out F.out).mono ?_;rintro e w2 ⟨v2,rfl,ho,hb2⟩;have HS2:=Aside0.mk (zfz (zdw (zgy ho) (fun k_ hk_=>(by have h1:=HBX.out;have h2:=hk_.2.1;omega:w.heap.size<k_))) HB0.out.size);have HB2:=Aside0.mk (zac HB0.out hb2);have HT2:=Aside0.mk ((hb2.block w.heap.size (by have h1:=HBX.out;omega)).trans (zgp w (.cells #[.string a1_0, .int .i64 a1_1, .int .i64 a1_2, .slice A1_3 l1_3.length c1_3] 34)));have HW2:=Aside0.mk ((Array.getElem?_eq_some_iff.1 HT2.out).1);obtain⟨b0,b1,b2,b3⟩:=cells_of_block HT2.out;clear ho hb2;obtain⟨A1,c1,e1⟩:=zbd (Kd.S_R HS2.out);subst e1) | (go_at_call 95;refine(items_delete (likeI a1_0 a1_1) _ _ w.heap.size _ (put_pred a1_0 a1_1 a1_2 _ w.heap.size) eg A1 c1 t w2 _ _ HS2.out HT2.out (fun e_=>by have h1:=(Kd.S_R HS2.out).1 _ e_.symm;omega)).mono ?_;rintro e w3 ⟨v3,rfl,hs,hg,hv⟩;rw[I0.out] at hs;have HS3:=Aside0.mk hs;have B0:=Aside0.mk (zcw HB2.out _ HB2.out.size hg (fun k_ hk_=>Nat.le_of_lt ((Kd.S_R HS2.out).1 k_ hk_)));have HT3:=Aside0.mk ((hg.block _ HW2.out (fun e_=>by have h1:=(Kd.S_R HS2.out).1 _ e_.symm;omega)).trans HT2.out);have HW3:=Aside0.mk ((Array.getElem?_eq_some_iff.1 HT3.out).1);clear hs hg hv b0 b1 b2 b3;obtain⟨b0,b1,b2,b3⟩:=cells_of_block HT3.out) | (go_at_call 104;refine(impl_cloneItem.calls a1_0 a1_1 a1_2 A1_3 c1_3 l1_3 u1 u2 u3 u4 w3 (zbc HR3.out B0.out) G0.out FU.out).mono ?_;rintro e w4 ⟨v4,rfl,ho,hb4⟩;have C0:=Aside0.mk (zac B0.out hb4);have o0:=Aside0.mk (zax (zam (Kd.R_bound ho) (fun k_ hk_=>hk_.2.1)) B0.out.size);have HS4:=Aside0.mk (zdw (zfp (zgy HS3.out) hb4) (fun k_ hk_=>(⟨hk_.1,fun e=>by have h1:=zbg ho k_ e.symm;have h2:=hk_.2.2.1;omega⟩:w.heap.size<k_∧some k_≠v4.ownBlock)));have HW4:=Aside0.mk (zch HW3.out hb4.size);clear ho hb4;obtain⟨A4,c4,e4⟩:=zbd o0.out;subst e4) | ((with_reducible refine zcd (b:= .append) (xs:= #[.tmp 15, .tmp 18]) rfl ?_);at_builtin;refine zfm k34 (w0:=w) w.heap.size rfl (.tmp 15) (.tmp 18) 25 34 (.agg #[(.string ⟨#[]⟩),(.int .i64 0),(.int .i64 0),(.slice none 0 0)]) 56 rfl Try.underlying25 info34 rfl (by decide) (by omega) v3 t9 (⟨u1,u2,u3,u4⟩:S34) [.string u1, .int .i64 u2, .int .i64 u3, .slice A4 u4.length c4] (fun k_=>w.heap.size<k_) (fun k_=>some k_=(.slice A4 u4.length c4:Value).ownBlock) rfl rfl ?aP ?aK ?aF ?aO ?aB ?aS ?aL ?_;(case aP=>exact k34_mkM _ _ _ (⟨u1,u2,u3,u4⟩:S34) (zfv rfl o0.out));(case aK=>intro k_ hk_;exact⟨zch HW3.out (o0.out.1 k_ hk_.symm),fun e_=>by have h1:=o0.out.1 k_ hk_.symm;have h2:=Kd.S_lt HS3.out k_ e_.symm;omega⟩);(case aF=>intro k_ hk_;exact zch HW4.out hk_);(case aO=>exact HS4.out);(case aB=>exact C0.out);(case aS=>exact C0.out.size);(case aL=>have h1:=HLT.out;omega);intro v5 w5 ho hb hg hat;rw[HTT.out] at ho;have HS5:=Aside0.mk ho;have F0:=Aside0.mk hb;clear ho hb hg hat;obtain⟨A5,c5,e5⟩:=zbd (Kd.S_R HS5.out);subst e5) | (go_at_call 43;refine(impl_QueueOk.calls k A5 c5 TT _ w5 (zfn HS5.out).2.2 (zfn HS5.out).2.1 FB.out).mono ?_;rintro e w6 ⟨rfl,hb6⟩;have HS6:=Aside0.mk (zfp HS5.out hb6);have E0:=Aside0.mk (zac F0.out hb6);clear hb6))
    go_ret2
    exact⟨_,rfl,zdw HS6.out (fun _ _=>trivial),E0.out⟩
   | false=>
    rw[if_neg (by simp)] at h
    have h:=Option.some.inj h
    simp only[zbn] at h
    obtain⟨rfl,rfl⟩:=h
    go_enter Try.func60,Try.ntmps60
    go_wp2_with (first | (have D0:=E0.out;go_at_call 96;refine(impl_cloneItems.calls k _ c0 l0 _ w6 (zbc HR.out D0) HC.out F.out).mono ?_;rintro e w7 ⟨v7,rfl,ho,hb7⟩;have HS7:=Aside0.mk ho;have HB7:=Aside0.mk (zac D0 hb7);clear ho hb7) | (go_at_call 96;refine(impl_cloneItems.calls k _ c0 l0 t _ (zdd HR.out _) HC.out F.out).mono ?_;rintro e w2 ⟨v2,rfl,ho,hb2⟩;have HS2:=Aside0.mk (zfz (zdw (zgy ho) (fun k_ hk_=>(by have h1:=HBX.out;have h2:=hk_.2.1;omega:w.heap.size<k_))) HB0.out.size);have HB2:=Aside0.mk (zac HB0.out hb2);have HT2:=Aside0.mk ((hb2.block w.heap.size (by have h1:=HBX.out;omega)).trans (zgp w (.cells #[.string a1_0, .int .i64 a1_1, .int .i64 a1_2, .slice A1_3 l1_3.length c1_3] 34)));have HW2:=Aside0.mk ((Array.getElem?_eq_some_iff.1 HT2.out).1);obtain⟨b0,b1,b2,b3⟩:=cells_of_block HT2.out;clear ho hb2;obtain⟨A1,c1,e1⟩:=zbd (Kd.S_R HS2.out);subst e1) | (go_at_call 95;refine(items_delete (likeI a1_0 a1_1) _ _ w.heap.size _ (put_pred a1_0 a1_1 a1_2 _ w.heap.size) eg A1 c1 t w2 _ _ HS2.out HT2.out (fun e_=>by have h1:=(Kd.S_R HS2.out).1 _ e_.symm;omega)).mono ?_;rintro e w3 ⟨v3,rfl,hs,hg,hv⟩;rw[I0.out] at hs;have HS3:=Aside0.mk hs;have B0:=Aside0.mk (zcw HB2.out _ HB2.out.size hg (fun k_ hk_=>Nat.le_of_lt ((Kd.S_R HS2.out).1 k_ hk_)));have HT3:=Aside0.mk ((hg.block _ HW2.out (fun e_=>by have h1:=(Kd.S_R HS2.out).1 _ e_.symm;omega)).trans HT2.out);have HW3:=Aside0.mk ((Array.getElem?_eq_some_iff.1 HT3.out).1);clear hs hg hv b0 b1 b2 b3;obtain⟨b0,b1,b2,b3⟩:=cells_of_block HT3.out) | (go_at_call 104;refine(impl_cloneItem.calls a1_0 a1_1 a1_2 A1_3 c1_3 l1_3 u1 u2 u3 u4 w3 (zbc HR3.out B0.out) G0.out FU.out).mono ?_;rintro e w4 ⟨v4,rfl,ho,hb4⟩;have C0:=Aside0.mk (zac B0.out hb4);have o0:=Aside0.mk (zax (zam (Kd.R_bound ho) (fun k_ hk_=>hk_.2.1)) B0.out.size);have HS4:=Aside0.mk (zdw (zfp (zgy HS3.out) hb4) (fun k_ hk_=>(⟨hk_.1,fun e=>by have h1:=zbg ho k_ e.symm;have h2:=hk_.2.2.1;omega⟩:w.heap.size<k_∧some k_≠v4.ownBlock)));have HW4:=Aside0.mk (zch HW3.out hb4.size);clear ho hb4;obtain⟨A4,c4,e4⟩:=zbd o0.out;subst e4) | ((with_reducible refine zcd (b:= .append) (xs:= #[.tmp 15, .tmp 18]) rfl ?_);at_builtin;refine zfm k34 (w0:=w) w.heap.size rfl (.tmp 15) (.tmp 18) 25 34 (.agg #[(.string ⟨#[]⟩),(.int .i64 0),(.int .i64 0),(.slice none 0 0)]) 56 rfl Try.underlying25 info34 rfl (by decide) (by omega) v3 t9 (⟨u1,u2,u3,u4⟩:S34) [.string u1, .int .i64 u2, .int .i64 u3, .slice A4 u4.length c4] (fun k_=>w.heap.size<k_) (fun k_=>some k_=(.slice A4 u4.length c4:Value).ownBlock) rfl rfl ?aP ?aK ?aF ?aO ?aB ?aS ?aL ?_;(case aP=>exact k34_mkM _ _ _ (⟨u1,u2,u3,u4⟩:S34) (zfv rfl o0.out));(case aK=>intro k_ hk_;exact⟨zch HW3.out (o0.out.1 k_ hk_.symm),fun e_=>by have h1:=o0.out.1 k_ hk_.symm;have h2:=Kd.S_lt HS3.out k_ e_.symm;omega⟩);(case aF=>intro k_ hk_;exact zch HW4.out hk_);(case aO=>exact HS4.out);(case aB=>exact C0.out);(case aS=>exact C0.out.size);(case aL=>have h1:=HLT.out;omega);intro v5 w5 ho hb hg hat;rw[HTT.out] at ho;have HS5:=Aside0.mk ho;have F0:=Aside0.mk hb;clear ho hb hg hat;obtain⟨A5,c5,e5⟩:=zbd (Kd.S_R HS5.out);subst e5) | (go_at_call 43;refine(impl_QueueOk.calls k A5 c5 TT _ w5 (zfn HS5.out).2.2 (zfn HS5.out).2.1 FB.out).mono ?_;rintro e w6 ⟨rfl,hb6⟩;have HS6:=Aside0.mk (zfp HS5.out hb6);have E0:=Aside0.mk (zac F0.out hb6);clear hb6))
    go_ret2
    exact⟨_,rfl,zfz HS7.out E0.out.size,HB7.out⟩
  have hpi:putI a1_0 a1_1 t=t:=if_neg hp
  rw[hpi] at HLT FB h
  clear hpi
  generalize htt:t++[(⟨u1,u2,u3,u4⟩:S34)]=TT at FB h
  have HTT:=Aside0.mk htt
  clear htt
  cases b with
  | true=>
   rw[if_pos rfl] at h
   have h:=Option.some.inj h
   simp only[zbn] at h
   obtain⟨rfl,rfl⟩:=h
   go_enter Try.func60,Try.ntmps60
   go_wp2_with (first | (go_at_call 96;refine(impl_cloneItems.calls k _ c0 l0 t _ (zdd HR.out _) HC.out F.out).mono ?_;rintro e w3 ⟨v3,rfl,ho,hb2⟩;have HS3:=Aside0.mk (zfz (zdw (zgy ho) (fun k_ hk_=>(by have h1:=HBX.out;have h2:=hk_.2.1;omega:w.heap.size<k_))) HB0.out.size);have B0:=Aside0.mk (zac HB0.out hb2);have HT3:=Aside0.mk ((hb2.block w.heap.size (by have h1:=HBX.out;omega)).trans (zgp w (.cells #[.string a1_0, .int .i64 a1_1, .int .i64 a1_2, .slice A1_3 l1_3.length c1_3] 34)));have HW3:=Aside0.mk ((Array.getElem?_eq_some_iff.1 HT3.out).1);obtain⟨b0,b1,b2,b3⟩:=cells_of_block HT3.out;clear ho hb2) | (go_at_call 104;refine(impl_cloneItem.calls a1_0 a1_1 a1_2 A1_3 c1_3 l1_3 u1 u2 u3 u4 w3 (zbc HR3.out B0.out) G0.out FU.out).mono ?_;rintro e w4 ⟨v4,rfl,ho,hb4⟩;have C0:=Aside0.mk (zac B0.out hb4);have o0:=Aside0.mk (zax (zam (Kd.R_bound ho) (fun k_ hk_=>hk_.2.1)) B0.out.size);have HS4:=Aside0.mk (zdw (zfp (zgy HS3.out) hb4) (fun k_ hk_=>(⟨hk_.1,fun e=>by have h1:=zbg ho k_ e.symm;have h2:=hk_.2.2.1;omega⟩:w.heap.size<k_∧some k_≠v4.ownBlock)));have HW4:=Aside0.mk (zch HW3.out hb4.size);clear ho hb4;obtain⟨A4,c4,e4⟩:=zbd o0.out;subst e4) | ((with_reducible refine zcd (b:= .append) (xs:= #[.tmp 15, .tmp 18]) rfl ?_);at_builtin;refine zfm k34 (w0:=w) w.heap.size rfl (.tmp 15) (.tmp 18) 25 34 (.agg #[(.string ⟨#[]⟩),(.int .i64 0),(.int .i64 0),(.slice none 0 0)]) 56 rfl Try.underlying25 info34 rfl (by decide) (by omega) v3 t (⟨u1,u2,u3,u4⟩:S34) [.string u1, .int .i64 u2, .int .i64 u3, .slice A4 u4.length c4] (fun k_=>w.heap.size<k_) (fun k_=>some k_=(.slice A4 u4.length c4:Value).ownBlock) rfl rfl ?aP ?aK ?aF ?aO ?aB ?aS ?aL ?_;(case aP=>exact k34_mkM _ _ _ (⟨u1,u2,u3,u4⟩:S34) (zfv rfl o0.out));(case aK=>intro k_ hk_;exact⟨zch HW3.out (o0.out.1 k_ hk_.symm),fun e_=>by have h1:=o0.out.1 k_ hk_.symm;have h2:=Kd.S_lt HS3.out k_ e_.symm;omega⟩);(case aF=>intro k_ hk_;exact zch HW4.out hk_);(case aO=>exact HS4.out);(case aB=>exact C0.out);(case aS=>exact C0.out.size);(case aL=>have h1:=HLT.out;omega);intro v5 w5 ho hb hg hat;rw[HTT.out] at ho;have HS5:=Aside0.mk ho;have F0:=Aside0.mk hb;clear ho hb hg hat;obtain⟨A5,c5,e5⟩:=zbd (Kd.S_R HS5.out);subst e5) | (go_at_call 43;refine(impl_QueueOk.calls k A5 c5 TT _ w5 (zfn HS5.out).2.2 (zfn HS5.out).2.1 FB.out).mono ?_;rintro e w6 ⟨rfl,hb6⟩;have HS6:=Aside0.mk (zfp HS5.out hb6);have E0:=Aside0.mk (zac F0.out hb6);clear hb6))
   go_ret2
   exact⟨_,rfl,zdw HS6.out (fun _ _=>trivial),E0.out⟩
  | false=>
   rw[if_neg (by simp)] at h
   have h:=Option.some.inj h
   simp only[zbn] at h
   obtain⟨rfl,rfl⟩:=h
   go_enter Try.func60,Try.ntmps60
   go_wp2_with (first | (have D0:=E0.out;go_at_call 96;refine(impl_cloneItems.calls k _ c0 l0 _ w6 (zbc HR.out D0) HC.out F.out).mono ?_;rintro e w7 ⟨v7,rfl,ho,hb7⟩;have HS7:=Aside0.mk ho;have HB7:=Aside0.mk (zac D0 hb7);clear ho hb7) | (go_at_call 96;refine(impl_cloneItems.calls k _ c0 l0 t _ (zdd HR.out _) HC.out F.out).mono ?_;rintro e w3 ⟨v3,rfl,ho,hb2⟩;have HS3:=Aside0.mk (zfz (zdw (zgy ho) (fun k_ hk_=>(by have h1:=HBX.out;have h2:=hk_.2.1;omega:w.heap.size<k_))) HB0.out.size);have B0:=Aside0.mk (zac HB0.out hb2);have HT3:=Aside0.mk ((hb2.block w.heap.size (by have h1:=HBX.out;omega)).trans (zgp w (.cells #[.string a1_0, .int .i64 a1_1, .int .i64 a1_2, .slice A1_3 l1_3.length c1_3] 34)));have HW3:=Aside0.mk ((Array.getElem?_eq_some_iff.1 HT3.out).1);obtain⟨b0,b1,b2,b3⟩:=cells_of_block HT3.out;clear ho hb2) | (go_at_call 104;refine(impl_cloneItem.calls a1_0 a1_1 a1_2 A1_3 c1_3 l1_3 u1 u2 u3 u4 w3 (zbc HR3.out B0.out) G0.out FU.out).mono ?_;rintro e w4 ⟨v4,rfl,ho,hb4⟩;have C0:=Aside0.mk (zac B0.out hb4);have o0:=Aside0.mk (zax (zam (Kd.R_bound ho) (fun k_ hk_=>hk_.2.1)) B0.out.size);have HS4:=Aside0.mk (zdw (zfp (zgy HS3.out) hb4) (fun k_ hk_=>(⟨hk_.1,fun e=>by have h1:=zbg ho k_ e.symm;have h2:=hk_.2.2.1;omega⟩:w.heap.size<k_∧some k_≠v4.ownBlock)));have HW4:=Aside0.mk (zch HW3.out hb4.size);clear ho hb4;obtain⟨A4,c4,e4⟩:=zbd o0.out;subst e4) | ((with_reducible refine zcd (b:= .append) (xs:= #[.tmp 15, .tmp 18]) rfl ?_);at_builtin;refine zfm k34 (w0:=w) w.heap.size rfl (.tmp 15) (.tmp 18) 25 34 (.agg #[(.string ⟨#[]⟩),(.int .i64 0),(.int .i64 0),(.slice none 0 0)]) 56 rfl Try.underlying25 info34 rfl (by decide) (by omega) v3 t (⟨u1,u2,u3,u4⟩:S34) [.string u1, .int .i64 u2, .int .i64 u3, .slice A4 u4.length c4] (fun k_=>w.heap.size<k_) (fun k_=>some k_=(.slice A4 u4.length c4:Value).ownBlock) rfl rfl ?aP ?aK ?aF ?aO ?aB ?aS ?aL ?_;(case aP=>exact k34_mkM _ _ _ (⟨u1,u2,u3,u4⟩:S34) (zfv rfl o0.out));(case aK=>intro k_ hk_;exact⟨zch HW3.out (o0.out.1 k_ hk_.symm),fun e_=>by have h1:=o0.out.1 k_ hk_.symm;have h2:=Kd.S_lt HS3.out k_ e_.symm;omega⟩);(case aF=>intro k_ hk_;exact zch HW4.out hk_);(case aO=>exact HS4.out);(case aB=>exact C0.out);(case aS=>exact C0.out.size);(case aL=>have h1:=HLT.out;omega);intro v5 w5 ho hb hg hat;rw[HTT.out] at ho;have HS5:=Aside0.mk ho;have F0:=Aside0.mk hb;clear ho hb hg hat;obtain⟨A5,c5,e5⟩:=zbd (Kd.S_R HS5.out);subst e5) | (go_at_call 43;refine(impl_QueueOk.calls k A5 c5 TT _ w5 (zfn HS5.out).2.2 (zfn HS5.out).2.1 FB.out).mono ?_;rintro e w6 ⟨rfl,hb6⟩;have HS6:=Aside0.mk (zfp HS5.out hb6);have E0:=Aside0.mk (zac F0.out hb6);clear hb6))
   go_ret2
   exact⟨_,rfl,zfz HS7.out E0.out.size,HB7.out⟩
 rw[if_neg hlt] at h
 cases h
end Go.Proofs.Ytlalkldjpniakaa.P
