import Derived.Test.Ytlalkldjpniakaabk35
import Derived.Test.Ytlalkldjpniakaabk14
namespace Go.Proofs.Ytlalkldjpniakaa.P
open Go.RowKit Go.Proofs.YtlalkldjpniakaaW.PrintWords Go.Proofs.YtlalkldjpniakaaW.PrintLast Go.Proofs.YtlalkldjpniakaaW.PrintMore
attribute [local go_sem] zck zcl zdl zdm zbz zca zcm zcn -- for this text's walks alone
set_option linter.unusedVariables false
set_option linter.unusedSimpArgs false
set_option maxHeartbeats 8000000
set_option maxRecDepth 100000

def spec_l14Dent.f (s0:List Int) (s1 s2:Int) (l:List Int):Option (List Int×Int×Int):=(spec_l1Below.f s0 s1 s2 (wrap64 ((l.length:Int)+1))).bind fun t=>(spec_l1Below.f s0 t.2.1 t.2.2 5).bind fun u=>if u.1=0 then(if 0≤t.1∧t.1≤(l.length:Int) then some (l.take t.1.toNat,u.2.1,u.2.2) else none) else if u.1=1 then(if 0≤t.1∧t.1≤(l.length:Int)∧l.length≤1000000000 then(spec_l1Below.f s0 u.2.1 u.2.2 4).bind fun x=>some (l.take t.1.toNat++(x.1 % 256) :: l.drop t.1.toNat,x.2.1,x.2.2) else none) else some (l,u.2.1,u.2.2)
theorem spec_l14Dent.calls (g:Nat) (s0:List Int) (s1 s2:Int) (A:Option Addr) (c:Nat) (l:List Int) (r:List Int) (r6 r7:Int) (w0 w:World) (hI:IsS132 w0 w g s0 s1 s2) (hB:Below w0.heap.size w0 w) (hV:Kd.V (Kd.int .u8) 5 w w.heap.size (fun k_=>k_≠g) (.slice A l.length c) l) (h:spec_l14Dent.f s0 s1 s2 l=some (r,r6,r7)):
  Calls Try.prog 125 #[.pointer (some ⟨g,0,none⟩), .slice A l.length c] w fun e w'=>∃ v,e= .returned v∧Kd.V (Kd.int .u8) 5 w' w'.heap.size (fun k_=>k_≠g) v r∧IsS132 w0 w' g s0 r6 r7∧Below w0.heap.size w0 w'∧KeepBut w w' g none:=by
 have HI:=Aside0.mk hI
 have HB:=Aside0.mk hB
 have HV:=Aside0.mk hV
 have HK:=Aside0.mk (zhc w g none)
 have hc:=(zhe hV).2.1
 have hg:=hI.lt
 clear hI hB hV
 unfold spec_l14Dent.f at h
 obtain⟨⟨t,t1,t2⟩,F1,G⟩:=bnn h;clear h
 obtain⟨⟨u,u1,u2⟩,F2,H⟩:=bnn G;clear G
 dsimp only at F2 H
 by_cases c0:u=0
 ·rw[if_pos c0] at H
  obtain⟨⟨q0,q1⟩,G⟩:=ifT H;clear H
  simp only[zaz,zbn] at G
  obtain⟨rfl,rfl,rfl⟩:=G
  have b0:(u==0)=true:=beq_iff_eq.mpr c0
  obtain⟨i5,o0,hz⟩:=Option.map_eq_some_iff.1 info5
  have hcut:=cut_to (P:=Try.prog) 29 5 .i64 Try.underlying29 o0 A l.length c t q0 q1 hc
  have hl:(l.take t.toNat).length=t.toNat:=by rw[List.length_take];omega
  have HL:=Aside0.mk hl
  clear c0 hl
  go_enter Try.func125,Try.ntmps125
  go_wp2_with (first | ((with_reducible refine kd 10 ?_);refine kc 143 10 Try.func143 #[.pointer (some ⟨g,0,none⟩), .int .i64 (wrap64 ((l.length:Int)+1))] ?_;with_reducible refine(spec_l1Below.calls g s0 s1 s2 _ t t1 t2 w0 _ HI.out HB.out F1.out).mono ?_;rintro e w_ ⟨rfl,hi,hb,hk⟩;refine⟨_,rfl,?_⟩;have n1:=Aside0.mk (Kd.V_keep HV.out hk (fun _ h=>h));have n2:=Aside0.mk (HK.out.trans hk (.inl rfl));clear HI HB HV HK;have HI:=Aside0.mk hi;have HB:=Aside0.mk hb;have HV:=n1;have HK:=n2;clear hi hb hk n1 n2) | ((with_reducible refine kd 12 ?_);refine kc 143 12 Try.func143 #[.pointer (some ⟨g,0,none⟩), .int .i64 5] ?_;with_reducible refine(spec_l1Below.calls g s0 t1 t2 _ u u1 u2 w0 _ HI.out HB.out F2.out).mono ?_;rintro e w_ ⟨rfl,hi,hb,hk⟩;refine⟨_,rfl,?_⟩;have n1:=Aside0.mk (Kd.V_keep HV.out hk (fun _ h=>h));have n2:=Aside0.mk (HK.out.trans hk (.inl rfl));clear HI HB HV HK;have HI:=Aside0.mk hi;have HB:=Aside0.mk hb;have HV:=n1;have HK:=n2;clear hi hb hk n1 n2) | ((with_reducible refine kd 17 ?_);refine kl _ (v:= .slice A t.toNat c) (by exact hcut _) ?_))
  go_ret
  refine⟨_,rfl,?_,HI.out,HB.out,HK.out⟩
  have hF:=Kd.F_take (Kd.V_at HV.out).2.2 (m:=t.toNat) (by omega)
  have hV:=Kd.V_mk (e:=5) (c:=c) (base:=w_.heap.size) (by rw[HL.out];omega) hF
  rw[HL.out] at hV
  exact hV
 rw[if_neg c0] at H
 have b0:(u==0)=false:=zau.mpr c0
 clear c0
 by_cases c1:u=1
 ·rw[if_pos c1] at H
  obtain⟨⟨q0,q1,q2⟩,G⟩:=ifT H;clear H
  obtain⟨⟨x,x1,x2⟩,F3,H⟩:=bnn G;clear G
  simp only[zaz,zbn] at H
  obtain⟨rfl,rfl,rfl⟩:=H
  have b1:(u==1)=true:=beq_iff_eq.mpr c1
  clear c1
  obtain⟨Ax,cx,hcutx,_,hCx⟩:=cut_u8_to (P:=Try.prog) 29 5 Try.underlying29 info5 A c l t q0 q1 hc
  obtain⟨Ay,cy,hcuty,_,hCy⟩:=cut_u8_from (P:=Try.prog) 29 5 Try.underlying29 info5 A c l t q0 q1 hc
  have Q2:=Aside0.mk q2;clear q2
  replace hCx:=Aside0.mk hCx
  replace hCy:=Aside0.mk hCy
  replace hcutx:=Aside0.mk hcutx
  replace hcuty:=Aside0.mk hcuty
  go_enter Try.func125,Try.ntmps125
  go_upto_region 6 with (first | ((with_reducible refine kd 10 ?_);refine kc 143 10 Try.func143 #[.pointer (some ⟨g,0,none⟩), .int .i64 (wrap64 ((l.length:Int)+1))] ?_;with_reducible refine(spec_l1Below.calls g s0 s1 s2 _ t t1 t2 w0 _ HI.out HB.out F1.out).mono ?_;rintro e w_ ⟨rfl,hi,hb,hk⟩;refine⟨_,rfl,?_⟩;have n1:=Aside0.mk (Kd.V_keep HV.out hk (fun _ h=>h));have n2:=Aside0.mk (HK.out.trans hk (.inl rfl));clear HI HB HV HK;have HI:=Aside0.mk hi;have HB:=Aside0.mk hb;have HV:=n1;have HK:=n2;clear hi hb hk n1 n2) | ((with_reducible refine kd 12 ?_);refine kc 143 12 Try.func143 #[.pointer (some ⟨g,0,none⟩), .int .i64 5] ?_;with_reducible refine(spec_l1Below.calls g s0 t1 t2 _ u u1 u2 w0 _ HI.out HB.out F2.out).mono ?_;rintro e w_ ⟨rfl,hi,hb,hk⟩;refine⟨_,rfl,?_⟩;have n1:=Aside0.mk (Kd.V_keep HV.out hk (fun _ h=>h));have n2:=Aside0.mk (HK.out.trans hk (.inl rfl));clear HI HB HV HK;have HI:=Aside0.mk hi;have HB:=Aside0.mk hb;have HV:=n1;have HK:=n2;clear hi hb hk n1 n2))
  refine spec_l14Dent.r6 w0 _ g s0 u1 u2 x x1 x2 t l (l.take t.toNat) (l.drop t.toNat) A Ax Ay c cx cy Q2.out (by rw[List.length_take];omega) (by rw[zhi];omega) hcutx.out hCx.out hcuty.out hCy.out HI.out HB.out HV.out F3.out rfl rfl rfl rfl ?_
  intro w5 v0 v4 v8 v12 v13 hr hi hb hk
  have hgW:=HI.out.lt
  have hv:=Aside0.mk (Kd.R_V (base':=w5.heap.size) (zam (Kd.R_bound hr) (ok':=fun k_=>k_≠g) (fun k h=>by have:=h.2.1;omega)))
  have hk2:=Aside0.mk (HK.out.trans hk (.inl rfl))
  have B0:=Aside0.mk hi
  have hb2:=Aside0.mk hb
  clear hr hi hb hk HI HB HV HK
  simp only[Act.put,zaq,zbj,zbk]
  try go_wp2
  go_ret
  exact⟨_,rfl,hv.out,B0.out,hb2.out,hk2.out⟩
 rw[if_neg c1] at H
 have b1:(u==1)=false:=zau.mpr c1
 clear c1
 simp only[zaz,zbn] at H
 obtain⟨rfl,rfl,rfl⟩:=H
 go_enter Try.func125,Try.ntmps125
 go_wp2_with (first | ((with_reducible refine kd 10 ?_);refine kc 143 10 Try.func143 #[.pointer (some ⟨g,0,none⟩), .int .i64 (wrap64 ((l.length:Int)+1))] ?_;with_reducible refine(spec_l1Below.calls g s0 s1 s2 _ t t1 t2 w0 _ HI.out HB.out F1.out).mono ?_;rintro e w_ ⟨rfl,hi,hb,hk⟩;refine⟨_,rfl,?_⟩;have n1:=Aside0.mk (Kd.V_keep HV.out hk (fun _ h=>h));have n2:=Aside0.mk (HK.out.trans hk (.inl rfl));clear HI HB HV HK;have HI:=Aside0.mk hi;have HB:=Aside0.mk hb;have HV:=n1;have HK:=n2;clear hi hb hk n1 n2) | ((with_reducible refine kd 12 ?_);refine kc 143 12 Try.func143 #[.pointer (some ⟨g,0,none⟩), .int .i64 5] ?_;with_reducible refine(spec_l1Below.calls g s0 t1 t2 _ u u1 u2 w0 _ HI.out HB.out F2.out).mono ?_;rintro e w_ ⟨rfl,hi,hb,hk⟩;refine⟨_,rfl,?_⟩;have n1:=Aside0.mk (Kd.V_keep HV.out hk (fun _ h=>h));have n2:=Aside0.mk (HK.out.trans hk (.inl rfl));clear HI HB HV HK;have HI:=Aside0.mk hi;have HB:=Aside0.mk hb;have HV:=n1;have HK:=n2;clear hi hb hk n1 n2))
 go_ret
 exact⟨_,rfl,HV.out,HI.out,HB.out,HK.out⟩
def spec_DrawLineOf.f (k:Nat) (l0:List Int):Option (List Int×Int):=(spec_l1New.f k l0).bind fun s=>(spec_l14DrawLine.f k s.1 s.2.1 s.2.2).bind fun x=>(spec_LineBytes.f k x.1 x.2.1 x.2.2.1 x.2.2.2.1 x.2.2.2.2.1).bind fun p=>(spec_l14DrawLine.f k s.1 x.2.2.2.2.2.1 x.2.2.2.2.2.2).bind fun y=>(spec_LineBytes.f k y.1 y.2.1 y.2.2.1 y.2.2.2.1 y.2.2.2.2.1).bind fun q=>if p.length+q.length<140737488355328 then(spec_l14Dent.f s.1 y.2.2.2.2.2.1 y.2.2.2.2.2.2 (p++q)).bind fun d=>(spec_l1PickInt.f s.1 d.2.1 d.2.2 [0,0,0,1,18,(d.1.length:Int), -1,9223372036854775807]).bind fun z=>some (d.1,z.1) else none
theorem spec_DrawLineOf.mono:∀ a0 k,LeO (spec_DrawLineOf.f k a0) (spec_DrawLineOf.f (k+1) a0):=by
 intro a0 k
 unfold spec_DrawLineOf.f
 have m0:=@spec_l1New.mono
 have m1:=@spec_l14DrawLine.mono
 have m2:=@spec_LineBytes.mono
 exact mt
theorem spec_DrawLineOf.calls (k:Nat) (A0:Option Addr) (c0:Nat) (l0:List Int) (r1:List Int) (r2:Int) (w:World) (hr0:Kd.C (Kd.int .u8) w A0 l0.length l0) (hc0:l0.length≤c0) (h:spec_DrawLineOf.f k l0=some (r1,r2)):
  Calls Try.prog 72 #[.slice A0 l0.length c0] w fun e w'=>∃ v0_:Value,e= .returned (.tuple #[v0_, .int .i64 r2])∧Kd.V (Kd.int .u8) 5 w' w.heap.size (fun _=>True) v0_ r1∧Below w.heap.size w w':=by
 have HR0:=Aside0.mk hr0
 have o0:=Aside0.mk hc0
 clear hr0 hc0
 unfold spec_DrawLineOf.f at h
 obtain⟨⟨s0,s1,s2⟩,F1,G⟩:=bnn h;clear h
 obtain⟨⟨x1,x2,x3,x4,x5,x6,x7⟩,F2,H⟩:=bnn G;clear G
 obtain⟨p,F3,G⟩:=bnn H;clear H
 obtain⟨⟨y1,y2,y3,y4,y5,y6,y7⟩,F4,H⟩:=bnn G;clear G
 obtain⟨q,F5,G⟩:=bnn H;clear H
 obtain⟨lim,H⟩:=ifT G;clear G
 obtain⟨⟨d,d1,d2⟩,F6,G⟩:=bnn H;clear H
 obtain⟨⟨z,z1,z2⟩,F7,H⟩:=bnn G;clear G
 simp only[zaz,zbn] at H
 obtain⟨rfl,rfl⟩:=H
 dsimp only at F2 F3 F4 F5 F6 F7
 have LIM:=Aside0.mk lim;clear lim
 go_enter Try.func72,Try.ntmps72
 go_wp2_with (first | ((with_reducible refine kd 7 ?_);refine kc 117 7 Try.func117 #[.slice A0 l0.length c0] ?_;with_reducible refine(spec_l1New.calls k _ _ l0 s0 s1 s2 w w (zbo _ _) HR0.out o0.out F1.out).mono ?_;rintro e w_ ⟨g,rfl,hi,hb,hb2⟩;refine⟨_,rfl,?_⟩;have HI:=Aside0.mk hi;have HB:=Aside0.mk hb;clear hi hb hb2) | ((with_reducible refine kd 10 ?_);refine kc 124 10 Try.func124 #[.pointer (some ⟨g,0,none⟩)] ?_;with_reducible refine(spec_l14DrawLine.calls k g s0 s1 s2 x1 x2 x3 x4 x5 x6 x7 w _ HI.out HB.out F2.out).mono ?_;rintro e w_ ⟨v,rfl,hr,hi,hb,hk⟩;refine⟨_,rfl,?_⟩;obtain⟨Ax,Cx,rfl,Lx,Rx⟩:=rsl hr;clear HI HB hr;have HI:=Aside0.mk hi;have HB:=Aside0.mk hb;clear hi hb hk) | ((with_reducible refine kd 11 ?_);refine kc 48 11 Try.func48 #[.agg #[.int .i64 x1, .string x2, .int .i64 x3, .int .i64 x4, .slice Ax x5.length Cx]] ?_;with_reducible refine(spec_LineBytes.calls k x1 x2 x3 x4 _ _ x5 p _ Rx.out Lx.out F3.out).mono ?_;rintro e w_ ⟨vp,rfl,hr,hb⟩;refine⟨_,rfl,?_⟩;have hlt:=HI.out.lt;have hle:=HB.out.size;have HP:=Aside0.mk (zax (zam (Kd.R_bound hr) (ok':=fun k_=>k_≠g) (fun k_ h=>by have:=h.2.1;omega)) hle);have n2:=Aside0.mk (HI.out.below hb);have n3:=Aside0.mk (zac HB.out hb);clear HI HB hr;have HI:=n2;have HB:=n3;clear n2 n3 hb hlt hle) | ((with_reducible refine kd 13 ?_);refine kc 124 13 Try.func124 #[.pointer (some ⟨g,0,none⟩)] ?_;with_reducible refine(spec_l14DrawLine.calls k g s0 x6 x7 y1 y2 y3 y4 y5 y6 y7 w _ HI.out HB.out F4.out).mono ?_;rintro e w_ ⟨v,rfl,hr,hi,hb,hk⟩;refine⟨_,rfl,?_⟩;have n1:=Aside0.mk (zef HP.out hk (fun _ h=>h));clear HP;have HP:=n1;clear n1;obtain⟨Ay,Cy,rfl,Ly,Ry⟩:=rsl hr;clear HI HB hr;have HI:=Aside0.mk hi;have HB:=Aside0.mk hb;clear hi hb hk) | ((with_reducible refine kd 14 ?_);refine kc 48 14 Try.func48 #[.agg #[.int .i64 y1, .string y2, .int .i64 y3, .int .i64 y4, .slice Ay y5.length Cy]] ?_;with_reducible refine(spec_LineBytes.calls k y1 y2 y3 y4 _ _ y5 q _ Ry.out Ly.out F5.out).mono ?_;rintro e w_ ⟨vq,rfl,hr,hb⟩;refine⟨_,rfl,?_⟩;have hlt:=HI.out.lt;have hle:=HB.out.size;have n1:=Aside0.mk (zdb HP.out hb);clear HP;have HP:=n1;clear n1;obtain⟨Aq,Cq,rfl,Lq,Rq⟩:=rsl hr;have n2:=Aside0.mk (HI.out.below hb);have n3:=Aside0.mk (zac HB.out hb);clear HI HB hr;have HI:=n2;have HB:=n3;clear n2 n3 hb hlt hle) | ((with_reducible refine zcd (b:= .append) (xs:= #[.tmp 11, .tmp 14]) rfl ?_);at_builtin;refine zej (Kd.int .u8) (w0:=w) w.heap.size rfl (.tmp 11) (.tmp 14) 29 5 (.int .u8 0) 1 rfl Try.underlying29 info5 rfl (by decide) (by omega) vp p q _ _ _ (fun k_=>k_≠g) (fun _=>False) rfl rfl HP.out Rq.out (fun _ _ h=>h) (fun _ h=>h.elim) (fun k_ h=>HI.out.fresh k_ h) HB.out HB.out.size (by have:=LIM.out;omega) ?_;intro v1 w_ ho hb hgr hat;have n1:=Aside0.mk (HI.out.grown hgr (HI.out.own_ne HP.out (by decide)));have HV:=Aside0.mk (Kd.R_V (base':=w_.heap.size) ho);clear HI HB HP ho;have HI:=n1;have HB:=Aside0.mk hb;clear n1 hb hgr hat;obtain⟨A1,c1,e1⟩:=Kd.V_slice HV.out;subst e1) | ((with_reducible refine kd 16 ?_);refine kc 125 16 Try.func125 #[.pointer (some ⟨g,0,none⟩), .slice A1 (p++q).length c1] ?_;with_reducible refine(spec_l14Dent.calls g s0 y6 y7 _ _ (p++q) d d1 d2 w _ HI.out HB.out HV.out F6.out).mono ?_;rintro e w_ ⟨v2,rfl,hv,hi,hb,hk⟩;refine⟨_,rfl,?_⟩;have HW:=Aside0.mk hv;clear HI HB HV;have HI:=Aside0.mk hi;have HB:=Aside0.mk hb;clear hv hi hb hk;obtain⟨A2,c2,e2⟩:=Kd.V_slice HW.out;subst e2) | ((with_reducible refine kd 21 ?_);refine Kd.R_lit (Kd.int .i64) _ 3 ?hg (N:=21) ?hd (xs:=([0,0,0,1,18,(d.length:Int), -1,9223372036854775807]:List Int)) (inner:=[.int .i64 0, .int .i64 0, .int .i64 0, .int .i64 1, .int .i64 18, .int .i64 (d.length:Int), .int .i64 (-1), .int .i64 9223372036854775807]) (ok:=fun _=>True) (okp:=fun _=>True) ?hr ?hp (fun _ hk=>hk) trivial (zbo _ _) (zaf _) (by simp) ?_;(case hd=>rfl);(case hg=>rfl);(case hr=>first | (go_simp;done) | (go_simp;rfl));(case hp=>exact(zdx (show Kd.M (Kd.int .i64) _ _ _ 0 [.int .i64 0] from rfl) (zdx (show Kd.M (Kd.int .i64) _ _ _ 0 [.int .i64 0] from rfl) (zdx (show Kd.M (Kd.int .i64) _ _ _ 0 [.int .i64 0] from rfl) (zdx (show Kd.M (Kd.int .i64) _ _ _ 1 [.int .i64 1] from rfl) (zdx (show Kd.M (Kd.int .i64) _ _ _ 18 [.int .i64 18] from rfl) (zdx (show Kd.M (Kd.int .i64) _ _ _ (d.length:Int) [.int .i64 (d.length:Int)] from rfl) (zdx (show Kd.M (Kd.int .i64) _ _ _ (-1) [.int .i64 (-1)] from rfl) (zdx (show Kd.M (Kd.int .i64) _ _ _ 9223372036854775807 [.int .i64 9223372036854775807] from rfl) (zfq _ _))))))))));intro v3 w_ ho hb hg_ hnew_;have hlt:=HI.out.lt;have hown:=(Kd.R_bound ho).1;obtain⟨A3,C3,e3⟩:=zbd ho;subst e3;have L3:=Aside0.mk (zbp ho).2.1;have R3:=Aside0.mk (zbp ho).2.2;have H3:Aside0 (∀ ad,A3=some ad→0<([0,0,0,1,18,(d.length:Int), -1,9223372036854775807]:List Int).length→ad.block≠g):=⟨fun ad e4 _=>by subst e4;have:=(hown ad.block rfl).2.1;omega⟩;have n1:=Aside0.mk (HI.out.below hb);have n2:=Aside0.mk (zac HB.out hb);have n3:=Aside0.mk (zhh HW.out hb);clear HI HB HW ho hb hg_ hnew_ hlt hown;have HI:=n1;have HB:=n2;have HW:=n3;clear n1 n2 n3) | ((with_reducible refine kd 22 ?_);refine kc 122 22 Try.func122 #[.pointer (some ⟨g,0,none⟩), .slice A3 ([0,0,0,1,18,(d.length:Int), -1,9223372036854775807]:List Int).length C3] ?_;with_reducible refine(spec_l1PickInt.calls g s0 d1 d2 _ _ ([0,0,0,1,18,(d.length:Int), -1,9223372036854775807]) z z1 z2 w _ HI.out HB.out R3.out L3.out H3.out F7.out).mono ?_;rintro e w_ ⟨rfl,hi,hb,hk⟩;refine⟨_,rfl,?_⟩;have n1:=Aside0.mk (Kd.V_keep HW.out hk (fun _ h=>h));clear HW HB;have HW:=n1;have HB:=Aside0.mk hb;clear n1 hi hb hk))
 go_ret2
 exact⟨_,rfl,zgs HW.out (fun _ _=>trivial),HB.out⟩
def spec_l14DrawBook.l0:Nat→List Int→Int→List Int→Int→Int→Option (List Int×Int×Int)
 | 0,_,_,_,_,_=>none
 | k+1,x3,x4,x1000,x1001,x1002=>(spec_l1Below.f x1000 x1001 x1002 8).bind fun bt1194=>(if x4<bt1194.1 then((spec_l14DrawLine.f k x1000 bt1194.2.1 bt1194.2.2).bind fun bt1197=>((spec_LineBytes.f k bt1197.1 bt1197.2.1 bt1197.2.2.1 bt1197.2.2.2.1 bt1197.2.2.2.2.1).bind fun t1206=>(if x3.length+t1206.length<140737488355328 then(spec_l14DrawBook.l0 k (x3++t1206) (wrap64 (x4+1)) x1000 bt1197.2.2.2.2.2.1 bt1197.2.2.2.2.2.2) else(none)))) else(some (x3,bt1194.2.1,bt1194.2.2)))
def spec_l14DrawBook.f (k:Nat) (s0_0:List Int) (s0_1:Int) (s0_2:Int):Option (List Int×Int×Int):=spec_l14DrawBook.l0 k (([]:List Int)) 0 s0_0 s0_1 s0_2
theorem spec_l14DrawBook.mono_l:∀ k,(∀ y0 y1 y2 y3 y4,LeO (spec_l14DrawBook.l0 k y0 y1 y2 y3 y4) (spec_l14DrawBook.l0 (k+1) y0 y1 y2 y3 y4))
 | 0=>fun _ _ _ _ _ r h=>by simp [spec_l14DrawBook.l0] at h
 | k+1=>by
  have ih0:=spec_l14DrawBook.mono_l k
  intro y0 y1 y2 y3 y4
  unfold spec_l14DrawBook.l0
  have m0:=@spec_LineBytes.mono
  have m1:=@spec_l14DrawLine.mono
  exact mt
theorem spec_l14DrawBook.mono:∀ a0 a1 a2 k,LeO (spec_l14DrawBook.f k a0 a1 a2) (spec_l14DrawBook.f (k+1) a0 a1 a2):=by
 intro a0 a1 a2 k
 have ih0:=spec_l14DrawBook.mono_l k
 unfold spec_l14DrawBook.f
 have m0:=@spec_LineBytes.mono
 have m1:=@spec_l14DrawLine.mono
 exact mt
theorem spec_l14DrawBook.calls (k:Nat) (g:Nat) (s0_0:List Int) (s0_1:Int) (s0_2:Int) (r1:List Int) (r2:Int) (r3:Int) (w0 w:World) (hI:IsS132 w0 w g s0_0 s0_1 s0_2) (hB:Below w0.heap.size w0 w) (h:spec_l14DrawBook.f k s0_0 s0_1 s0_2=some (r1,r2,r3)):
  Calls Try.prog 126 #[.pointer (some ⟨g,0,none⟩)] w fun e w'=>∃ v0_:Value,e= .returned (v0_)∧Kd.R (Kd.int .u8) 5 w' w.heap.size (fun _=>True) v0_ r1∧IsS132 w0 w' g s0_0 r2 r3∧Below w0.heap.size w0 w'∧KeepBut w w' g none:=by
 have HI0:=Aside0.mk hI
 have HK:=Aside0.mk (zhc w g none)
 have HL:=Aside0.mk hB.size
 clear hI
 have HW0:=Aside0.mk hB.size
 have HB:=Aside0.mk hB
 clear hB
 have H:(spec_l14DrawBook.l0 k (([]:List Int)) 0 s0_0 s0_1 s0_2)=some (r1,r2,r3):=h
 clear h
 obtain⟨V0,H0⟩:∃ y_:List Int,y_=(([]:List Int)):=⟨_,rfl⟩
 replace H:(spec_l14DrawBook.l0 k V0 0 s0_0 s0_1 s0_2)=some (r1,r2,r3):=jrw H0 H
 have N0:=Aside0.mk H0
 clear H0
 have H':=Aside0.mk H
 clear H
 go_enter Try.func126,Try.ntmps126
 go_wp2_with (first | (refine jgd 5 ?_;refine jlt 5 (Kd.int .u8) 5 ?_;intro v1192 w2 D1 hb;(first | rw[← N0.out] at D1 | (simp only[Int.reduceToNat] at D1;rw[← N0.out] at D1));have n_:=jA4 (zax D1 (zcy (w:=w) (g:=g) (row:=none) jk)) (IsS132.below (by repeat(first | (with_reducible first | exact HI0.out | apply IsS132.alloc | apply IsS132.drewN | apply IsS132.drew | apply IsS132.set_1 | apply IsS132.set_2) | exact HI0.out)) hb) (zay jk (zcu hb g none) (.inl rfl)) (zac (bs1 (IsS132.ge HI0.out)) hb);clear HI0 HK HB;obtain⟨X0,HI0,HK,HB⟩:=n_;clear hb D1))
 go_loopg [3,4] k (fun kq v3 v4 w'=>∃ (L0:List Int) (M0:Int) (B0:Int) (C0:Int),v4= .int .i64 M0∧Aside0 (spec_l14DrawBook.l0 kq L0 M0 s0_0 B0 C0=some (r1,r2,r3))∧Aside0 (kq≤k)∧Aside0 (Kd.R (Kd.int .u8) 5 w' w.heap.size (fun _=>True) v3 L0)∧Aside0 (IsS132 w0 w' g s0_0 B0 C0)∧Aside0 (KeepBut w w' g none)∧Aside0 (Below w0.heap.size w0 w'))
 case atStart=>exact⟨(V0),(0),(s0_1),(s0_2),jer,H',⟨zaf _⟩,⟨pR X0.out⟩,⟨by repeat(first | (with_reducible first | exact HI0.out | apply IsS132.alloc | apply IsS132.drewN | apply IsS132.drew | apply IsS132.set_1 | apply IsS132.set_2) | exact HI0.out)⟩,⟨by repeat(first | (with_reducible first | exact HK.out | apply zep | apply zfi | apply zfx | apply zfj) | exact HK.out)⟩,⟨bs1 (IsS132.ge HI0.out)⟩⟩
 case round=>
  clear H'
  try clear c1
  try clear p2
  obtain⟨L0,M0,B0,C0,rfl,HA,J1,D0,HI0,HK,HB⟩:=hrel
  cases gk with
  | zero=>exact absurd HA.out (by simp [spec_l14DrawBook.l0])
  | succ k1=>
   have H:=HA.out
   clear HA
   simp only[spec_l14DrawBook.l0] at H
   obtain⟨⟨O0,J0,K0⟩,A4,H⟩:=bnd H
   try dsimp only at H
   by_cases c5:M0<O0
   ·rw[if_pos c5] at H
    have G1:=zae c5
    clear c5
    obtain⟨⟨P0,Q0,R0,S0,G0,T0,U0⟩,A6,H⟩:=bnd H
    try dsimp only at H
    obtain⟨F0,A7,H⟩:=bnd H
    by_cases c8:L0.length+F0.length<140737488355328
    ·rw[if_pos c8] at H
     have LMc8:=Aside0.mk c8
     clear c8
     obtain⟨W0,I0⟩:∃ y_:List Int,y_=(L0++F0):=⟨_,rfl⟩
     replace H:(spec_l14DrawBook.l0 k1 W0 (wrap64 (M0+1)) s0_0 T0 U0)=some (r1,r2,r3):=jrw I0 H
     have Y0:=Aside0.mk I0
     clear I0
     have H':=Aside0.mk H
     clear H
     go_wp2_with (first | (refine jgc 143 ?_;refine jgs 8 Try.func143 #[.pointer (some ⟨g,0,none⟩), .int .i64 8] ?_;(with_reducible refine(spec_l1Below.calls g s0_0 B0 C0 8 O0 J0 K0 w0 _ ?side1 ?side2 A4.out).mono ?_);(case side1=>repeat(first | (with_reducible first | exact HI0.out | apply IsS132.alloc | apply IsS132.drewN | apply IsS132.drew | apply IsS132.set_1 | apply IsS132.set_2) | exact HI0.out));(case side2=>repeat(first | (with_reducible first | exact HB.out | apply zbe | apply zat | apply zba | refine zav ?_ (IsS132.ge HI0.out)) | exact HB.out));rintro e w9 ⟨rfl,hi,hb,hk⟩;refine⟨_,rfl,?_⟩;have n_:=jA4 (zam (zef (IsS132.apart (show IsS132 w0 _ g s0_0 B0 C0 from by repeat(first | (with_reducible first | exact HI0.out | apply IsS132.alloc | apply IsS132.drewN | apply IsS132.drew | apply IsS132.set_1 | apply IsS132.set_2) | exact HI0.out)) (pR D0.out) (by decide)) hk (fun _ h=>h.2)) (fun _ h=>h.1)) (zay jk hk (.inl rfl)) (hb) (hi);clear D0 HK HB HI0;obtain⟨D0,HK,HB,HI0⟩:=n_;(try clear hb);(try clear hb2);(try clear hk);(try clear hi)) | (refine jgc 124 ?_;refine jgs 14 Try.func124 #[.pointer (some ⟨g,0,none⟩)] ?_;(with_reducible refine(spec_l14DrawLine.calls k1 g s0_0 J0 K0 P0 Q0 R0 S0 G0 T0 U0 w0 _ ?side1 ?side2 A6.out).mono ?_);(case side1=>repeat(first | (with_reducible first | exact HI0.out | apply IsS132.alloc | apply IsS132.drewN | apply IsS132.drew | apply IsS132.set_1 | apply IsS132.set_2) | exact HI0.out));(case side2=>repeat(first | (with_reducible first | exact HB.out | apply zbe | apply zat | apply zba | refine zav ?_ (IsS132.ge HI0.out)) | exact HB.out));rintro e w10 ⟨v1202,rfl,ho0,hi,hb,hk⟩;refine⟨_,rfl,?_⟩;have n_:=jA5 (zam (Kd.R_told (Kd.R_oldK (IsS132.apart (show IsS132 w0 _ g s0_0 J0 K0 from by repeat(first | (with_reducible first | exact HI0.out | apply IsS132.alloc | apply IsS132.drewN | apply IsS132.drew | apply IsS132.set_1 | apply IsS132.set_2) | exact HI0.out)) (pR D0.out) (by decide)) hk) (zbg ho0)) (fun _ h_=>h_.1)) (zax (zdg ho0 (zce (pR D0.out))) (zcy (w:=w) (g:=g) (row:=none) jk)) (zay jk hk (.inl rfl)) (hb) (hi);clear D0 HK HB HI0;obtain⟨D0,o0,HK,HB,HI0⟩:=n_;clear hb hk hi ho0;obtain⟨Z0,n1,H1⟩:=zbd o0.out;subst H1) | (refine jgc 48 ?_;refine jgs 15 Try.func48 #[.agg #[.int .i64 P0, .string Q0, .int .i64 R0, .int .i64 S0, .slice Z0 G0.length n1]] ?_;(with_reducible refine(spec_LineBytes.calls k1 P0 Q0 R0 S0 _ _ G0 F0 _ ?side1 ?side2 A7.out).mono ?_);(case side1=>repeat(first | exact(zbp o0.out).2.2 | (with_reducible first | apply zdd | apply zdq | apply zeb)));(case side2=>exact(zbp o0.out).2.1);rintro e w12 ⟨v1207,rfl,ho0,hb⟩;refine⟨_,rfl,?_⟩;have qHO_3:=Kd.R_ofs (pR D0.out) hb;have n0_:=Aside0.mk (zbx qHO_3 (zbg ho0) hb);have qHO1203:=Kd.R_ofs (pR o0.out) hb;have n1_:=Aside0.mk (zbx qHO1203 (zbg ho0) hb);have n2_:=Aside0.mk (zax (zdg (zdg ho0 (zce qHO_3)) (zce qHO1203)) (zcy (w:=w) (g:=g) (row:=none) jk));have n3_:=Aside0.mk (IsS132.below (by repeat(first | (with_reducible first | exact HI0.out | apply IsS132.alloc | apply IsS132.drewN | apply IsS132.drew | apply IsS132.set_1 | apply IsS132.set_2) | exact HI0.out)) hb);have n4_:=Aside0.mk (zay jk (zcu hb g none) (.inl rfl));have n5_:=Aside0.mk (zac (bs1 (IsS132.ge HI0.out)) hb);clear qHO1203 D0;clear qHO_3 o0;clear HI0 HK HB;have D0:=n0_;have o0:=n1_;have E0:=n2_;have HI0:=n3_;have HK:=n4_;have HB:=n5_;clear n0_ n1_ n2_ n3_ n4_ n5_;clear hb ho0;obtain⟨E1,F1,I1⟩:=zbd E0.out;subst I1) | ((with_reducible refine zcd (b:= .append) (xs:= #[.tmp 12, .tmp 15]) rfl ?_);at_builtin;refine zej (Kd.int .u8) w.heap.size rfl (.tmp 12) (.tmp 15) 29 5 (.int .u8 0) 1 rfl Try.underlying29 info5 rfl (by decide) (by omega) u3 L0 F0 _ _ _ (fun k_=>some k_≠(.slice Z0 G0.length n1:Value).ownBlock∧some k_≠(.slice E1 F0.length F1:Value).ownBlock) (fun _=>False) rfl rfl ?aO ?aR (fun _ _ h=>h) (fun _ h=>h.elim) ?aF (zbo _ _) ?aS ?aL ?_;(case aR=>repeat(first | exact(zbp E0.out).2.2 | (with_reducible first | apply zdd | apply zdq | apply zeb)));(case aF=>exact(fun k_ hk=>⟨zdu (zce (pR o0.out)) k_ hk,zdu (zce (pR E0.out)) k_ hk⟩));(case aO=>exact(by(with_reducible repeat(first | apply zbl | apply zbm | apply zbs));exact zam D0.out (fun _ hk=>⟨hk.1.2,hk.2⟩)));(case aS=>exact(zcy (w:=w) (g:=g) (row:=none) jk));(case aL=>have:=LMc8.out;omega);intro v1210 w13 ho hb hg hat;rw[← Y0.out] at ho;have n_:=jA6 (IsS132.grown (by repeat(first | (with_reducible first | exact HI0.out | apply IsS132.alloc | apply IsS132.drewN | apply IsS132.drew | apply IsS132.set_1 | apply IsS132.set_2) | exact HI0.out)) hg (IsS132.own_ne HI0.out D0.out (by decide))) (zdo (ok:=(fun k_=>some k_≠(.slice E1 F0.length F1:Value).ownBlock)) (by(with_reducible repeat(first | apply zbl | apply zbm | apply zbs));exact zam o0.out (fun _ hk=>⟨hk.2,hk.1.2⟩)) hg hat) (zdo (ok:=(fun k_=>some k_≠(.slice Z0 G0.length n1:Value).ownBlock)) (by(with_reducible repeat(first | apply zbl | apply zbm | apply zbs));exact zam E0.out (fun _ hk=>⟨hk.2,hk.1.2⟩)) hg hat) (below_weaken (bs1 (IsS132.ge HI0.out)) HL.out hb) (zay jk (KeepBut.of_grown hg g) (Kd.R_base2 D0.out)) (ho);clear HI0 o0 E0 HB HK D0;obtain⟨HI0,o0,E0,HB,HK,C1⟩:=n_;clear ho hb hg hat))
     go_roundg k1
     case measure=>have:=J1.out;omega
     case rel=>exact⟨(W0),(wrap64 (M0+1)),(T0),(U0),jer,H',⟨by have:=J1.out;omega⟩,⟨tqR C1.out⟩,⟨by repeat(first | (with_reducible first | exact HI0.out | apply IsS132.alloc | apply IsS132.drewN | apply IsS132.drew | apply IsS132.set_1 | apply IsS132.set_2) | exact HI0.out)⟩,⟨by repeat(first | (with_reducible first | exact HK.out | apply zep | apply zfi | apply zfx | apply zfj) | exact HK.out)⟩,⟨bs1 (IsS132.ge HI0.out)⟩⟩
    rw[if_neg c8] at H
    exact absurd H (by simp)
   rw[if_neg c5] at H
   have G1:=zbf c5
   clear c5
   simp only[zaz,zbn] at H
   obtain⟨rfl,rfl,rfl⟩:=H
   go_wp2_with (first | (refine jgc 143 ?_;refine jgs 8 Try.func143 #[.pointer (some ⟨g,0,none⟩), .int .i64 8] ?_;(with_reducible refine(spec_l1Below.calls g s0_0 B0 C0 8 O0 J0 K0 w0 _ ?side1 ?side2 A4.out).mono ?_);(case side1=>repeat(first | (with_reducible first | exact HI0.out | apply IsS132.alloc | apply IsS132.drewN | apply IsS132.drew | apply IsS132.set_1 | apply IsS132.set_2) | exact HI0.out));(case side2=>repeat(first | (with_reducible first | exact HB.out | apply zbe | apply zat | apply zba | refine zav ?_ (IsS132.ge HI0.out)) | exact HB.out));rintro e w15 ⟨rfl,hi,hb,hk⟩;refine⟨_,rfl,?_⟩;have n_:=jA4 (zam (zef (IsS132.apart (show IsS132 w0 _ g s0_0 B0 C0 from by repeat(first | (with_reducible first | exact HI0.out | apply IsS132.alloc | apply IsS132.drewN | apply IsS132.drew | apply IsS132.set_1 | apply IsS132.set_2) | exact HI0.out)) (pR D0.out) (by decide)) hk (fun _ h=>h.2)) (fun _ h=>h.1)) (zay jk hk (.inl rfl)) (hb) (hi);clear D0 HK HB HI0;obtain⟨D0,HK,HB,HI0⟩:=n_;(try clear hb);(try clear hb2);(try clear hk);(try clear hi)))
   go_ret
   exact⟨_,jex,by(with_reducible repeat(first | apply zbl | apply zbm | apply zbs));exact D0.out,by repeat(first | (with_reducible first | exact HI0.out | apply IsS132.alloc | apply IsS132.drewN | apply IsS132.drew | apply IsS132.set_1 | apply IsS132.set_2) | exact HI0.out),by repeat(first | (with_reducible first | exact HB.out | apply zbe | apply zat | apply zba | refine zav ?_ (IsS132.ge HI0.out)) | exact HB.out),by repeat(first | (with_reducible first | exact HK.out | apply zep | apply zfi | apply zfx | apply zfj) | exact HK.out)⟩
def spec_DrawPlay.f (k:Nat) (l0:List Int):Option (List Int):=(spec_l1New.f k l0).bind fun s=>(spec_l14DrawBook.f k s.1 s.2.1 s.2.2).bind fun b=>(spec_l14Dent.f s.1 b.2.1 b.2.2 b.1).bind fun r=>some r.1
theorem spec_DrawPlay.mono:∀ a0 k,LeO (spec_DrawPlay.f k a0) (spec_DrawPlay.f (k+1) a0):=by
 intro a0 k
 unfold spec_DrawPlay.f
 have m0:=@spec_l1New.mono
 have m1:=@spec_l14DrawBook.mono
 exact mt
theorem spec_DrawPlay.calls (k:Nat) (A0:Option Addr) (c0:Nat) (l0:List Int) (r1:List Int) (w:World) (hr0:Kd.C (Kd.int .u8) w A0 l0.length l0) (hc0:l0.length≤c0) (h:spec_DrawPlay.f k l0=some r1):
  Calls Try.prog 73 #[.slice A0 l0.length c0] w fun e w'=>∃ v0_:Value,e= .returned v0_∧Kd.V (Kd.int .u8) 5 w' w.heap.size (fun _=>True) v0_ r1∧Below w.heap.size w w':=by
 have HR0:=Aside0.mk hr0
 have o0:=Aside0.mk hc0
 clear hr0 hc0
 unfold spec_DrawPlay.f at h
 obtain⟨⟨s0,s1,s2⟩,F1,G⟩:=bnn h;clear h
 obtain⟨⟨b,b1,b2⟩,F2,H⟩:=bnn G;clear G
 obtain⟨⟨d,d1,d2⟩,F3,G⟩:=bnn H;clear H
 obtain rfl:=Option.some.inj G
 dsimp only at F2 F3
 go_enter Try.func73,Try.ntmps73
 go_wp2_with (first | ((with_reducible refine kd 5 ?_);refine kc 117 5 Try.func117 #[.slice A0 l0.length c0] ?_;with_reducible refine(spec_l1New.calls k _ _ l0 s0 s1 s2 w w (zbo _ _) HR0.out o0.out F1.out).mono ?_;rintro e w_ ⟨g,rfl,hi,hb,hb2⟩;refine⟨_,rfl,?_⟩;have HI:=Aside0.mk hi;have HB:=Aside0.mk hb;clear hi hb hb2) | ((with_reducible refine kd 8 ?_);refine kc 126 8 Try.func126 #[.pointer (some ⟨g,0,none⟩)] ?_;with_reducible refine(spec_l14DrawBook.calls k g s0 s1 s2 b b1 b2 w _ HI.out HB.out F2.out).mono ?_;rintro e w_ ⟨v,rfl,hr,hi,hb,hk⟩;refine⟨_,rfl,?_⟩;have hlt:=HI.out.lt;have HV:=Aside0.mk (Kd.R_V (base':=w_.heap.size) (zam (Kd.R_bound hr) (ok':=fun k_=>k_≠g) (fun k_ h=>by have:=h.2.1;omega)));clear HI HB hr;have HI:=Aside0.mk hi;have HB:=Aside0.mk hb;clear hi hb hk hlt;obtain⟨A1,c1,e1⟩:=Kd.V_slice HV.out;subst e1) | ((with_reducible refine kd 9 ?_);refine kc 125 9 Try.func125 #[.pointer (some ⟨g,0,none⟩), .slice A1 b.length c1] ?_;with_reducible refine(spec_l14Dent.calls g s0 b1 b2 _ _ b d d1 d2 w _ HI.out HB.out HV.out F3.out).mono ?_;rintro e w_ ⟨v2,rfl,hv,hi,hb,hk⟩;refine⟨_,rfl,?_⟩;have HW:=Aside0.mk hv;clear HB;have HB:=Aside0.mk hb;clear hv hi hb hk))
 go_ret
 exact⟨_,rfl,zgs HW.out (fun _ _=>trivial),HB.out⟩
def spec_DrawLineOk.f (k:Nat) (l0:List Int):Option (Int×ByteArray×Int×Int×List Int):=(spec_l1New.f k l0).bind fun bt1213=>((spec_l14DrawLine.f k bt1213.1 bt1213.2.1 bt1213.2.2).bind fun bt1217=>(some (bt1217.1,bt1217.2.1,bt1217.2.2.1,bt1217.2.2.2.1,bt1217.2.2.2.2.1)))
theorem spec_DrawLineOk.mono:∀ a0 k,LeO (spec_DrawLineOk.f k a0) (spec_DrawLineOk.f (k+1) a0):=by
 intro a0 k
 unfold spec_DrawLineOk.f
 have m0:=@spec_l14DrawLine.mono
 have m1:=@spec_l1New.mono
 exact mt
theorem spec_DrawLineOk.calls (k:Nat) (A0:Option Addr) (c0:Nat) (l0:List Int) (r1:Int) (r2:ByteArray) (r3:Int) (r4:Int) (r5:List Int) (w:World) (hr0:Kd.C (Kd.int .u8) w A0 l0.length l0) (hc0:l0.length≤c0) (h:spec_DrawLineOk.f k l0=some (r1,r2,r3,r4,r5)):
  Calls Try.prog 74 #[.slice A0 l0.length c0] w fun e w'=>∃ v4_:Value,e= .returned (.agg #[.int .i64 r1, .string r2, .int .i64 r3, .int .i64 r4,v4_])∧Kd.R (Kd.int .u8) 5 w' w.heap.size (fun _=>True) v4_ r5∧Below w.heap.size w w':=by
 have hu48:=Try.underlying48
 have HR0:=Aside0.mk hr0
 have F1:=Aside0.mk hc0
 clear hr0 hc0
 have HB:=Aside0.mk (zbo w.heap.size w)
 have H:((spec_l1New.f k l0).bind fun bt1213=>((spec_l14DrawLine.f k bt1213.1 bt1213.2.1 bt1213.2.2).bind fun bt1217=>(some (bt1217.1,bt1217.2.1,bt1217.2.2.1,bt1217.2.2.2.1,bt1217.2.2.2.2.1))))=some (r1,r2,r3,r4,r5):=h
 clear h
 obtain⟨⟨M0,N0,O0⟩,A2,H⟩:=bnd H
 try dsimp only at H
 obtain⟨⟨F0,H0,I0,J0,K0,P0,Q0⟩,A3,H⟩:=bnd H
 try dsimp only at H
 simp only[zaz,zbn] at H
 obtain⟨rfl,rfl,rfl,rfl,rfl⟩:=H
 go_enter Try.func74,Try.ntmps74
 go_wp2_with (first | (refine jgd 2 ?_;refine bx 2 (#[.int .i64 0, .string (⟨#[]⟩:ByteArray), .int .i64 0, .int .i64 0, .slice none 0 0]) 48 ?_;intro C0 hg w4 hbox hb;have xb_:=below_ofs bq hb;have n_:=jA4 (zac xb_ hb) (hbox) (ge0 hg xb_:w.heap.size≤C0) (ge0 hg xb_:w.heap.size≤C0);clear HB;obtain⟨HB,o0,R0,G0⟩:=n_;clear xb_ hb hbox hg) | (refine jgc 117 ?_;refine jgs 4 Try.func117 #[.slice A0 l0.length c0] ?_;(with_reducible refine(spec_l1New.calls k _ _ l0 M0 N0 O0 w _ ?side1 ?side2 ?side3 A2.out).mono ?_);(case side1=>repeat(first | (with_reducible first | exact HB.out | apply zbe | apply zat | apply zba | refine zav ?_ G0.out) | exact HB.out));(case side2=>exact HR0.out);(case side3=>exact F1.out);rintro e w5 ⟨g1216,rfl,hi,hb,hb2⟩;refine⟨_,rfl,?_⟩;have n_:=jA5 (blk_below (pB o0.out) hb2) (hb) (hi) (IsS132.ne_blk hi (blk_below (pB o0.out) hb2) (by decide)) (Ne.symm (IsS132.ne_blk hi (blk_below (pB o0.out) hb2) (by decide)));clear o0 HB;obtain⟨o0,HB,B0,D0,E0⟩:=n_;(try clear hb);(try clear hb2);(try clear hk);(try clear hi)) | (refine jgc 124 ?_;refine jgs 5 Try.func124 #[.pointer (some ⟨g1216,0,none⟩)] ?_;(with_reducible refine(spec_l14DrawLine.calls k g1216 M0 N0 O0 F0 H0 I0 J0 K0 P0 Q0 w _ ?side1 ?side2 A3.out).mono ?_);(case side1=>repeat(first | (with_reducible first | exact B0.out | apply IsS132.alloc | apply IsS132.drewN | apply IsS132.drew | apply IsS132.set_1 | apply IsS132.set_2 | refine IsS132.far ?_ D0.out _) | exact B0.out));(case side2=>repeat(first | (with_reducible first | exact HB.out | apply zbe | apply zat | apply zba | refine zav ?_ (IsS132.ge B0.out) | refine zav ?_ G0.out) | exact HB.out));rintro e w6 ⟨v1222,rfl,ho0,hi,hb,hk⟩;refine⟨_,rfl,?_⟩;have n_:=jA4 (zcf hk (g':=C0) (o:= .cells #[.int .i64 0, .string (⟨#[]⟩:ByteArray), .int .i64 0, .int .i64 0, .slice none 0 0] 48 (0,0)) (pB o0.out) E0.out (by simp)) (zax ho0 (zal (bs2 (IsS132.ge B0.out) G0.out))) (hb) (hi);clear o0 HB B0;obtain⟨o0,L0,HB,B0⟩:=n_;clear hb hk hi ho0;have G1:=E0.out;have H1:=D0.out;obtain⟨S0,T0,U0,V0,W0,X0,Y0,Z0,n1,C1⟩:=cz5 o0.out;obtain⟨D1,E1,I1⟩:=zbd L0.out;subst I1))
 refine zdp (zes rfl _ _ C0 48 #[.int .i64 F0, .string H0, .int .i64 I0, .int .i64 J0, .slice D1 K0.length E1] (0,0) _ rfl (by(with_reducible repeat(first | refine zaj ?_ _ | refine zan ?_ | refine zak ?_ _));refine zbw (cs:= #[.int .i64 F0, .string H0, .int .i64 I0, .int .i64 J0, .slice none 0 0]) ?_ 4 _ rfl;(with_reducible repeat(first | refine zaj ?_ _ | refine zan ?_ | refine zak ?_ _));refine zbw (cs:= #[.int .i64 F0, .string H0, .int .i64 I0, .int .i64 0, .slice none 0 0]) ?_ 3 _ rfl;(with_reducible repeat(first | refine zaj ?_ _ | refine zan ?_ | refine zak ?_ _));refine zbw (cs:= #[.int .i64 F0, .string H0, .int .i64 0, .int .i64 0, .slice none 0 0]) ?_ 2 _ rfl;(with_reducible repeat(first | refine zaj ?_ _ | refine zan ?_ | refine zak ?_ _));refine zbw (cs:= #[.int .i64 F0, .string (⟨#[]⟩:ByteArray), .int .i64 0, .int .i64 0, .slice none 0 0]) ?_ 1 _ rfl;(with_reducible repeat(first | refine zaj ?_ _ | refine zan ?_ | refine zak ?_ _));refine zbw (cs:= #[.int .i64 0, .string (⟨#[]⟩:ByteArray), .int .i64 0, .int .i64 0, .slice none 0 0]) ?_ 0 _ rfl;(with_reducible repeat(first | refine zaj ?_ _ | refine zan ?_ | refine zak ?_ _));exact o0.out) Try.underlying48 rfl (by kernel_rfl)) rfl ?_
 exact⟨_,jex,by(with_reducible repeat(first | apply zbl | apply zbm | apply zbs));exact zam (zcx (p:=⟨C0,4,none⟩) (zcx (p:=⟨C0,3,none⟩) (rf3 L0.out o0.out) (fun _ hk=>hk.2) (.int .i64 J0)) (fun _ hk=>hk.2) (.slice D1 K0.length E1)) (fun _ hk=>trivial),(bs2 (IsS132.ge B0.out) G0.out)⟩
end Go.Proofs.Ytlalkldjpniakaa.P
