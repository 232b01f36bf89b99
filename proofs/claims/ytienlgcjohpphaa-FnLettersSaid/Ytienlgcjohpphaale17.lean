import Derived.Lib.SlBytesConst
import Derived.Test.Ytienlgcjohpphaale16
namespace Go.Proofs.Ytienlgcjohpphaa.P
open Go.RowKit Go.Proofs.YtienlgcjohpphaaW.PrintWords Go.Proofs.YtienlgcjohpphaaW.PrintLast Go.Proofs.YtienlgcjohpphaaW.PrintMore
attribute [local go_sem] zcn zco zdk zdl zce zcf zcp zcq -- for this text's walks alone
set_option linter.unusedVariables false
set_option linter.unusedSimpArgs false
set_option maxHeartbeats 8000000
set_option maxRecDepth 100000

theorem spec_KeysOf.lit (W:World) (xs:List Int) (p:Nat×Nat) (b0:Nat) (hm:xs.length≤1000):Kd.V (Kd.int .u8) 5 (W.alloc (.cells (xs.map (Value.int .u8)).toArray 5 p)) b0 (fun _=>True) (.slice (some ⟨W.heap.size,0,none⟩) xs.length xs.length) xs:=by
 have hg:(W.alloc (.cells (xs.map (Value.int .u8)).toArray 5 p)).heap[W.heap.size]? =some (.cells (xs.map (Value.int .u8)).toArray 5 p):=heap_alloc_new W _
 have hC:Kd.C (Kd.int .u8) (W.alloc (.cells (xs.map (Value.int .u8)).toArray 5 p)) (some ⟨W.heap.size,0,none⟩) xs.length xs:=by
  refine Kd.C_of_reads (readsInt_of.1 ⟨rfl,by omega,fun _=>⟨_,rfl,fun j hj=>?_⟩⟩)
  rw[add_plain,cell_of_row _ W.heap.size _ _ 5 p hg]
  simp [List.getD_eq_getElem?_getD,hj]
 exact zga (zav _) (zfd (Kd.C_F (zgg .u8) hC) (fun _ _=>trivial))
theorem spec_KeysOf.conv {ops:Array Oper} {rest:List Oper} {o:Oper} {a:Act} {W:World} {Q:Exit→Act→World→Prop} (hg:o.guard=none) (x:Operand) (hop:o.op=Op.convert 23 23 x) (xs l:List Int) (hl:l=xs) (hm:xs.length≤1000)
  (hv:a.eval x= .slice (some ⟨W.heap.size,0,none⟩) xs.length xs.length)
  (hK:∀ A c,c=l.length→Kd.V (Kd.int .u8) 5 (W.alloc (.cells (xs.map (Value.int .u8)).toArray 5 ((xs.map (Value.int .u8)).toArray.size,(xs.map (Value.int .u8)).toArray.size+1))) 0 (fun _=>True) (.slice A l.length c) l→wpList Try.prog ops Q rest (a.put o.dst (.slice A l.length c)) (W.alloc (.cells (xs.map (Value.int .u8)).toArray 5 ((xs.map (Value.int .u8)).toArray.size,(xs.map (Value.int .u8)).toArray.size+1)))):
  wpList Try.prog ops Q (o :: rest) a (W.alloc (.cells (xs.map (Value.int .u8)).toArray 5)):=by
 subst hl
 have hrun:=Lib.run_convert_bytes_const (P:=Try.prog) W 23 5 (l.map (Value.int .u8)).toArray l.length l.length Try.underlying23 (by kernel_rfl)
 have h:=hK _ _ rfl (spec_KeysOf.lit W l _ 0 hm)
 refine wpList_plain hg fun K hK'=>?_
 unfold Oper.wp
 simp [execOp,hop,hv,hrun,Result.andThen]
 rw[show(List.map (Value.int .u8) l).toArray.size=l.length from by simp] at h
 exact hK' _ _ h
theorem spec_KeysOf.app {ops:Array Oper} {rest:List Oper} {o:Oper} {a:Act} {w:World} {Q:Exit→Act→World→Prop} (hg:o.guard=none) (s x:Operand) (hop:o.op=Op.call {callee:=Callee.builtin Builtin.append,args:= #[s,x],argTypes:= #[23,23]})
  {A0 A1:Option Addr} {c0 c1:Nat} {la lb:List Int} (hs:a.eval s= .slice A0 la.length c0) (hx:a.eval x= .slice A1 lb.length c1) (hA:Kd.C (Kd.int .u8) w A0 la.length la) (hB:Kd.C (Kd.int .u8) w A1 lb.length lb) (hc:c0=la.length) (h0:0<la.length) (h1:0<lb.length) (hm:la.length+lb.length≤100000)
  (hK:∀ v' w',Kd.R (Kd.int .u8) 5 w' w.heap.size (fun _=>True) v' (la++lb)→Below w.heap.size w w'→wpList Try.prog ops Q rest (a.put o.dst v') w'):
  wpList Try.prog ops Q (o :: rest) a w:=by
 obtain⟨ad0,rfl,hcA⟩:=hA.2.2 h0
 obtain⟨ad1,rfl,hcB⟩:=hB.2.2 h1
 have cells:∀ (l:List Int) (ad:Addr),(∀ i z,l[i]? =some z→∃ c,c.length=(Kd.int .u8).sz∧(Kd.int .u8).K w z c∧∀ j u,c[j]? =some u→w.cell? (ad.add (i*(Kd.int .u8).sz+j))=some u)→∀ j u,(l.map (Value.int .u8))[j]? =some u→w.cell? (ad.add j)=some u:=by
  intro l ad h j u hj
  rw[List.getElem?_map] at hj
  obtain⟨z,hz,rfl⟩:=zgo.1 hj
  obtain⟨c,hc1,hc2,hc3⟩:=h j z hz
  have h3:=hc3 0 (.int .u8 z) (by rw[hc2];rfl)
  rw[show j*(Kd.int .u8).sz+0=j from by show j*1+0=j;omega] at h3
  exact h3
 obtain⟨ti,hti,hz⟩:=zgo.1 info5
 simp only[zcu] at hz
 refine wpList_append_grows (P:=Try.prog) w hg s x 23 hop 5 ti (.int .u8 0) 1 1 Try.underlying23 hti hz.1 hz.2.1 hz.2.2 rfl (by decide) (some ad0) la.length c0 (la.map (Value.int .u8)) hs (fun h=>by cases h) (by rw[zfn];omega)
  (fun b hb=>by obtain rfl:=Option.some.inj hb;exact cells la _ hcA) ad1 lb.length c1 (lb.map (Value.int .u8)) hx (by rw[zfn];omega) (cells lb ad1 hcB) (fun u hu=>by obtain⟨z,_,rfl⟩:=List.mem_map.1 hu;rfl) (by omega) (by unfold maxLen;omega) (by omega) ?_
 intro v' w' ho hgr
 refine hK v' w' (Kd.R_of_own ?_ (fun _ _=>trivial)) ⟨hgr.os,hgr.tape,hgr.output,hgr.size,fun i hi=>hgr.block i hi (by simp)⟩
 rw[← List.map_append] at ho
 have h:=ho.lax
 rw[← zfo] at h
 exact h
def spec_KeysOf.f (k:Nat) (l0 l1 l2:List Int):Option (List Int×List Int):=if l1.length+l2.length≤10000000 then(spec_Derive.f k (l1++l2) l0 [112,108,117,109,101] 44).bind fun t=>if t.length=44 then some (t.take 32,t.drop 32) else none else none
theorem spec_KeysOf.mono:∀ a0 a1 a2 k,LeO (spec_KeysOf.f k a0 a1 a2) (spec_KeysOf.f (k+1) a0 a1 a2):=by
 intro a0 a1 a2 k
 unfold spec_KeysOf.f
 have m0:=@spec_Derive.mono
 exact mt
theorem spec_KeysOf.calls (k:Nat) (AA:Option Addr) (cA:Nat) (lA:List Int) (AB:Option Addr) (cB:Nat) (lB:List Int) (AC:Option Addr) (cC:Nat) (lC:List Int) (r1 r2:List Int) (w:World) (hr0:Kd.C (Kd.int .u8) w AA lA.length lA) (hc0:lA.length≤cA) (hr1:Kd.C (Kd.int .u8) w AB lB.length lB) (hc1:lB.length≤cB) (hr2:Kd.C (Kd.int .u8) w AC lC.length lC) (hc2:lC.length≤cC) (h:spec_KeysOf.f k lA lB lC=some (r1,r2)):
  Calls Try.prog 49 #[.slice AA lA.length cA, .slice AB lB.length cB, .slice AC lC.length cC] w fun e w'=>∃ v0_ v1_:Value,e= .returned (.tuple #[v0_,v1_])∧Kd.R (Kd.int .u8) 5 w' w.heap.size (fun k_=>some k_≠(v1_:Value).ownBlock) v0_ r1∧Kd.R (Kd.int .u8) 5 w' w.heap.size (fun k_=>some k_≠(v0_:Value).ownBlock) v1_ r2∧Below w.heap.size w w':=by
 have HB:=Aside0.mk (zbk w.heap.size w)
 unfold spec_KeysOf.f at h
 by_cases q1:lB.length+lC.length≤10000000
 case neg=>rw[if_neg q1] at h;cases h
 rw[if_pos q1] at h
 obtain⟨lK,A_,h⟩:=zcv.mp h
 by_cases q2:lK.length=44
 case neg=>rw[if_neg q2] at h;cases h
 rw[if_pos q2] at h
 simp only[zcb,zcu] at h
 obtain⟨h1,h2⟩:=h
 have HVA:Aside0 (Kd.V (Kd.int .u8) 5 w w.heap.size (fun _=>True) (.slice AA lA.length cA) lA):=⟨zga hc0 (zfd (Kd.C_F (zgg .u8) hr0) (fun _ _=>trivial))⟩
 have HCB:=Aside0.mk hr1
 have HCC:=Aside0.mk hr2
 have HSZ:=Aside0.mk q1
 obtain⟨lS,hS⟩:∃ y_:List Int,y_=lB++lC:=⟨_,rfl⟩
 rw[← hS] at A_
 have NyS:=Aside0.mk hS
 obtain⟨lL,hL⟩:∃ y_:List Int,y_=[112,108,117,109,101]:=⟨_,rfl⟩
 rw[← hL] at A_
 have NyL:=Aside0.mk hL
 have FD:=Aside0.mk A_
 have d0:((lK.length:Int) != 44)=false:=by rw[q2];rfl
 have HK44:=Aside0.mk q2
 have H1:=Aside0.mk h1
 have H2:=Aside0.mk h2
 clear hS hL A_ q1 q2 h1 h2 hr0 hc0 hr1 hr2
 go_enter Try.func49,Try.ntmps49
 go_wp2_with (first | (refine jgd 10 ?_;refine jlt 10 (Kd.int .u8) 5 ?_;intro v1_ w1_ ho hb;have HR1_:=Aside0.mk ho;have mb_:=Aside0.mk (zal bq hb);clear HB hb ho;have HB:=mb_;clear mb_) | ((with_reducible refine zde (b:= .append) (xs:= #[.tmp 10, .tmp 11]) rfl ?_);at_builtin;refine zdw (Kd.int .u8) (w0:=w) w.heap.size rfl (.tmp 10) (.tmp 11) 23 5 (.int .u8 0) 1 rfl Try.underlying23 info5 rfl (by decide) (by omega) v1_ [] lB _ _ _ (fun _=>True) (fun _=>False) rfl rfl ?aO ?aR (fun _ _ h=>h) (fun _ h=>h.elim) ?aF ?aB ?aS ?aL ?_;(case aR=>exact Kd.C_below HCB.out HB.out);(case aB=>exact HB.out);(case aF=>exact(fun _ _=>trivial));(case aO=>exact HR1_.out);(case aS=>exact HB.out.size);(case aL=>have:=HSZ.out;simp;omega);intro v2_ w_ ho hb hg hat;rw[List.nil_append] at ho;have n_:=jA2 (hb) (ho);clear HB HR1_;obtain⟨HB,HR2_⟩:=n_;clear ho hb hg hat) | ((with_reducible refine zde (b:= .append) (xs:= #[.tmp 12, .tmp 13]) rfl ?_);at_builtin;refine zdw (Kd.int .u8) (w0:=w) w.heap.size rfl (.tmp 12) (.tmp 13) 23 5 (.int .u8 0) 1 rfl Try.underlying23 info5 rfl (by decide) (by omega) v2_ lB lC _ _ _ (fun _=>True) (fun _=>False) rfl rfl ?aO ?aR (fun _ _ h=>h) (fun _ h=>h.elim) ?aF ?aB ?aS ?aL ?_;(case aR=>exact Kd.C_below HCC.out HB.out);(case aB=>exact HB.out);(case aF=>exact(fun _ _=>trivial));(case aO=>exact HR2_.out);(case aS=>exact HB.out.size);(case aL=>have:=HSZ.out;simp;omega);intro v3_ w_ ho hb hg hat;rw[← NyS.out] at ho;have n_:=jA2 (hb) (ho);clear HB HR2_;obtain⟨HB,HR3_⟩:=n_;clear ho hb hg hat;have ho3_:=HR3_.out;clear HR3_;obtain⟨AS,cS,e_⟩:=zbb ho3_;subst e_;have HVS:=Aside0.mk (show Kd.V (Kd.int .u8) 5 _ w.heap.size (fun _=>True) _ _ from zga (zam ho3_).2.1 (zfd (Kd.R_F ho3_) (fun _ _=>trivial)));clear ho3_;have mA_:=Aside0.mk (zcw HVA.out HB.out);clear HVA;have HVA:=mA_;clear mA_) | (refine jgd 18 ?_;refine spec_KeysOf.conv rfl (.tmp 17) rfl [112,108,117,109,101] lL NyL.out (by decide) rfl ?_;intro AL cL hc_ hv_;simp only[List.map_cons,List.map_nil,List.size_toArray,List.length_cons,List.length_nil,Nat.zero_add,Nat.reduceAdd] at hv_;have HcL:=Aside0.mk hc_;have HVL:=Aside0.mk hv_;clear hc_ hv_) | (refine jgc 45 ?_;refine jgs 19 Try.func45 #[.slice AS lS.length cS, .slice AA lA.length cA, .slice AL lL.length cL, .int .i64 44] ?_;(with_reducible refine(spec_Derive.calls k _ _ lS _ _ lA _ _ lL 44 lK _ ?side1 ?side2 ?side3 ?side4 ?side5 ?side6 FD.out).mono ?_);(case side1=>exact(zbx (by repeat(first | (with_reducible first | exact HVS.out | apply zbn | apply zbo | apply zbu) | exact HVS.out))).2.2);(case side2=>exact(zbx HVS.out).2.1);(case side3=>exact(zbx (by repeat(first | (with_reducible first | exact HVA.out | apply zbn | apply zbo | apply zbu) | exact HVA.out))).2.2);(case side4=>exact(zbx HVA.out).2.1);(case side5=>exact(zbx HVL.out).2.2);(case side6=>exact(zbx HVL.out).2.1);rintro e w_ ⟨v_,rfl,ho_,hb⟩;refine⟨_,rfl,?_⟩;obtain⟨AK,cK,e_⟩:=zbb ho_;subst e_;have mn_:=Aside0.mk (show Kd.V (Kd.int .u8) 5 _ w.heap.size (fun _=>True) _ _ from zga (zam ho_).2.1 (zfd (Kd.R_F ho_) (fun _ _=>trivial)));have mb_:=Aside0.mk (zal bq hb);clear HVA HVS HVL HB;have HVK:=mn_;have HB:=mb_;clear mn_ mb_;clear ho_ hb))
 have hk44:=HK44.out
 obtain⟨Ax,cx,hcutx,hlx,hCx⟩:=cut_u8_to (P:=Try.prog) 23 5 Try.underlying23 info5 AK cK lK 32 (by omega) (by omega) (zbx HVK.out).2.1
 obtain⟨Ay,cy,hcuty,hly,hCy⟩:=cut_u8_from (P:=Try.prog) 23 5 Try.underlying23 info5 AK cK lK 32 (by omega) (by omega) (zbx HVK.out).2.1
 refine spec_KeysOf.r5 lK _ _ AK Ax Ay cK cx cy (by rw[zdc];omega) (by rw[zdc];omega) (by rw[zdb];omega) (by rw[zdb];omega) hcutx (hCx _ (zbx HVK.out).2.2) hcuty (hCy _ (zbx HVK.out).2.2) rfl rfl ?_
 intro w5 v25 v28 v29 v32 hb5 r28 r32
 have R28:=Aside0.mk (zaq r28 HB.out.size)
 have R32:=Aside0.mk (zaq r32 HB.out.size)
 have HB5:=Aside0.mk (zal HB.out hb5)
 clear hb5 r28 r32 HB hcutx hcuty hCx hCy
 simp only[Act.put,zaa,zae,zaf]
 try go_wp2
 go_ret2
 refine⟨_,_,rfl,?_,?_,HB5.out⟩
 ·rw[← H1.out];exact R28.out
 rw[← H2.out];exact R32.out
def impl_Word.f (a0:Int):Option (Int):=some (Go.bits .and .i64 a0 4294967295)
theorem impl_Word.calls (a0:Int) (r:Int) (w:World) (h:impl_Word.f a0=some r):
  Calls Try.prog 71 #[.int .i64 a0] w fun e w'=>e= .returned (.int .i64 r)∧Drawn0 w w':=by
 have H:(some (Go.bits .and .i64 a0 4294967295))=some r:=h
 clear h
 obtain rfl:=Option.some.inj H
 go_enter Try.func71,Try.ntmps71
 go_wp2
 go_ret
 exact⟨by first | rfl | (simp;done) | (simp [*];done),by repeat(first | exact Drawn0.refl _ | apply Drawn0.step)⟩
def impl_rounds.f:Option (List Int):=some (([1116352408,1899447441,3049323471,3921009573,961987163,1508970993,2453635748,2870763221,3624381080,310598401,607225278,1426881987,1925078388,2162078206,2614888103,3248222580,3835390401,4022224774,264347078,604807628,770255983,1249150122,1555081692,1996064986,2554220882,2821834349,2952996808,3210313671,3336571891,3584528711,113926993,338241895,666307205,773529912,1294757372,1396182291,1695183700,1986661051,2177026350,2456956037,2730485921,2820302411,3259730800,3345764771,3516065817,3600352804,4094571909,275423344,430227734,506948616,659060556,883997877,958139571,1322822218,1537002063,1747873779,1955562222,2024104815,2227730452,2361852424,2428436474,2756734187,3204031479,3329325298]:List Int))
theorem impl_rounds.calls (r:List Int) (w:World) (h:impl_rounds.f=some r):
  Calls Try.prog 72 #[] w fun e w'=>∃ v0_:Value,e= .returned (v0_)∧Kd.R (Kd.int .i64) 3 w' w.heap.size (fun _=>True) v0_ r∧Below w.heap.size w w':=by
 have HB:=Aside0.mk (zbk w.heap.size w)
 have H:(some (([1116352408,1899447441,3049323471,3921009573,961987163,1508970993,2453635748,2870763221,3624381080,310598401,607225278,1426881987,1925078388,2162078206,2614888103,3248222580,3835390401,4022224774,264347078,604807628,770255983,1249150122,1555081692,1996064986,2554220882,2821834349,2952996808,3210313671,3336571891,3584528711,113926993,338241895,666307205,773529912,1294757372,1396182291,1695183700,1986661051,2177026350,2456956037,2730485921,2820302411,3259730800,3345764771,3516065817,3600352804,4094571909,275423344,430227734,506948616,659060556,883997877,958139571,1322822218,1537002063,1747873779,1955562222,2024104815,2227730452,2361852424,2428436474,2756734187,3204031479,3329325298]:List Int)))=some r:=h
 clear h
 obtain⟨y196,hy196⟩:∃ y_:List Int,y_=(([1116352408,1899447441,3049323471,3921009573,961987163,1508970993,2453635748,2870763221,3624381080,310598401,607225278,1426881987,1925078388,2162078206,2614888103,3248222580,3835390401,4022224774,264347078,604807628,770255983,1249150122,1555081692,1996064986,2554220882,2821834349,2952996808,3210313671,3336571891,3584528711,113926993,338241895,666307205,773529912,1294757372,1396182291,1695183700,1986661051,2177026350,2456956037,2730485921,2820302411,3259730800,3345764771,3516065817,3600352804,4094571909,275423344,430227734,506948616,659060556,883997877,958139571,1322822218,1537002063,1747873779,1955562222,2024104815,2227730452,2361852424,2428436474,2756734187,3204031479,3329325298]:List Int)):=⟨_,rfl⟩
 replace H:(some y196)=some r:=jrw hy196 H
 have Ny196:=Aside0.mk hy196
 clear hy196
 obtain rfl:=Option.some.inj H
 go_enter Try.func72,Try.ntmps72
 go_wp2_with (first | (refine jgd 1 ?_;refine Kd.R_lit (Kd.int .i64) _ 3 ?hg (N:=1) ?hd (xs:=([1116352408,1899447441,3049323471,3921009573,961987163,1508970993,2453635748,2870763221,3624381080,310598401,607225278,1426881987,1925078388,2162078206,2614888103,3248222580,3835390401,4022224774,264347078,604807628,770255983,1249150122,1555081692,1996064986,2554220882,2821834349,2952996808,3210313671,3336571891,3584528711,113926993,338241895,666307205,773529912,1294757372,1396182291,1695183700,1986661051,2177026350,2456956037,2730485921,2820302411,3259730800,3345764771,3516065817,3600352804,4094571909,275423344,430227734,506948616,659060556,883997877,958139571,1322822218,1537002063,1747873779,1955562222,2024104815,2227730452,2361852424,2428436474,2756734187,3204031479,3329325298]:List Int)) (inner:=[.int .i64 1116352408, .int .i64 1899447441, .int .i64 3049323471, .int .i64 3921009573, .int .i64 961987163, .int .i64 1508970993, .int .i64 2453635748, .int .i64 2870763221, .int .i64 3624381080, .int .i64 310598401, .int .i64 607225278, .int .i64 1426881987, .int .i64 1925078388, .int .i64 2162078206, .int .i64 2614888103, .int .i64 3248222580, .int .i64 3835390401, .int .i64 4022224774, .int .i64 264347078, .int .i64 604807628, .int .i64 770255983, .int .i64 1249150122, .int .i64 1555081692, .int .i64 1996064986, .int .i64 2554220882, .int .i64 2821834349, .int .i64 2952996808, .int .i64 3210313671, .int .i64 3336571891, .int .i64 3584528711, .int .i64 113926993, .int .i64 338241895, .int .i64 666307205, .int .i64 773529912, .int .i64 1294757372, .int .i64 1396182291, .int .i64 1695183700, .int .i64 1986661051, .int .i64 2177026350, .int .i64 2456956037, .int .i64 2730485921, .int .i64 2820302411, .int .i64 3259730800, .int .i64 3345764771, .int .i64 3516065817, .int .i64 3600352804, .int .i64 4094571909, .int .i64 275423344, .int .i64 430227734, .int .i64 506948616, .int .i64 659060556, .int .i64 883997877, .int .i64 958139571, .int .i64 1322822218, .int .i64 1537002063, .int .i64 1747873779, .int .i64 1955562222, .int .i64 2024104815, .int .i64 2227730452, .int .i64 2361852424, .int .i64 2428436474, .int .i64 2756734187, .int .i64 3204031479, .int .i64 3329325298]) (ok:=fun _=>True) (okp:=fun _=>True) ?hr ?hp (fun _ hk=>hk) trivial (zbk _ _) (zav _) (by simp) ?_;(case hd=>rfl);(case hg=>rfl);(case hr=>first | (go_simp;done) | (go_simp;rfl));(case hp=>exact(zan (show Kd.M (Kd.int .i64) _ _ _ 1116352408 [.int .i64 1116352408] from rfl) (zan (show Kd.M (Kd.int .i64) _ _ _ 1899447441 [.int .i64 1899447441] from rfl) (zan (show Kd.M (Kd.int .i64) _ _ _ 3049323471 [.int .i64 3049323471] from rfl) (zan (show Kd.M (Kd.int .i64) _ _ _ 3921009573 [.int .i64 3921009573] from rfl) (zan (show Kd.M (Kd.int .i64) _ _ _ 961987163 [.int .i64 961987163] from rfl) (zan (show Kd.M (Kd.int .i64) _ _ _ 1508970993 [.int .i64 1508970993] from rfl) (zan (show Kd.M (Kd.int .i64) _ _ _ 2453635748 [.int .i64 2453635748] from rfl) (zan (show Kd.M (Kd.int .i64) _ _ _ 2870763221 [.int .i64 2870763221] from rfl) (zan (show Kd.M (Kd.int .i64) _ _ _ 3624381080 [.int .i64 3624381080] from rfl) (zan (show Kd.M (Kd.int .i64) _ _ _ 310598401 [.int .i64 310598401] from rfl) (zan (show Kd.M (Kd.int .i64) _ _ _ 607225278 [.int .i64 607225278] from rfl) (zan (show Kd.M (Kd.int .i64) _ _ _ 1426881987 [.int .i64 1426881987] from rfl) (zan (show Kd.M (Kd.int .i64) _ _ _ 1925078388 [.int .i64 1925078388] from rfl) (zan (show Kd.M (Kd.int .i64) _ _ _ 2162078206 [.int .i64 2162078206] from rfl) (zan (show Kd.M (Kd.int .i64) _ _ _ 2614888103 [.int .i64 2614888103] from rfl) (zan (show Kd.M (Kd.int .i64) _ _ _ 3248222580 [.int .i64 3248222580] from rfl) (zan (show Kd.M (Kd.int .i64) _ _ _ 3835390401 [.int .i64 3835390401] from rfl) (zan (show Kd.M (Kd.int .i64) _ _ _ 4022224774 [.int .i64 4022224774] from rfl) (zan (show Kd.M (Kd.int .i64) _ _ _ 264347078 [.int .i64 264347078] from rfl) (zan (show Kd.M (Kd.int .i64) _ _ _ 604807628 [.int .i64 604807628] from rfl) (zan (show Kd.M (Kd.int .i64) _ _ _ 770255983 [.int .i64 770255983] from rfl) (zan (show Kd.M (Kd.int .i64) _ _ _ 1249150122 [.int .i64 1249150122] from rfl) (zan (show Kd.M (Kd.int .i64) _ _ _ 1555081692 [.int .i64 1555081692] from rfl) (zan (show Kd.M (Kd.int .i64) _ _ _ 1996064986 [.int .i64 1996064986] from rfl) (zan (show Kd.M (Kd.int .i64) _ _ _ 2554220882 [.int .i64 2554220882] from rfl) (zan (show Kd.M (Kd.int .i64) _ _ _ 2821834349 [.int .i64 2821834349] from rfl) (zan (show Kd.M (Kd.int .i64) _ _ _ 2952996808 [.int .i64 2952996808] from rfl) (zan (show Kd.M (Kd.int .i64) _ _ _ 3210313671 [.int .i64 3210313671] from rfl) (zan (show Kd.M (Kd.int .i64) _ _ _ 3336571891 [.int .i64 3336571891] from rfl) (zan (show Kd.M (Kd.int .i64) _ _ _ 3584528711 [.int .i64 3584528711] from rfl) (zan (show Kd.M (Kd.int .i64) _ _ _ 113926993 [.int .i64 113926993] from rfl) (zan (show Kd.M (Kd.int .i64) _ _ _ 338241895 [.int .i64 338241895] from rfl) (zan (show Kd.M (Kd.int .i64) _ _ _ 666307205 [.int .i64 666307205] from rfl) (zan (show Kd.M (Kd.int .i64) _ _ _ 773529912 [.int .i64 773529912] from rfl) (zan (show Kd.M (Kd.int .i64) _ _ _ 1294757372 [.int .i64 1294757372] from rfl) (zan (show Kd.M (Kd.int .i64) _ _ _ 1396182291 [.int .i64 1396182291] from rfl) (zan (show Kd.M (Kd.int .i64) _ _ _ 1695183700 [.int .i64 1695183700] from rfl) (zan (show Kd.M (Kd.int .i64) _ _ _ 1986661051 [.int .i64 1986661051] from rfl) (zan (show Kd.M (Kd.int .i64) _ _ _ 2177026350 [.int .i64 2177026350] from rfl) (zan (show Kd.M (Kd.int .i64) _ _ _ 2456956037 [.int .i64 2456956037] from rfl) (zan (show Kd.M (Kd.int .i64) _ _ _ 2730485921 [.int .i64 2730485921] from rfl) (zan (show Kd.M (Kd.int .i64) _ _ _ 2820302411 [.int .i64 2820302411] from rfl) (zan (show Kd.M (Kd.int .i64) _ _ _ 3259730800 [.int .i64 3259730800] from rfl) (zan (show Kd.M (Kd.int .i64) _ _ _ 3345764771 [.int .i64 3345764771] from rfl) (zan (show Kd.M (Kd.int .i64) _ _ _ 3516065817 [.int .i64 3516065817] from rfl) (zan (show Kd.M (Kd.int .i64) _ _ _ 3600352804 [.int .i64 3600352804] from rfl) (zan (show Kd.M (Kd.int .i64) _ _ _ 4094571909 [.int .i64 4094571909] from rfl) (zan (show Kd.M (Kd.int .i64) _ _ _ 275423344 [.int .i64 275423344] from rfl) (zan (show Kd.M (Kd.int .i64) _ _ _ 430227734 [.int .i64 430227734] from rfl) (zan (show Kd.M (Kd.int .i64) _ _ _ 506948616 [.int .i64 506948616] from rfl) (zan (show Kd.M (Kd.int .i64) _ _ _ 659060556 [.int .i64 659060556] from rfl) (zan (show Kd.M (Kd.int .i64) _ _ _ 883997877 [.int .i64 883997877] from rfl) (zan (show Kd.M (Kd.int .i64) _ _ _ 958139571 [.int .i64 958139571] from rfl) (zan (show Kd.M (Kd.int .i64) _ _ _ 1322822218 [.int .i64 1322822218] from rfl) (zan (show Kd.M (Kd.int .i64) _ _ _ 1537002063 [.int .i64 1537002063] from rfl) (zan (show Kd.M (Kd.int .i64) _ _ _ 1747873779 [.int .i64 1747873779] from rfl) (zan (show Kd.M (Kd.int .i64) _ _ _ 1955562222 [.int .i64 1955562222] from rfl) (zan (show Kd.M (Kd.int .i64) _ _ _ 2024104815 [.int .i64 2024104815] from rfl) (zan (show Kd.M (Kd.int .i64) _ _ _ 2227730452 [.int .i64 2227730452] from rfl) (zan (show Kd.M (Kd.int .i64) _ _ _ 2361852424 [.int .i64 2361852424] from rfl) (zan (show Kd.M (Kd.int .i64) _ _ _ 2428436474 [.int .i64 2428436474] from rfl) (zan (show Kd.M (Kd.int .i64) _ _ _ 2756734187 [.int .i64 2756734187] from rfl) (zan (show Kd.M (Kd.int .i64) _ _ _ 3204031479 [.int .i64 3204031479] from rfl) (zan (show Kd.M (Kd.int .i64) _ _ _ 3329325298 [.int .i64 3329325298] from rfl) (zeb _ _))))))))))))))))))))))))))))))))))))))))))))))))))))))))))))))))));intro v197 w1 ho2 hb hg_ hnew_;have xb_:=below_ofs bq hb;clear hg_ hnew_;(first | rw[← Ny196.out] at ho2 | (simp only[Int.reduceToNat] at ho2;rw[← Ny196.out] at ho2));have n_:=jA2 (zaq ho2 (zah xb_)) (zal xb_ hb);clear HB;obtain⟨HO198,HB⟩:=n_;clear xb_ hb ho2))
 go_ret
 exact⟨_,jex,by(with_reducible repeat(first | apply zat | apply zau | apply zar));exact HO198.out,bq⟩
def impl_Turn.f (a0:Int) (a1:Int):Option (Int):=(impl_Word.f a0).bind fun t199=>(if 0≤(Go.bits .and .i64 a1 31) then(if 0≤(wrap64 (32 - (Go.bits .and .i64 a1 31))) then((impl_Word.f (Go.bits .or .i64 (shl .i64 t199 (Go.bits .and .i64 a1 31)) (shr .i64 t199 (wrap64 (32 - (Go.bits .and .i64 a1 31)))))).bind fun t200=>(some t200)) else(none)) else(none))
theorem impl_Turn.calls (a0:Int) (a1:Int) (r:Int) (w:World) (h:impl_Turn.f a0 a1=some r):
  Calls Try.prog 103 #[.int .i64 a0, .int .i64 a1] w fun e w'=>e= .returned (.int .i64 r)∧Drawn0 w w':=by
 have H:((impl_Word.f a0).bind fun t199=>(if 0≤(Go.bits .and .i64 a1 31) then(if 0≤(wrap64 (32 - (Go.bits .and .i64 a1 31))) then((impl_Word.f (Go.bits .or .i64 (shl .i64 t199 (Go.bits .and .i64 a1 31)) (shr .i64 t199 (wrap64 (32 - (Go.bits .and .i64 a1 31)))))).bind fun t200=>(some t200)) else(none)) else(none)))=some r:=h
 clear h
 obtain⟨t199,A3,H⟩:=bnd H
 by_cases c4:0≤(Go.bits .and .i64 a1 31)
 ·rw[if_pos c4] at H
  have c4b0:=zas c4
  have c4b1:=zab c4
  clear c4
  obtain⟨ji5,hji5⟩:∃ j_:Int,(shl .i64 t199 (Go.bits .and .i64 a1 31))=j_:=⟨_,rfl⟩
  replace H:(if 0≤(wrap64 (32 - (Go.bits .and .i64 a1 31))) then((impl_Word.f (Go.bits .or .i64 (ji5) (shr .i64 t199 (wrap64 (32 - (Go.bits .and .i64 a1 31)))))).bind fun t200=>(some t200)) else(none))=some r:=by first | (rw[hji5] at H;exact H) | (simp only[hji5] at H ⊢;exact H)
  (try rw[hji5] at A3)
  have hji5_:(IntKind.i64.wrap (t199*2 ^ min (Go.bits .and .i64 a1 31).toNat 64))=ji5:=hji5
  have hji5z:(Go.bits .and .i64 a1 31)≤64→(IntKind.i64.wrap (t199*2 ^ (Go.bits .and .i64 a1 31).toNat))=ji5:=shl_small hji5
  have hji5y:(wrap64 (t199*2 ^ min (Go.bits .and .i64 a1 31).toNat 64))=ji5:=(i64_w _).symm.trans hji5_
  have hji5x:(Go.bits .and .i64 a1 31)≤64→(wrap64 (t199*2 ^ (Go.bits .and .i64 a1 31).toNat))=ji5:=fun h_=>(i64_w _).symm.trans (hji5z h_)
  obtain⟨ji6,hji6⟩:∃ j_:Int,(wrap64 (32 - (Go.bits .and .i64 a1 31)))=j_:=⟨_,rfl⟩
  replace H:(if 0≤(ji6) then((impl_Word.f (Go.bits .or .i64 (ji5) (shr .i64 t199 (ji6)))).bind fun t200=>(some t200)) else(none))=some r:=by first | (rw[hji6] at H;exact H) | (simp only[hji6] at H ⊢;exact H)
  (try rw[hji6] at A3)
  have hji6w:(IntKind.i64.wrap (32 - (Go.bits .and .i64 a1 31)))=ji6:=(i64_w _).trans hji6
  by_cases c7:0≤(ji6)
  ·rw[if_pos c7] at H
   have c7b0:=zas c7
   have c7b1:=zab c7
   clear c7
   obtain⟨ji8,hji8⟩:∃ j_:Int,(shr .i64 t199 (ji6))=j_:=⟨_,rfl⟩
   replace H:((impl_Word.f (Go.bits .or .i64 (ji5) (ji8))).bind fun t200=>(some t200))=some r:=by first | (rw[hji8] at H;exact H) | (simp only[hji8] at H ⊢;exact H)
   (try rw[hji8] at A3)
   have hji8_:(t199 / 2 ^ min (ji6).toNat 64)=ji8:=hji8
   have hji8z:(ji6)≤64→(t199 / 2 ^ (ji6).toNat)=ji8:=shr_small hji8
   obtain⟨t200,A9,H⟩:=bnd H
   obtain rfl:=Option.some.inj H
   go_enter Try.func103,Try.ntmps103
   go_wp2_with (first | (go_at_call 71;(with_reducible refine(impl_Word.calls a0 t199 _ A3.out).mono ?_);rintro e w' ⟨rfl,⟨nd,rfl⟩⟩;(try first | exact⟨rfl,_,zcx _ _ _⟩ | exact⟨rfl,_,Eq.trans (zcx _ _ _) (congrArg (World.drewN _) (zfq _ _ _))⟩)) | (go_at_call 71;(with_reducible refine(impl_Word.calls (Go.bits .or .i64 (ji5) (ji8)) t200 _ A9.out).mono ?_);rintro e w' ⟨rfl,⟨nd,rfl⟩⟩;(try first | exact⟨rfl,_,zcx _ _ _⟩ | exact⟨rfl,_,Eq.trans (zcx _ _ _) (congrArg (World.drewN _) (zfq _ _ _))⟩)))
   repeat(go_quiet (first | (go_at_call 71;(with_reducible refine(impl_Word.calls a0 t199 _ A3.out).mono ?_);rintro e w' ⟨rfl,⟨nd,rfl⟩⟩;(try first | exact⟨rfl,_,zcx _ _ _⟩ | exact⟨rfl,_,Eq.trans (zcx _ _ _) (congrArg (World.drewN _) (zfq _ _ _))⟩)) | (go_at_call 71;(with_reducible refine(impl_Word.calls (Go.bits .or .i64 (ji5) (ji8)) t200 _ A9.out).mono ?_);rintro e w' ⟨rfl,⟨nd,rfl⟩⟩;(try first | exact⟨rfl,_,zcx _ _ _⟩ | exact⟨rfl,_,Eq.trans (zcx _ _ _) (congrArg (World.drewN _) (zfq _ _ _))⟩)));try go_wp2_with (first | (go_at_call 71;(with_reducible refine(impl_Word.calls a0 t199 _ A3.out).mono ?_);rintro e w' ⟨rfl,⟨nd,rfl⟩⟩;(try first | exact⟨rfl,_,zcx _ _ _⟩ | exact⟨rfl,_,Eq.trans (zcx _ _ _) (congrArg (World.drewN _) (zfq _ _ _))⟩)) | (go_at_call 71;(with_reducible refine(impl_Word.calls (Go.bits .or .i64 (ji5) (ji8)) t200 _ A9.out).mono ?_);rintro e w' ⟨rfl,⟨nd,rfl⟩⟩;(try first | exact⟨rfl,_,zcx _ _ _⟩ | exact⟨rfl,_,Eq.trans (zcx _ _ _) (congrArg (World.drewN _) (zfq _ _ _))⟩))))
   go_ret
   exact⟨by first | rfl | (simp;done) | (simp only[← hji5, ← hji6, ← hji8] <;> (first | rfl | simp)) | (simp [*];done),by repeat(first | exact Drawn0.refl _ | apply Drawn0.step)⟩
  rw[if_neg c7] at H
  exact absurd H (by simp)
 rw[if_neg c4] at H
 exact absurd H (by simp)
def impl_mixed.f (a0:Int) (a1:Int) (a2:Int) (a3:Int) (a4:Bool):Option (Int):=(impl_Turn.f a0 (wrap64 (-a3))).bind fun t201=>(if a4=true then(if 0≤a3 then((impl_Turn.f a0 (wrap64 (-a1))).bind fun t202=>((impl_Turn.f a0 (wrap64 (-a2))).bind fun t203=>(some (Go.bits .xor .i64 (Go.bits .xor .i64 t202 t203) (shr .i64 a0 a3))))) else(none)) else((impl_Turn.f a0 (wrap64 (-a1))).bind fun t204=>((impl_Turn.f a0 (wrap64 (-a2))).bind fun t205=>(some (Go.bits .xor .i64 (Go.bits .xor .i64 t204 t205) t201)))))
theorem impl_mixed.wk {P:Prop} (h:P:=by
 go_enter Try.func74,Try.ntmps74
 go_wp2_with (first | (refine jgc 103 ?_;refine jgs 15 Try.func103 #[.int .i64 a0, .int .i64 (wrap64 (-a3))] ?_;(with_reducible refine(impl_Turn.calls a0 (wrap64 (-a3)) t201 _ A6.out).mono ?_);rintro e w' ⟨rfl,⟨nd,rfl⟩⟩;refine⟨_,rfl,?_⟩) | (refine jgc 103 ?_;refine jgs 23 Try.func103 #[.int .i64 a0, .int .i64 (wrap64 (-a1))] ?_;(with_reducible refine(impl_Turn.calls a0 (wrap64 (-a1)) t202 _ A10.out).mono ?_);rintro e w' ⟨rfl,⟨nd,rfl⟩⟩;refine⟨_,rfl,?_⟩) | (refine jgc 103 ?_;refine jgs 27 Try.func103 #[.int .i64 a0, .int .i64 (wrap64 (-a2))] ?_;(with_reducible refine(impl_Turn.calls a0 (wrap64 (-a2)) t203 _ A11.out).mono ?_);rintro e w' ⟨rfl,⟨nd,rfl⟩⟩;refine⟨_,rfl,?_⟩) | (refine jgc 103 ?_;refine jgs 23 Try.func103 #[.int .i64 a0, .int .i64 (wrap64 (-a1))] ?_;(with_reducible refine(impl_Turn.calls a0 (wrap64 (-a1)) t204 _ A12.out).mono ?_);rintro e w' ⟨rfl,⟨nd,rfl⟩⟩;refine⟨_,rfl,?_⟩) | (refine jgc 103 ?_;refine jgs 27 Try.func103 #[.int .i64 a0, .int .i64 (wrap64 (-a2))] ?_;(with_reducible refine(impl_Turn.calls a0 (wrap64 (-a2)) t205 _ A13.out).mono ?_);rintro e w' ⟨rfl,⟨nd,rfl⟩⟩;refine⟨_,rfl,?_⟩))
 go_ret
 first | (exact⟨by first | rfl | (simp;done) | (simp only[← hji9] <;> (first | rfl | simp)) | (simp [*];done),by repeat(first | exact Drawn0.refl _ | apply Drawn0.step)⟩) | (exact⟨by first | rfl | (simp;done) | (simp [*];done),by repeat(first | exact Drawn0.refl _ | apply Drawn0.step)⟩)):P:=h
theorem impl_mixed.calls (a0:Int) (a1:Int) (a2:Int) (a3:Int) (a4:Bool) (r:Int) (w:World) (h:impl_mixed.f a0 a1 a2 a3 a4=some r):
  Calls Try.prog 74 #[.int .i64 a0, .int .i64 a1, .int .i64 a2, .int .i64 a3, .bool a4] w fun e w'=>e= .returned (.int .i64 r)∧Drawn0 w w':=by
 have H:((impl_Turn.f a0 (wrap64 (-a3))).bind fun t201=>(if a4=true then(if 0≤a3 then((impl_Turn.f a0 (wrap64 (-a1))).bind fun t202=>((impl_Turn.f a0 (wrap64 (-a2))).bind fun t203=>(some (Go.bits .xor .i64 (Go.bits .xor .i64 t202 t203) (shr .i64 a0 a3))))) else(none)) else((impl_Turn.f a0 (wrap64 (-a1))).bind fun t204=>((impl_Turn.f a0 (wrap64 (-a2))).bind fun t205=>(some (Go.bits .xor .i64 (Go.bits .xor .i64 t204 t205) t201))))))=some r:=h
 clear h
 obtain⟨t201,A6,H⟩:=bnd H
 by_cases c7:a4=true
 ·subst c7
  rw[if_pos rfl] at H
  by_cases c8:0≤a3
  ·rw[if_pos c8] at H
   have c8b0:=zas c8
   have c8b1:=zab c8
   clear c8
   obtain⟨ji9,hji9⟩:∃ j_:Int,(shr .i64 a0 a3)=j_:=⟨_,rfl⟩
   replace H:((impl_Turn.f a0 (wrap64 (-a1))).bind fun t202=>((impl_Turn.f a0 (wrap64 (-a2))).bind fun t203=>(some (Go.bits .xor .i64 (Go.bits .xor .i64 t202 t203) (ji9)))))=some r:=by first | (rw[hji9] at H;exact H) | (simp only[hji9] at H ⊢;exact H)
   (try rw[hji9] at A6)
   have hji9_:(a0 / 2 ^ min a3.toNat 64)=ji9:=hji9
   have hji9z:a3≤64→(a0 / 2 ^ a3.toNat)=ji9:=shr_small hji9
   obtain⟨t202,A10,H⟩:=bnd H
   obtain⟨t203,A11,H⟩:=bnd H
   obtain rfl:=Option.some.inj H
   exact impl_mixed.wk
  rw[if_neg c8] at H
  exact absurd H (by simp)
 replace c7:=zds.mpr c7
 subst c7
 rw[if_neg (show ¬(false=true) by decide)] at H
 obtain⟨t204,A12,H⟩:=bnd H
 obtain⟨t205,A13,H⟩:=bnd H
 obtain rfl:=Option.some.inj H
 exact impl_mixed.wk
end Go.Proofs.Ytienlgcjohpphaa.P
