import Derived.Test.Ytienlgcjohpphaale25
namespace Go.Proofs.Ytienlgcjohpphaa.P
open Go.RowKit Go.Proofs.YtienlgcjohpphaaW.PrintWords Go.Proofs.YtienlgcjohpphaaW.PrintLast Go.Proofs.YtienlgcjohpphaaW.PrintMore
attribute [local go_sem] zcn zco zdk zdl zce zcf zcp zcq -- for this text's walks alone
set_option linter.unusedVariables false
set_option linter.unusedSimpArgs false
set_option maxHeartbeats 8000000
set_option maxRecDepth 100000

theorem impl_KeysOf.lit (W:World) (xs:List Int) (p:Nat×Nat) (b0:Nat) (hm:xs.length≤1000):Kd.V (Kd.int .u8) 5 (W.alloc (.cells (xs.map (Value.int .u8)).toArray 5 p)) b0 (fun _=>True) (.slice (some ⟨W.heap.size,0,none⟩) xs.length xs.length) xs:=by
 have hg:(W.alloc (.cells (xs.map (Value.int .u8)).toArray 5 p)).heap[W.heap.size]? =some (.cells (xs.map (Value.int .u8)).toArray 5 p):=heap_alloc_new W _
 have hC:Kd.C (Kd.int .u8) (W.alloc (.cells (xs.map (Value.int .u8)).toArray 5 p)) (some ⟨W.heap.size,0,none⟩) xs.length xs:=by
  refine Kd.C_of_reads (readsInt_of.1 ⟨rfl,by omega,fun _=>⟨_,rfl,fun j hj=>?_⟩⟩)
  rw[add_plain,cell_of_row _ W.heap.size _ _ 5 p hg]
  simp [List.getD_eq_getElem?_getD,hj]
 exact zga (zav _) (zfd (Kd.C_F (zgg .u8) hC) (fun _ _=>trivial))
theorem impl_KeysOf.conv {ops:Array Oper} {rest:List Oper} {o:Oper} {a:Act} {W:World} {Q:Exit→Act→World→Prop} (hg:o.guard=none) (x:Operand) (hop:o.op=Op.convert 23 23 x) (xs l:List Int) (hl:l=xs) (hm:xs.length≤1000)
  (hv:a.eval x= .slice (some ⟨W.heap.size,0,none⟩) xs.length xs.length)
  (hK:∀ A c,c=l.length→Kd.V (Kd.int .u8) 5 (W.alloc (.cells (xs.map (Value.int .u8)).toArray 5 ((xs.map (Value.int .u8)).toArray.size,(xs.map (Value.int .u8)).toArray.size+1))) 0 (fun _=>True) (.slice A l.length c) l→wpList Try.prog ops Q rest (a.put o.dst (.slice A l.length c)) (W.alloc (.cells (xs.map (Value.int .u8)).toArray 5 ((xs.map (Value.int .u8)).toArray.size,(xs.map (Value.int .u8)).toArray.size+1)))):
  wpList Try.prog ops Q (o :: rest) a (W.alloc (.cells (xs.map (Value.int .u8)).toArray 5)):=by
 subst hl
 have hrun:=Lib.run_convert_bytes_const (P:=Try.prog) W 23 5 (l.map (Value.int .u8)).toArray l.length l.length Try.underlying23 (by kernel_rfl)
 have h:=hK _ _ rfl (impl_KeysOf.lit W l _ 0 hm)
 refine wpList_plain hg fun K hK'=>?_
 unfold Oper.wp
 simp [execOp,hop,hv,hrun,Result.andThen]
 rw[show(List.map (Value.int .u8) l).toArray.size=l.length from by simp] at h
 exact hK' _ _ h
theorem impl_KeysOf.app {ops:Array Oper} {rest:List Oper} {o:Oper} {a:Act} {w:World} {Q:Exit→Act→World→Prop} (hg:o.guard=none) (s x:Operand) (hop:o.op=Op.call {callee:=Callee.builtin Builtin.append,args:= #[s,x],argTypes:= #[23,23]})
  {A0 A1:Option Addr} {c0 c1:Nat} {la lb:List Int} (hs:a.eval s= .slice A0 la.length c0) (hx:a.eval x= .slice A1 lb.length c1) (hA:Kd.C (Kd.int .u8) w A0 la.length la) (hB:Kd.C (Kd.int .u8) w A1 lb.length lb) (hc:c0=la.length) (h0:0<la.length) (h1:0<lb.length) (hm:la.length+lb.length≤100000)
  (hK:∀ v' w',Kd.R (Kd.int .u8) 5 w' w.heap.size (fun _=>True) v' (la++lb)→Below w.heap.size w w'→wpList Try.prog ops Q rest (a.put o.dst v') w'):
  wpList Try.prog ops Q (o :: rest) a w:=by
 obtain⟨ad0,rfl,hcA⟩:=hA.2.2 h0
 obtain⟨ad1,rfl,hcB⟩:=hB.2.2 h1
 have cells:∀ (l:List Int) (ad:Addr),(∀ i z,l[i]? =some z→∃ c,c.length=(Kd.int .u8).sz∧(Kd.int .u8).K w z c∧∀ j u,c[j]? =some u→w.cell? (ad.add (i*(Kd.int .u8).sz+j))=some u)→∀ j u,(l.map (Value.int .u8))[j]? =some u→w.cell? (ad.add j)=some u:=by
  intro l ad h j u hj
  rw[List.getElem?_map] at hj
  obtain⟨z,hz,rfl⟩:=zgo.1 hj
  obtain⟨c,hc1,hc2,hc3⟩:=h j z hz
  have h3:=hc3 0 (.int .u8 z) (by rw[hc2];rfl)
  rw[show j*(Kd.int .u8).sz+0=j from by show j*1+0=j;omega] at h3
  exact h3
 obtain⟨ti,hti,hz⟩:=zgo.1 info5
 simp only[zcu] at hz
 refine wpList_append_grows (P:=Try.prog) w hg s x 23 hop 5 ti (.int .u8 0) 1 1 Try.underlying23 hti hz.1 hz.2.1 hz.2.2 rfl (by decide) (some ad0) la.length c0 (la.map (Value.int .u8)) hs (fun h=>by cases h) (by rw[zfn];omega)
  (fun b hb=>by obtain rfl:=Option.some.inj hb;exact cells la _ hcA) ad1 lb.length c1 (lb.map (Value.int .u8)) hx (by rw[zfn];omega) (cells lb ad1 hcB) (fun u hu=>by obtain⟨z,_,rfl⟩:=List.mem_map.1 hu;rfl) (by omega) (by unfold maxLen;omega) (by omega) ?_
 intro v' w' ho hgr
 refine hK v' w' (Kd.R_of_own ?_ (fun _ _=>trivial)) ⟨hgr.os,hgr.tape,hgr.output,hgr.size,fun i hi=>hgr.block i hi (by simp)⟩
 rw[← List.map_append] at ho
 have h:=ho.lax
 rw[← zfo] at h
 exact h
def impl_KeysOf.f (k:Nat) (l0 l1 l2:List Int):Option (List Int×List Int):=(impl_joined.f [l1,l2]).bind fun s=>(impl_Derive.f k s l0 [112,108,117,109,101] 44).bind fun t=>if t.length=44 then(impl_joined.f [t.take 32]).bind fun x=>(impl_joined.f [t.drop 32]).bind fun y=>some (x,y) else none
theorem impl_KeysOf.mono:∀ a0 a1 a2 k,LeO (impl_KeysOf.f k a0 a1 a2) (impl_KeysOf.f (k+1) a0 a1 a2):=by
 intro a0 a1 a2 k
 unfold impl_KeysOf.f
 have m0:=@impl_Derive.mono
 exact mt
theorem impl_KeysOf.calls (k:Nat) (AA:Option Addr) (cA:Nat) (lA:List Int) (AB:Option Addr) (cB:Nat) (lB:List Int) (AC:Option Addr) (cC:Nat) (lC:List Int) (r1 r2:List Int) (w:World) (hr0:Kd.C (Kd.int .u8) w AA lA.length lA) (hc0:lA.length≤cA) (hr1:Kd.C (Kd.int .u8) w AB lB.length lB) (hc1:lB.length≤cB) (hr2:Kd.C (Kd.int .u8) w AC lC.length lC) (hc2:lC.length≤cC) (h:impl_KeysOf.f k lA lB lC=some (r1,r2)):
  Calls Try.prog 50 #[.slice AA lA.length cA, .slice AB lB.length cB, .slice AC lC.length cC] w fun e w'=>∃ v0_ v1_:Value,e= .returned (.tuple #[v0_,v1_])∧Kd.R (Kd.int .u8) 5 w' w.heap.size (fun k_=>some k_≠(v1_:Value).ownBlock) v0_ r1∧Kd.R (Kd.int .u8) 5 w' w.heap.size (fun k_=>some k_≠(v0_:Value).ownBlock) v1_ r2∧Below w.heap.size w w':=by
 have HB:=Aside0.mk (zbk w.heap.size w)
 unfold impl_KeysOf.f at h
 obtain⟨lS,J_,h⟩:=zcv.mp h
 obtain⟨lK,A_,h⟩:=zcv.mp h
 by_cases q2:lK.length=44
 case neg=>rw[if_neg q2] at h;cases h
 rw[if_pos q2] at h
 obtain⟨ra,Ja,h⟩:=zcv.mp h
 obtain⟨rb,Jb,h⟩:=zcv.mp h
 simp only[zcb,zcu] at h
 obtain⟨h1,h2⟩:=h
 have HVA:Aside0 (Kd.V (Kd.int .u8) 5 w w.heap.size (fun _=>True) (.slice AA lA.length cA) lA):=⟨zga hc0 (zfd (Kd.C_F (zgg .u8) hr0) (fun _ _=>trivial))⟩
 have HVB:Aside0 (Kd.V (Kd.int .u8) 5 w w.heap.size (fun _=>True) (.slice AB lB.length cB) lB):=⟨zga hc1 (zfd (Kd.C_F (zgg .u8) hr1) (fun _ _=>trivial))⟩
 have HVC:Aside0 (Kd.V (Kd.int .u8) 5 w w.heap.size (fun _=>True) (.slice AC lC.length cC) lC):=⟨zga hc2 (zfd (Kd.C_F (zgg .u8) hr2) (fun _ _=>trivial))⟩
 obtain⟨y1,hy⟩:∃ y_:List (List Int),y_=[lB,lC]:=⟨_,rfl⟩
 rw[← hy] at J_
 have Ny1:=Aside0.mk hy
 obtain⟨lL,hL⟩:∃ y_:List Int,y_=[112,108,117,109,101]:=⟨_,rfl⟩
 rw[← hL] at A_
 have NyL:=Aside0.mk hL
 have FJ:=Aside0.mk J_
 have FD:=Aside0.mk A_
 have FA:=Aside0.mk Ja
 have FB:=Aside0.mk Jb
 have d0:((lK.length:Int) != 44)=false:=by rw[q2];rfl
 have HK44:=Aside0.mk q2
 have H1:=Aside0.mk h1
 have H2:=Aside0.mk h2
 clear hy hL J_ A_ Ja Jb q2 h1 h2 hr0 hc0 hr1 hr2
 go_enter Try.func50,Try.ntmps50
 go_wp2_with (first | (refine jgd 11 ?_;refine Kd.N_lit (Kd.slice 5 (Kd.int .u8)) _ 23 ?hg (N':=11) ?hd (xs:=([lB,lC]:List (List Int))) (inner:=[.slice AB lB.length cB, .slice AC lC.length cC]) (ok:=(fun _=>True)) (okp:=(fun _=>True)) ?hr ?hp (fun _ hk=>hk) trivial (zbk _ _) (zav _) (by simp) ?_;(case hd=>rfl);(case hg=>rfl);(case hr=>first | (go_simp;done) | (go_simp;rfl));(case hp=>exact(zan (show Kd.FK (Kd.slice 5 (Kd.int .u8)) _ _ lB [.slice AB lB.length cB] from(zcy (zbx HVB.out).2.1 (Kd.V_F HVB.out))) (zan (show Kd.FK (Kd.slice 5 (Kd.int .u8)) _ _ lC [.slice AC lC.length cC] from(zcy (zbx HVC.out).2.1 (Kd.V_F HVC.out))) (zeb _ _))));intro v_ w_ ho_ hb hg_ hnew_;have xb_:=below_ofs bq hb;clear hg_ hnew_;(first | rw[← Ny1.out] at ho_ | (simp only[Int.reduceToNat] at ho_;rw[← Ny1.out] at ho_));have mn_:=Aside0.mk (zfe ho_ (zah xb_));have mA_:=Aside0.mk (zcw (by repeat(first | (with_reducible first | exact HVA.out | apply zbn | apply zbo | apply zbu) | exact HVA.out)) hb);have mb_:=Aside0.mk (zal xb_ hb);clear HVA HVB HVC HB;have HVA:=mA_;clear mA_;have HN:=mn_;have HB:=mb_;clear mn_ mb_;clear xb_ hb ho_;obtain⟨AN,cN,eN⟩:=zge HN.out;subst eN) | (refine jgc 79 ?_;refine jgs 12 Try.func79 #[.slice AN y1.length cN] ?_;(with_reducible refine(impl_joined.calls _ _ y1 lS _ ?side1 ?side2 FJ.out).mono ?_);(case side1=>repeat(first | exact(zee HN.out).2.2 | (with_reducible first | apply zbs | apply zbt | apply zcg)));(case side2=>exact(zee HN.out).2.1);clear HN;rintro e w_ ⟨v_,rfl,ho_,hb⟩;refine⟨_,rfl,?_⟩;obtain⟨AS,cS,e_⟩:=zbb ho_;subst e_;have mn_:=Aside0.mk (show Kd.V (Kd.int .u8) 5 _ w.heap.size (fun _=>True) _ _ from zga (zam ho_).2.1 (zfd (Kd.R_F ho_) (fun _ _=>trivial)));have mA_:=Aside0.mk (zcw (by repeat(first | (with_reducible first | exact HVA.out | apply zbn | apply zbo | apply zbu) | exact HVA.out)) hb);have mb_:=Aside0.mk (zal bq hb);clear HVA HB;have HVA:=mA_;clear mA_;have HVS:=mn_;have HB:=mb_;clear mn_ mb_;clear ho_ hb) | (refine jgd 15 ?_;refine impl_KeysOf.conv rfl (.tmp 14) rfl [112,108,117,109,101] lL NyL.out (by decide) rfl ?_;intro AL cL hc_ hv_;simp only[List.map_cons,List.map_nil,List.size_toArray,List.length_cons,List.length_nil,Nat.zero_add,Nat.reduceAdd] at hv_;have HcL:=Aside0.mk hc_;have HVL:=Aside0.mk hv_;clear hc_ hv_) | (refine jgc 46 ?_;refine jgs 16 Try.func46 #[.slice AS lS.length cS, .slice AA lA.length cA, .slice AL lL.length cL, .int .i64 44] ?_;(with_reducible refine(impl_Derive.calls k _ _ lS _ _ lA _ _ lL 44 lK _ ?side1 ?side2 ?side3 ?side4 ?side5 ?side6 FD.out).mono ?_);(case side1=>exact(zbx (by repeat(first | (with_reducible first | exact HVS.out | apply zbn | apply zbo | apply zbu) | exact HVS.out))).2.2);(case side2=>exact(zbx HVS.out).2.1);(case side3=>exact(zbx (by repeat(first | (with_reducible first | exact HVA.out | apply zbn | apply zbo | apply zbu) | exact HVA.out))).2.2);(case side4=>exact(zbx HVA.out).2.1);(case side5=>exact(zbx HVL.out).2.2);(case side6=>exact(zbx HVL.out).2.1);rintro e w_ ⟨v_,rfl,ho_,hb⟩;refine⟨_,rfl,?_⟩;obtain⟨AK,cK,e_⟩:=zbb ho_;subst e_;have mn_:=Aside0.mk (show Kd.V (Kd.int .u8) 5 _ w.heap.size (fun _=>True) _ _ from zga (zam ho_).2.1 (zfd (Kd.R_F ho_) (fun _ _=>trivial)));have mb_:=Aside0.mk (zal bq hb);clear HVA HVS HVL HB;have HVK:=mn_;have HB:=mb_;clear mn_ mb_;clear ho_ hb))
 have hk44:=HK44.out
 obtain⟨Ax,cx,hcutx,hlx,hCx⟩:=cut_u8_to (P:=Try.prog) 23 5 Try.underlying23 info5 AK cK lK 32 (by omega) (by omega) (zbx HVK.out).2.1
 obtain⟨Ay,cy,hcuty,hly,hCy⟩:=cut_u8_from (P:=Try.prog) 23 5 Try.underlying23 info5 AK cK lK 32 (by omega) (by omega) (zbx HVK.out).2.1
 refine impl_KeysOf.r4 lK _ _ ra rb AK Ax Ay cK cx cy hcutx (hCx _ (zbx HVK.out).2.2) hlx hcuty (hCy _ (zbx HVK.out).2.2) hly FA.out FB.out rfl rfl ?_
 intro w5 v22 v23 v26 v27 hb5 r23 r27
 have R23:=Aside0.mk (zaq r23 HB.out.size)
 have R27:=Aside0.mk (zaq r27 HB.out.size)
 have HB5:=Aside0.mk (zal HB.out hb5)
 clear hb5 r23 r27 HB hcutx hcuty hCx hCy
 simp only[Act.put,zaa,zae,zaf]
 try go_wp2
 go_ret2
 refine⟨_,_,rfl,?_,?_,HB5.out⟩
 ·rw[← H1.out];exact R23.out
 rw[← H2.out];exact R27.out
def IsS85 (w0 W:World) (g:Nat) (f0:List Int) (f1:Int) (f2:Int):Prop:=∃ A0 c0,W.heap[g]? =some (.cells #[.slice A0 f0.length c0, .int .i64 f1, .int .i64 f2] 85 (0,0))∧w0.heap.size≤g∧Kd.C (Kd.int .u8) w0 A0 f0.length f0
theorem IsS85.grown {w0 W:World} {g:Nat} {f0:List Int} {f1:Int} {f2:Int} {W1:World} {row:Option Nat} (h:IsS85 w0 W g f0 f1 f2) (hw:W.grownBy W1 row) (hne:some g≠row):IsS85 w0 W1 g f0 f1 f2:=by
 obtain⟨A0,c0,hb,hg,hr0⟩:=h
 exact⟨A0,c0,blk_grown hb hw hne,hg,hr0⟩
theorem IsS85.own_neN {w0 W:World} {g:Nat} {f0:List Int} {f1:Int} {f2:Int} {α:Type} {d:Kd α} {e:Nat} {base:Nat} {ok:Nat→Prop} {v:Value} {xs:List α} (h:IsS85 w0 W g f0 f1 f2) (ho:Kd.N d e W base ok v xs) (ht:e≠85):some g≠v.ownBlock:=by
 obtain⟨A0,c0,hb,hg,hr0⟩:=h
 exact Kd.N_ne ho hb ht
theorem IsS85.fresh {w0 W:World} {g:Nat} {f0:List Int} {f1:Int} {f2:Int} (h:IsS85 w0 W g f0 f1 f2):∀ k,W.heap.size≤k→k≠g:=by
 obtain⟨A0,c0,hb,hg,hr0⟩:=h
 exact zgk hb
theorem IsS85.kept {w0 W:World} {g:Nat} {f0:List Int} {f1:Int} {f2:Int} {W1:World} {S:Nat→Prop} (h:IsS85 w0 W g f0 f1 f2) (hk:Kept W W1 S) (hne:¬S g):IsS85 w0 W1 g f0 f1 f2:=by
 obtain⟨A0,c0,hb,hg,hr0⟩:=h
 exact⟨A0,c0,blk_kept hb hk hne,hg,hr0⟩
theorem IsS85.below {w0 W:World} {g:Nat} {f0:List Int} {f1:Int} {f2:Int} {W1:World} (h:IsS85 w0 W g f0 f1 f2) (hw:Below W.heap.size W W1):IsS85 w0 W1 g f0 f1 f2:=h.grown (grown_of_below hw none) (by simp)
theorem IsS85.alloc {w0 W:World} {g:Nat} {f0:List Int} {f1:Int} {f2:Int} (h:IsS85 w0 W g f0 f1 f2) (o:Obj):IsS85 w0 (W.alloc o) g f0 f1 f2:=h.below (zbe (zbk _ _) o)
theorem IsS85.drewN {w0 W:World} {g:Nat} {f0:List Int} {f1:Int} {f2:Int} (h:IsS85 w0 W g f0 f1 f2) (m:Nat):IsS85 w0 (W.drewN m) g f0 f1 f2:=h
theorem IsS85.drew {w0 W:World} {g:Nat} {f0:List Int} {f1:Int} {f2:Int} (h:IsS85 w0 W g f0 f1 f2):IsS85 w0 W.drew g f0 f1 f2:=h
theorem IsS85.at_ {w0 W:World} {g:Nat} {f0:List Int} {f1:Int} {f2:Int} {w':World} {m:Nat} (hq:W.drewN m=w') (h:IsS85 w0 W g f0 f1 f2):IsS85 w0 w' g f0 f1 f2:=by subst hq;exact IsS85.drewN h m
theorem IsS85.apart {w0 W:World} {g:Nat} {f0:List Int} {f1:Int} {f2:Int} {α:Type} {d:Kd α} {e:Nat} {base:Nat} {ok:Nat→Prop} {v:Value} {xs:List α} (h:IsS85 w0 W g f0 f1 f2) (ho:d.R e W base ok v xs) (ht:∀ q,q∈e :: d.E→q≠85):d.R e W base (fun k=>ok k∧k≠g) v xs:=by
 obtain⟨A0,c0,hb,hg,hr0⟩:=h
 exact zeq ho hb ht
theorem IsS85.own_ne {w0 W:World} {g:Nat} {f0:List Int} {f1:Int} {f2:Int} {α:Type} {d:Kd α} {e:Nat} {base:Nat} {ok:Nat→Prop} {v:Value} {xs:List α} (h:IsS85 w0 W g f0 f1 f2) (ho:d.R e W base ok v xs) (ht:e≠85):some g≠v.ownBlock:=by
 obtain⟨A0,c0,hb,hg,hr0⟩:=h
 exact Kd.R_ne ho hb ht
theorem IsS85.apartQ {w0 W:World} {g:Nat} {f0:List Int} {f1:Int} {f2:Int} {α:Type} {d:Kd α} {e:Nat} {base:Nat} {ok:Nat→Prop} {v:Value} {xs:List α} (h:IsS85 w0 W g f0 f1 f2) (ho:d.Q e W base ok v xs) (ht:∀ q,q∈e :: d.E→q≠85):d.Q e W base (fun k=>ok k∧k≠g) v xs:=by
 obtain⟨A0,c0,hb,hg,hr0⟩:=h
 exact Kd.Q_types ho hb ht
theorem IsS85.own_neQ {w0 W:World} {g:Nat} {f0:List Int} {f1:Int} {f2:Int} {α:Type} {d:Kd α} {e:Nat} {base:Nat} {ok:Nat→Prop} {v:Value} {xs:List α} (h:IsS85 w0 W g f0 f1 f2) (ho:d.Q e W base ok v xs) (ht:e≠85):some g≠v.ownBlock:=by
 obtain⟨A0,c0,hb,hg,hr0⟩:=h
 exact Kd.Q_ne ho hb ht
theorem IsS85.apartS {w0 W:World} {g:Nat} {f0:List Int} {f1:Int} {f2:Int} {α:Type} {d:Kd α} {e:Nat} {base:Nat} {ok:Nat→Prop} {v:Value} {xs:List α} (h:IsS85 w0 W g f0 f1 f2) (ho:d.S e W base ok v xs) (ht:∀ q,q∈e :: d.E→q≠85):d.S e W base (fun k=>ok k∧k≠g) v xs:=by
 obtain⟨A0,c0,hb,hg,hr0⟩:=h
 exact Kd.S_types ho hb ht
theorem IsS85.own_neS {w0 W:World} {g:Nat} {f0:List Int} {f1:Int} {f2:Int} {α:Type} {d:Kd α} {e:Nat} {base:Nat} {ok:Nat→Prop} {v:Value} {xs:List α} (h:IsS85 w0 W g f0 f1 f2) (ho:d.S e W base ok v xs) (ht:e≠85):some g≠v.ownBlock:=by
 obtain⟨A0,c0,hb,hg,hr0⟩:=h
 exact Kd.S_ne ho hb ht
theorem IsS85.lt {w0 W:World} {g:Nat} {f0:List Int} {f1:Int} {f2:Int} (h:IsS85 w0 W g f0 f1 f2):g<W.heap.size:=by
 obtain⟨A0,c0,hb,hg,hr0⟩:=h
 exact blk_lt hb
theorem IsS85.ge {w0 W:World} {g:Nat} {f0:List Int} {f1:Int} {f2:Int} (h:IsS85 w0 W g f0 f1 f2):w0.heap.size≤g:=by
 obtain⟨A0,c0,hb,hg,hr0⟩:=h
 exact hg
theorem IsS85.ne_blk {w0 W:World} {g:Nat} {f0:List Int} {f1:Int} {f2:Int} {a:Nat} {cs:Array Value} {t:TypeId} {fr:Nat×Nat} (h:IsS85 w0 W g f0 f1 f2) (hb2:W.heap[a]? =some (.cells cs t fr)) (ht:t≠85):g≠a:=by
 obtain⟨A0,c0,hb,hg,hr0⟩:=h
 rintro rfl
 rw[hb] at hb2
 injection hb2 with hb2
 injection hb2 with _ ht2
 exact ht ht2.symm
theorem IsS85.far {w0 W:World} {g:Nat} {f0:List Int} {f1:Int} {f2:Int} {p:Addr} (h:IsS85 w0 W g f0 f1 f2) (hne:g≠p.block) (u:Value):IsS85 w0 (W.setCell p u) g f0 f1 f2:=by
 obtain⟨A0,c0,hb,hg,hr0⟩:=h
 exact⟨A0,c0,blk_far hb hne u,hg,hr0⟩
theorem cellS85_0 {W:World} {g:Nat} {A0:Option Addr} {c0:Nat} {f0:List Int} {f1:Int} {f2:Int} (h:W.heap[g]? =some (.cells #[.slice A0 f0.length c0, .int .i64 f1, .int .i64 f2] 85 (0,0))):W.cell? ⟨g,0,none⟩=some (.slice A0 f0.length c0):=(zbd h 0).trans rfl
theorem cellS85_1 {W:World} {g:Nat} {A0:Option Addr} {c0:Nat} {f0:List Int} {f1:Int} {f2:Int} (h:W.heap[g]? =some (.cells #[.slice A0 f0.length c0, .int .i64 f1, .int .i64 f2] 85 (0,0))):W.cell? ⟨g,1,none⟩=some (.int .i64 f1):=(zbd h 1).trans rfl
theorem IsS85.set_1 {w0 W:World} {g:Nat} {f0:List Int} {f1:Int} {f2:Int} (h:IsS85 w0 W g f0 f1 f2) (x:Int):IsS85 w0 (W.setCell ⟨g,1,none⟩ (.int .i64 x)) g f0 x f2:=by
 obtain⟨A0,c0,hb,hg,hr0⟩:=h
 exact⟨A0,c0,by simpa using blk_set hb 1 (.int .i64 x),hg,hr0⟩
theorem cellS85_2 {W:World} {g:Nat} {A0:Option Addr} {c0:Nat} {f0:List Int} {f1:Int} {f2:Int} (h:W.heap[g]? =some (.cells #[.slice A0 f0.length c0, .int .i64 f1, .int .i64 f2] 85 (0,0))):W.cell? ⟨g,2,none⟩=some (.int .i64 f2):=(zbd h 2).trans rfl
theorem IsS85.set_2 {w0 W:World} {g:Nat} {f0:List Int} {f1:Int} {f2:Int} (h:IsS85 w0 W g f0 f1 f2) (x:Int):IsS85 w0 (W.setCell ⟨g,2,none⟩ (.int .i64 x)) g f0 f1 x:=by
 obtain⟨A0,c0,hb,hg,hr0⟩:=h
 exact⟨A0,c0,by simpa using blk_set hb 2 (.int .i64 x),hg,hr0⟩
theorem IsS85.new (w0 W:World) (A0:Option Addr) (c0:Nat) (f0:List Int) (f1:Int) (f2:Int) (hB:Below w0.heap.size w0 W) (hr0:Kd.C (Kd.int .u8) w0 A0 f0.length f0):IsS85 w0 (W.alloc (.cells #[.slice A0 f0.length c0, .int .i64 f1, .int .i64 f2] 85)) W.heap.size f0 f1 f2:=⟨A0,c0,by simpa using heap_alloc_new W _,hB.size,hr0⟩

def spec_l1Byte.f (s0_0:List Int) (s0_1:Int) (s0_2:Int):Option (Int×Int×Int):=if s0_1<(s0_0.length:Int) then(if 0≤s0_1 then(some (Go.bits .and .i64 (wrap64 ((Go.bits .and .i64 (Go.bits .xor .i64 ((wrap64 ((wrap64 (s0_2*6364136223846793005))+1442695040888963407)) / 8589934592) ((wrap64 ((wrap64 (s0_2*6364136223846793005))+1442695040888963407)) / 35184372088832)) 255)+(wrap64 (rd s0_0 s0_1)))) 255,wrap64 (s0_1+1),wrap64 ((wrap64 (s0_2*6364136223846793005))+1442695040888963407))) else(none)) else(some (Go.bits .and .i64 (Go.bits .xor .i64 ((wrap64 ((wrap64 (s0_2*6364136223846793005))+1442695040888963407)) / 8589934592) ((wrap64 ((wrap64 (s0_2*6364136223846793005))+1442695040888963407)) / 35184372088832)) 255,s0_1,wrap64 ((wrap64 (s0_2*6364136223846793005))+1442695040888963407)))
theorem spec_l1Byte.calls (g:Nat) (s0_0:List Int) (s0_1:Int) (s0_2:Int) (r1:Int) (r2:Int) (r3:Int) (w0 w:World) (hI:IsS85 w0 w g s0_0 s0_1 s0_2) (hB:Below w0.heap.size w0 w) (h:spec_l1Byte.f s0_0 s0_1 s0_2=some (r1,r2,r3)):
  Calls Try.prog 108 #[.pointer (some ⟨g,0,none⟩)] w fun e w'=>e= .returned (.int .i64 r1)∧IsS85 w0 w' g s0_0 r2 r3∧Below w0.heap.size w0 w'∧KeepBut w w' g none:=by
 have HI0:=Aside0.mk hI
 have HK:=Aside0.mk (KeepBut.refl w g none)
 have HL:=Aside0.mk hB.size
 clear hI
 have HW0:=Aside0.mk hB.size
 have HB:=Aside0.mk hB
 clear hB
 have H:(if s0_1<(s0_0.length:Int) then(if 0≤s0_1 then(some (Go.bits .and .i64 (wrap64 ((Go.bits .and .i64 (Go.bits .xor .i64 ((wrap64 ((wrap64 (s0_2*6364136223846793005))+1442695040888963407)) / 8589934592) ((wrap64 ((wrap64 (s0_2*6364136223846793005))+1442695040888963407)) / 35184372088832)) 255)+(wrap64 (rd s0_0 s0_1)))) 255,wrap64 (s0_1+1),wrap64 ((wrap64 (s0_2*6364136223846793005))+1442695040888963407))) else(none)) else(some (Go.bits .and .i64 (Go.bits .xor .i64 ((wrap64 ((wrap64 (s0_2*6364136223846793005))+1442695040888963407)) / 8589934592) ((wrap64 ((wrap64 (s0_2*6364136223846793005))+1442695040888963407)) / 35184372088832)) 255,s0_1,wrap64 ((wrap64 (s0_2*6364136223846793005))+1442695040888963407))))=some (r1,r2,r3):=h
 clear h
 by_cases c2:s0_1<(s0_0.length:Int)
 ·rw[if_pos c2] at H
  have c2b0:=zab c2
  clear c2
  by_cases c3:0≤s0_1
  ·rw[if_pos c3] at H
   have c3b0:=zab c3
   clear c3
   simp only[zcb,zcu] at H
   obtain⟨rfl,rfl,rfl⟩:=H
   obtain⟨ASz4_0,cSz4_0,HGz4,hgz4,HSz4_0⟩:=HI0.out
   have hcz4_0:=cellS85_0 HGz4
   have hcz4_1:=cellS85_1 HGz4
   have hcz4_2:=cellS85_2 HGz4
   have hfz4_1:=zaw HGz4 1
   have hfz4_2:=zaw HGz4 2
   clear HGz4 hgz4
   have p524:0≤(s0_1:Int):=zad jab
   have q524:s0_1<(s0_0.length:Int):=zad jab
   obtain⟨ad524,e524,hx524_0⟩:=zcd HSz4_0 s0_1 p524 q524
   cases e524
   have hn524_0:ad524.block≠g:=zdp (zct (by have:=World.block_lt_of_cell? _ _ hx524_0;first | rwa [zdf] at this | exact this) (IsS85.ge HI0.out))
   replace hx524_0:=pw_cell_below HB.out hx524_0
   replace hx524_0:=(cell_far (p:=⟨g,2,none⟩) (by first | (rw[zdf];exact hn524_0) | (show(Addr.add _ _).block≠_;rw[zdf];exact hn524_0) | exact hn524_0) (.int .i64 (wrap64 ((wrap64 (s0_2*6364136223846793005))+1442695040888963407)))).trans hx524_0
   (try have hy524_0:=fun(n_:Nat)=>(show(((w.drewN n_).setCell ⟨g,2,none⟩ (.int .i64 (wrap64 ((wrap64 (s0_2*6364136223846793005))+1442695040888963407))))).cell? _=some _ from hx524_0))
   clear hn524_0
   replace p524:=zas p524
   replace q524:=zas q524
   go_enter Try.func108,Try.ntmps108
   go_wp2
   repeat(go_quiet (fail);try go_wp2)
   go_ret
   exact⟨jex,by repeat(first | (with_reducible first | exact HI0.out | apply IsS85.alloc | apply IsS85.drewN | apply IsS85.drew | apply IsS85.set_1 | apply IsS85.set_2) | exact HI0.out),by repeat(first | (with_reducible first | exact HB.out | apply zbe | apply zap | apply zay | refine zbf ?_ (IsS85.ge HI0.out)) | exact HB.out),by repeat(first | (with_reducible first | exact HK.out | apply zeu | apply zfb | apply zft | apply zfc) | exact HK.out)⟩
  rw[if_neg c3] at H
  exact absurd H (by simp)
 rw[if_neg c2] at H
 have c2b0:=zbj c2
 clear c2
 simp only[zcb,zcu] at H
 obtain⟨rfl,rfl,rfl⟩:=H
 obtain⟨ASz5_0,cSz5_0,HGz5,hgz5,HSz5_0⟩:=HI0.out
 have hcz5_0:=cellS85_0 HGz5
 have hcz5_1:=cellS85_1 HGz5
 have hcz5_2:=cellS85_2 HGz5
 have hfz5_1:=zaw HGz5 1
 have hfz5_2:=zaw HGz5 2
 clear HGz5 hgz5
 go_enter Try.func108,Try.ntmps108
 go_wp2
 repeat(go_quiet (fail);try go_wp2)
 go_ret
 exact⟨jex,by repeat(first | (with_reducible first | exact HI0.out | apply IsS85.alloc | apply IsS85.drewN | apply IsS85.drew | apply IsS85.set_1 | apply IsS85.set_2) | exact HI0.out),by repeat(first | (with_reducible first | exact HB.out | apply zbe | apply zap | apply zay | refine zbf ?_ (IsS85.ge HI0.out)) | exact HB.out),by repeat(first | (with_reducible first | exact HK.out | apply zeu | apply zfb | apply zft | apply zfc) | exact HK.out)⟩
def spec_l1New.l0:Nat→List Int→Int→Int→Option (List Int×Int×Int)
 | 0,_,_,_=>none
 | k+1,x0,x3,x4=>if x4<(x0.length:Int) then(if x4<4000 then(if 0≤x4 then(spec_l1New.l0 k x0 (Go.bits .and .i64 (wrap64 ((wrap64 ((wrap64 (x3*131))+(wrap64 (rd x0 x4))))+7)) 1073741823) (wrap64 (x4+1))) else(none)) else(some (x0,0,x3))) else(some (x0,0,x3))
def spec_l1New.f (k:Nat) (l0:List Int):Option (List Int×Int×Int):=spec_l1New.l0 k l0 (wrap64 (27508+(l0.length:Int))) 0
theorem spec_l1New.mono_l:∀ k,(∀ y0 y1 y2,LeO (spec_l1New.l0 k y0 y1 y2) (spec_l1New.l0 (k+1) y0 y1 y2))
 | 0=>fun _ _ _ r h=>by simp [spec_l1New.l0] at h
 | k+1=>by
  have ih0:=spec_l1New.mono_l k
  intro y0 y1 y2
  unfold spec_l1New.l0
  exact mt
theorem spec_l1New.mono:∀ a0 k,LeO (spec_l1New.f k a0) (spec_l1New.f (k+1) a0):=by
 intro a0 k
 have ih0:=spec_l1New.mono_l k
 unfold spec_l1New.f
 exact mt
theorem spec_l1New.calls (k:Nat) (A0:Option Addr) (c0:Nat) (l0:List Int) (r1:List Int) (r2:Int) (r3:Int) (w0 w:World) (hB:Below w0.heap.size w0 w) (hr0:Kd.C (Kd.int .u8) w0 A0 l0.length l0) (hc0:l0.length≤c0) (h:spec_l1New.f k l0=some (r1,r2,r3)):
  Calls Try.prog 78 #[.slice A0 l0.length c0] w fun e w'=>∃ g_:Nat,e= .returned (.pointer (some ⟨g_,0,none⟩))∧IsS85 w0 w' g_ r1 r2 r3∧Below w0.heap.size w0 w'∧Below w.heap.size w w':=by
 have hu85:=Try.underlying85
 have HR0:=Aside0.mk hr0
 have HC0:=Aside0.mk hc0
 clear hr0 hc0
 have HBW:=Aside0.mk (zbk w.heap.size w)
 have HW0:=Aside0.mk hB.size
 have HB:=Aside0.mk hB
 clear hB
 have H:(spec_l1New.l0 k l0 (wrap64 (27508+(l0.length:Int))) 0)=some (r1,r2,r3):=h
 clear h
 have H':=Aside0.mk H
 clear H
 go_enter Try.func78,Try.ntmps78
 go_wp2
 go_loopg [3,4] k (fun kq v3 v4 w'=>∃ (x3_1:Int) (x4_1:Int),v3= .int .i64 x3_1∧v4= .int .i64 x4_1∧Aside0 (spec_l1New.l0 kq l0 x3_1 x4_1=some (r1,r2,r3))∧Aside0 (kq≤k)∧Aside0 (Below w0.heap.size w0 w')∧Aside0 (Below w.heap.size w w'))
 case atStart=>exact⟨(wrap64 (27508+(l0.length:Int))),(0),jer,jer,H',⟨zav _⟩,⟨bq⟩,⟨by repeat(first | (with_reducible first | exact HBW.out | apply zbe | apply zap | apply zay) | exact HBW.out)⟩⟩
 case round=>
  clear H'
  obtain⟨x3_1,x4_1,rfl,rfl,HA,HK1,HB,HBW⟩:=hrel
  cases gk with
  | zero=>exact absurd HA.out (by simp [spec_l1New.l0])
  | succ k1=>
   have H:=HA.out
   clear HA
   simp only[spec_l1New.l0] at H
   by_cases c2:x4_1<(l0.length:Int)
   ·rw[if_pos c2] at H
    have c2b0:=zab c2
    clear c2
    by_cases c3:x4_1<4000
    ·rw[if_pos c3] at H
     have c3b0:=zab c3
     clear c3
     by_cases c4:0≤x4_1
     ·rw[if_pos c4] at H
      have c4b0:=zab c4
      clear c4
      have H':=Aside0.mk H
      clear H
      have p572:0≤(x4_1:Int):=zad jab
      have q572:x4_1<(l0.length:Int):=zad jab
      obtain⟨ad572,e572,hx572_0⟩:=zcd HR0.out x4_1 p572 q572
      cases e572
      replace hx572_0:=pw_cell_below HB.out hx572_0
      replace p572:=zas p572
      replace q572:=zas q572
      go_wp2
      go_roundg k1
      case measure=>have:=HK1.out;omega
      case rel=>exact⟨(Go.bits .and .i64 (wrap64 ((wrap64 ((wrap64 (x3_1*131))+(wrap64 (rd l0 x4_1))))+7)) 1073741823),(wrap64 (x4_1+1)),jer,jer,H',⟨by have:=HK1.out;omega⟩,⟨bq⟩,⟨by repeat(first | (with_reducible first | exact HBW.out | apply zbe | apply zap | apply zay) | exact HBW.out)⟩⟩
     rw[if_neg c4] at H
     exact absurd H (by simp)
    rw[if_neg c3] at H
    have c3b0:=zbj c3
    clear c3
    simp only[zcb,zcu] at H
    obtain⟨rfl,rfl,rfl⟩:=H
    go_wp2_with (first | (refine jgd 31 ?_;refine bx 31 (#[.slice A0 l0.length c0, .int .i64 0, .int .i64 x3_1]) 85 ?_;intro gb573 hg w5 hbox hb;have n_:=jA5 (zal HBW.out hb) (zal bq hb) (hbox) (by rw[hg];exact(zah (by repeat(first | (with_reducible first | exact HBW.out | apply zbe | apply zap | apply zay) | exact HBW.out))):w.heap.size≤gb573) (zdo HW0.out (by rw[hg];exact(zah (by repeat(first | (with_reducible first | exact HBW.out | apply zbe | apply zap | apply zay) | exact HBW.out))):w.heap.size≤gb573):w0.heap.size≤gb573);clear HBW HB;obtain⟨HBW,HB,BK573,GW573,GE573⟩:=n_;clear hb hbox hg))
    go_ret
    exact⟨_,rfl,(show IsS85 w0 _ gb573 l0 0 x3_1 from⟨_,_,by(with_reducible repeat(first | refine zbl ?_ _ | refine zbr ?_ | refine zbm ?_ _));exact BK573.out,GE573.out,HR0.out⟩),by repeat(first | (with_reducible first | exact HB.out | apply zbe | apply zap | apply zay | refine zbf ?_ GE573.out) | exact HB.out),by repeat(first | (with_reducible first | exact HBW.out | apply zbe | apply zap | apply zay | refine zbf ?_ GW573.out) | exact HBW.out)⟩
   rw[if_neg c2] at H
   have c2b0:=zbj c2
   clear c2
   simp only[zcb,zcu] at H
   obtain⟨rfl,rfl,rfl⟩:=H
   go_wp2_with (first | (refine jgd 31 ?_;refine bx 31 (#[.slice A0 l0.length c0, .int .i64 0, .int .i64 x3_1]) 85 ?_;intro gb574 hg w6 hbox hb;have n_:=jA5 (zal HBW.out hb) (zal bq hb) (hbox) (by rw[hg];exact(zah (by repeat(first | (with_reducible first | exact HBW.out | apply zbe | apply zap | apply zay) | exact HBW.out))):w.heap.size≤gb574) (zdo HW0.out (by rw[hg];exact(zah (by repeat(first | (with_reducible first | exact HBW.out | apply zbe | apply zap | apply zay) | exact HBW.out))):w.heap.size≤gb574):w0.heap.size≤gb574);clear HBW HB;obtain⟨HBW,HB,BK574,GW574,GE574⟩:=n_;clear hb hbox hg))
   go_ret
   exact⟨_,rfl,(show IsS85 w0 _ gb574 l0 0 x3_1 from⟨_,_,by(with_reducible repeat(first | refine zbl ?_ _ | refine zbr ?_ | refine zbm ?_ _));exact BK574.out,GE574.out,HR0.out⟩),by repeat(first | (with_reducible first | exact HB.out | apply zbe | apply zap | apply zay | refine zbf ?_ GE574.out) | exact HB.out),by repeat(first | (with_reducible first | exact HBW.out | apply zbe | apply zap | apply zay | refine zbf ?_ GW574.out) | exact HBW.out)⟩
end Go.Proofs.Ytienlgcjohpphaa.P
