import Derived.Test.Ytlalkldjpniakaabk11
/- slices.DeleteFunc over a list of items of the call's own: the walk. -/
namespace Go.Proofs.Ytlalkldjpniakaa.P
open Go.RowKit Go.Proofs.YtlalkldjpniakaaW.PrintWords Go.Proofs.YtlalkldjpniakaaW.PrintLast Go.Proofs.YtlalkldjpniakaaW.PrintMore
set_option linter.unusedVariables false
set_option linter.unusedSimpArgs false
set_option maxHeartbeats 8000000
set_option maxRecDepth 100000
open Classical in
noncomputable def placeI (l:List Nat) (t:Nat):Nat:=if h:∃ j,l[j]? =some t then Classical.choose h else 0
theorem placeI_at {l:List Nat} {t j:Nat} (hn:l.Nodup) (h:l[j]? =some t):placeI l t=j:=by
  unfold placeI
  have hx:∃ j,l[j]? =some t:=⟨j,h⟩
  rw[dif_pos hx]
  have hc:=Classical.choose_spec hx
  have hj:j<l.length:=(List.getElem?_eq_some_iff.1 h).1
  exact((List.getElem?_inj hj hn).1 (h.trans hc.symm)).symm
/-- What is left, told again as items. -/
theorem S_kept {w w':World} {base g n cap:Nat} {ok okr:Nat→Prop} {p:S34→Bool} {xs:List S34} {rows dk:List (List Value)} {f:Nat→Nat} {i:Nat} (hi:i≤n) (hn:n=xs.length) (hrl:rows.length=xs.length)
    (h0:∀ k,(Value.slice (some ⟨g,0,none⟩) n cap).ownBlock=some k→ok k) (hM:∀ (j:Nat) (x:S34) (c:List Value),xs[j]? =some x→rows[j]? =some c→k34.M w base (fun k=>(ok k∧some k≠(Value.slice (some ⟨g,0,none⟩) n cap).ownBlock)∧f k=j) x c)
    (hg:w.grownBy w' (some g)) (hI:KInv rows p xs n i dk) (hraw:(Kd.raw 4).R 34 w' base okr (.slice (some ⟨g,0,none⟩) i cap) (dk.take i)):Kd.S k34 34 w' base ok (.slice (some ⟨g,0,none⟩) i cap) (xs.filter fun x=> !p x):=by
  have hof:xs.filter (fun x=> !p x)=(keptI p xs n).map fun t=>xs.getD t z34:=by rw[hn];exact filter_kept p xs
  have hnd:(keptI p xs n).Nodup:=(List.nodup_range).filter _
  refine S_of_raw (fun k=>placeI (keptI p xs n) (f k)) (fun k hk=>h0 k (by simpa [Value.ownBlock] using hk)) hraw (by rw[hI.low,hof,List.length_map,List.length_map]) fun j x c hx hc=>?_
  rw[hof,List.getElem?_map] at hx
  rw[hI.low,List.getElem?_map] at hc
  obtain⟨t,ht,rfl⟩:=Option.map_eq_some_iff.1 hx
  obtain⟨t',ht',rfl⟩:=Option.map_eq_some_iff.1 hc
  rw[ht] at ht'
  obtain rfl:=Option.some.inj ht'
  obtain⟨hj,hjt⟩:=List.getElem?_eq_some_iff.1 ht
  have htn:t<n:=keptI_lt (by rw[← hjt];exact List.getElem_mem _)
  have hm:=hM t (xs.getD t z34) (rows.getD t []) (by simp [List.getD_eq_getElem?_getD,show t<xs.length by omega]) (by simp [List.getD_eq_getElem?_getD,show t<rows.length by omega])
  refine Kd.M_step (k34.M_mono (fun k hk=>⟨⟨hk.1.1,by simpa [Value.ownBlock] using hk.1.2⟩,?_⟩) hm) (fun k hk hlt=>hg.block k hlt (fun e=>hk.1.2 (by rw[e];rfl)))
  rw[hk.2]
  exact placeI_at hnd ht
theorem items_delete (p:S34→Bool) (gf:Nat) (lb:Array Value) (gc:Nat) (o:Obj) (hp:PredI gf lb gc o p) (eg:∀ args w,(callFunc gf args).run Try.prog w= .ok (.enter gf args) w) (A:Option Addr) (c:Nat) (xs:List S34) (w:World) (base:Nat) (ok:Nat→Prop)
    (hS:Kd.S k34 34 w base ok (.slice A xs.length c) xs) (ho:w.heap[gc]? =some o) (hgc:some gc≠(Value.slice A xs.length c).ownBlock):
    Calls Try.prog 95 #[.slice A xs.length c, .func (.func gf) #[] lb] w fun e w'=>∃ v':Value,e= .returned v'∧Kd.S k34 34 w' base ok v' (xs.filter fun x=> !p x)∧w.grownBy w' (Value.slice A xs.length c).ownBlock∧v'.ownBlock=(Value.slice A xs.length c).ownBlock:=by
  have hu34:=Try.underlying34
  obtain⟨hcl,hC⟩:=(Kd.R_reads' (Kd.S_R hS)).2
  have hIF:=items_index p gf lb gc o hp eg A c xs w hC hcl ho
  have hlen:=hC.2.1
  rcases idxI_cases p xs with ⟨e1,hall⟩ | ⟨k0,hk0,e1,ht,hall⟩
  · rw[e1] at hIF
    have hfil:xs.filter (fun x=> !p x)=xs:=by
      rw[List.filter_eq_self]
      intro x hx
      obtain⟨j,hj,rfl⟩:=List.mem_iff_getElem.1 hx
      have:=hall j hj
      rw[List.getD_eq_getElem?_getD,List.getElem?_eq_getElem hj] at this
      rw[show p xs[j]=false from this];rfl
    rw[hfil]
    have HS:=Aside0.mk hS
    clear hS hC hcl hall hfil e1 hp ho hgc
    generalize xs.length=n at hIF HS ⊢
    go_enter Try.func95,Try.ntmps95
    go_wp2_with ((go_at_call 102;refine hIF.mono ?_;rintro e w' ⟨rfl,hb⟩))
    go_ret
    exact⟨_,rfl,Kd.S_below HS.out hb,grown_of_below hb _,rfl⟩
  · rw[e1] at hIF
    obtain⟨g,cap,ev,hbg,hgl,hcells⟩:=Kd.S_form hS (by omega)
    obtain⟨f,rows,hrl,hraw,hok,hM⟩:=raw_of_S hS
    have e2:A=some ⟨g,0,none⟩∧c=cap:=by
      injection ev with ea en ec
      exact⟨ea,ec⟩
    obtain⟨rfl,rfl⟩:=e2
    have hgcg:gc≠g:=fun e=>hgc (by rw[e];rfl)
    obtain⟨n,hn⟩:∃ n,xs.length=n:=⟨_,rfl⟩
    rw[hn] at hIF hraw hM hok hlen hk0 ⊢
    have hne1:((k0:Int)== -1)=false:=beq_eq_false_iff_ne.2 (by omega)
    have hk1:(k0:Int)+1≤9223372036854775807:=by omega
    have hI0:KInv rows p xs (k0+1) k0 rows:=KInv.start (by omega) ht hall
    have HI0:=Aside0.mk hI0
    have HM:=Aside0.mk hM
    have HK:=Aside0.mk hok
    have HN:=Aside0.mk hn
    have HL:=Aside0.mk hrl
    have HP:=Aside0.mk hp
    have HO:=Aside0.mk ho
    have HG:=Aside0.mk hgcg
    have HGL:=Aside0.mk hgl
    have hraw2:(Kd.raw 4).R 34 w base (fun k=>k=g) (.slice (some ⟨g,0,none⟩) n c) rows:=Kd.R_mono hraw (fun k hk=>by simpa [Value.ownBlock] using hk)
    have HR0:=Aside0.mk hraw2
    have hcap:n≤c:=by rw[← hn];exact hcl
    have HCAP:=Aside0.mk hcap
    clear hS hC hcl hraw hraw2 hM hok hn hrl hp ho hgc hgcg hall ht e1 ev hbg hgl hcells hI0 hcap
    go_enter Try.func95,Try.ntmps95
    go_wp2_with ((go_at_call 102;refine hIF.mono ?_;rintro e w0 ⟨rfl,hb⟩;have HB0:=Aside0.mk hb;clear hb))
    go_loopg [5,6,7] n (fun gg s5 s6 _ wr=>∃ (i j:Nat) (dk:List (List Value)),s5= .int .i64 i∧s6= .int .i64 j∧j≤n∧i<j∧n - j≤gg∧Aside0 (w.grownBy wr (some g))∧Aside0 ((Kd.raw 4).R 34 wr base (fun k=>k=g) (.slice (some ⟨g,0,none⟩) n c) dk)∧Aside0 (KInv rows p xs j i dk))
    case atStart=>exact⟨k0,k0+1,rows,rfl,by go_num,by omega,by omega,by omega,⟨grown_of_below HB0.out _⟩,⟨Kd.R_below HR0.out HB0.out⟩,HI0⟩
    case round=>
      clear HI0 HR0 HB0
      obtain⟨i,j,dk,rfl,rfl,hjn,hij,hgg,HGR,HR,HI⟩:=hrel
      by_cases hlt:j<n
      · have hltz:(j:Int)<(n:Int):=by omega
        obtain⟨cj,hcl4,hMj,hcc,_⟩:=Kd.R_elem HR.out [] (j:Int) (by omega) hltz
        have hxj:xs[j]? =some (xs.getD j z34):=by simp [List.getD_eq_getElem?_getD,show j<xs.length by rw[HN.out];exact hlt]
        have hrj:rows[j]? =some (rows.getD j []):=by simp [List.getD_eq_getElem?_getD,show j<rows.length by rw[HL.out,HN.out];exact hlt]
        obtain⟨v3,hv3,hR3⟩:=k34_openM (HM.out j _ _ hxj hrj)
        obtain⟨A3,c3,rfl⟩:=Kd.R_slice hR3
        have hcj:cj=rows.getD j []:=by
          have h:=hMj.1
          rw[Int.toNat_natCast] at h
          rw[h,HI.out.at_ (by rw[HL.out,HN.out];exact hlt)]
        rw[hcj,hv3] at hcc
        rw[Int.toNat_natCast] at hcc
        have h0:wr.cell? ⟨g,j*4,none⟩=some _:=hcc 0 _ rfl
        have h1:wr.cell? ⟨g,j*4+1,none⟩=some _:=hcc 1 _ rfl
        have h2:wr.cell? ⟨g,j*4+2,none⟩=some _:=hcc 2 _ rfl
        have h3:wr.cell? ⟨g,j*4+3,none⟩=some _:=hcc 3 _ rfl
        have HRJ:=Aside0.mk hv3
        have hgw:g<wr.heap.size:=Nat.lt_of_lt_of_le HGL.out HGR.out.size
        have HGW:=Aside0.mk hgw
        generalize hx:xs.getD j z34=x at h0 h1 h2 h3 HRJ
        have HX:=Aside0.mk hx
        clear hcc hcj hMj hcl4 hxj hrj hv3 hR3 hx hgw
        clear cj
        cases hq:p x with
        | true=>
          have HQ:=Aside0.mk hq
          go_wp2_with (first | ((with_reducible refine gate_dst (N:=7) rfl ?_);refine box_event ?hg (N:=7) ?hd (cs:= #[.string (⟨#[]⟩:ByteArray), .int .i64 0, .int .i64 0, .slice none 0 0]) (t:=34) ?hr ?_;(case hd=>rfl);(case hg=>rfl);(case hr=>first | (go_simp;done) | (go_simp;rfl));intro gb hgb w7 hbox hb;have BK:=Aside0.mk hbox;have HB7:=Aside0.mk hb;have HGB:=Aside0.mk (Nat.le_of_eq hgb.symm);clear hbox hb hgb) | ((with_reducible refine gate_store (t:=34) (p:=7) rfl ?_);refine box_put rfl rfl (.tmp 7) (.tmp 25) rfl rfl rfl BK.out (by intro u hu;simp only[List.mem_cons,List.not_mem_nil,or_false] at hu;rcases hu with rfl | rfl | rfl | rfl <;> rfl) (by intro u hu;simp only[List.mem_cons,List.not_mem_nil,or_false] at hu;rcases hu with rfl | rfl | rfl | rfl <;> rfl) rfl ?_;intro w8 hg8 b0 b1 b2 b3;have HR8:=Aside0.mk (Kd.R_grown (Kd.R_below HR.out HB7.out) hg8 (fun k hk e=>by injection e with e;have h1:=HGW.out;have h2:=HGB.out;omega));have HG8:=Aside0.mk (grown_new HGR.out (grown_below HB7.out hg8) HGB.out);have HO8:=Aside0.mk ((HG8.out.block gc (Array.getElem?_eq_some_iff.1 HO.out).1 (fun e=>HG.out (by injection e))).trans HO.out);clear hg8 BK HB7) | (go_at_fn gf;have hcall:=HP.out w8 x A3 c3 HO8.out;rw[HQ.out] at hcall;refine hcall.mono ?_;clear hcall;rintro e w9 ⟨rfl,hb9⟩;replace b0:=pw_cell_below hb9 b0;replace b1:=pw_cell_below hb9 b1;replace b2:=pw_cell_below hb9 b2;replace b3:=pw_cell_below hb9 b3;have HR2:=Aside0.mk (Kd.R_below HR8.out hb9);have HG2:=Aside0.mk (grown_trans HG8.out (grown_of_below hb9 _));clear hb9 HR8 HG8 HO8))
          go_roundg (n - (j+1))
          case measure=>omega
          case rel=>exact⟨i,j+1,dk,rfl,by go_num,by omega,by omega,Nat.le_refl _,HG2,HR2,⟨KInv.skip HI.out (by rw[HX.out];exact HQ.out)⟩⟩
        | false=>
          have HQ:=Aside0.mk hq
          have hiz:(i:Int)<(n:Int):=by omega
          go_wp2_with (first | ((with_reducible refine gate_dst (N:=7) rfl ?_);refine box_event ?hg (N:=7) ?hd (cs:= #[.string (⟨#[]⟩:ByteArray), .int .i64 0, .int .i64 0, .slice none 0 0]) (t:=34) ?hr ?_;(case hd=>rfl);(case hg=>rfl);(case hr=>first | (go_simp;done) | (go_simp;rfl));intro gb hgb w7 hbox hb;have BK:=Aside0.mk hbox;have HB7:=Aside0.mk hb;have HGB:=Aside0.mk (Nat.le_of_eq hgb.symm);clear hbox hb hgb) | ((with_reducible refine gate_store (t:=34) (p:=7) rfl ?_);refine box_put rfl rfl (.tmp 7) (.tmp 25) rfl rfl rfl BK.out (by intro u hu;simp only[List.mem_cons,List.not_mem_nil,or_false] at hu;rcases hu with rfl | rfl | rfl | rfl <;> rfl) (by intro u hu;simp only[List.mem_cons,List.not_mem_nil,or_false] at hu;rcases hu with rfl | rfl | rfl | rfl <;> rfl) rfl ?_;intro w8 hg8 b0 b1 b2 b3;have HR8:=Aside0.mk (Kd.R_grown (Kd.R_below HR.out HB7.out) hg8 (fun k hk e=>by injection e with e;have h1:=HGW.out;have h2:=HGB.out;omega));have HG8:=Aside0.mk (grown_new HGR.out (grown_below HB7.out hg8) HGB.out);have HO8:=Aside0.mk ((HG8.out.block gc (Array.getElem?_eq_some_iff.1 HO.out).1 (fun e=>HG.out (by injection e))).trans HO.out);clear hg8 BK HB7) | (go_at_fn gf;have hcall:=HP.out w8 x A3 c3 HO8.out;rw[HQ.out] at hcall;refine hcall.mono ?_;clear hcall;rintro e w9 ⟨rfl,hb9⟩;replace b0:=pw_cell_below hb9 b0;replace b1:=pw_cell_below hb9 b1;replace b2:=pw_cell_below hb9 b2;replace b3:=pw_cell_below hb9 b3;have HR2:=Aside0.mk (Kd.R_below HR8.out hb9);have HG2:=Aside0.mk (grown_trans HG8.out (grown_of_below hb9 _));clear hb9 HR8 HG8 HO8) | ((with_reducible refine gate_store (t:=34) (p:=33) rfl ?_);obtain⟨ci,hci1,_,hci3,_⟩:=Kd.R_elem HR2.out [] (i:Int) (by omega) hiz;refine Kd.R_store (Kd.raw 4) (w0:=w9) base rfl rfl 34 (.tmp 33) (.tmp 32) rfl 34 (o':=i*4) (i:Int) 0 dk (rows.getD j []) (.agg #[.string x.f0, .int .i64 x.f1, .int .i64 x.f2, .slice A3 x.f3.length c3]) [.string x.f0, .int .i64 x.f1, .int .i64 x.f2, .slice A3 x.f3.length c3] ci (fun k=>k=g) (fun _=>False) rfl (by simp [Kd.raw]) rfl rfl (by kernel_rfl) (by intro u hu;simp only[List.mem_cons,List.not_mem_nil,or_false] at hu;rcases hu with rfl | rfl | rfl | rfl <;> rfl) HR2.out (by omega) hiz hci1 hci3 (by simp [Kd.raw]) ?hM (fun _ hk=>hk.elim) (Below.refl _ _) ?_;(case hM=>have hl4:ci.length=4:=hci1;refine⟨?_,?_,?_⟩;(rw[HRJ.out,List.take_zero,List.nil_append,List.drop_eq_nil_of_le (by rw[hl4];exact Nat.le_refl 4),List.append_nil]);(rw[List.take_zero,List.nil_append,List.drop_eq_nil_of_le (by rw[hl4];exact Nat.le_refl 4),List.append_nil];rfl);(rw[List.take_zero,List.nil_append,List.drop_eq_nil_of_le (by rw[hl4];exact Nat.le_refl 4),List.append_nil];intro u hu;simp only[List.mem_cons,List.not_mem_nil,or_false] at hu;rcases hu with rfl | rfl | rfl | rfl <;> rfl));intro w10 hr10 _ hg10;rw[Int.toNat_natCast] at hr10;have HR3:=Aside0.mk hr10;have HG3:=Aside0.mk (grown_trans HG2.out hg10);clear hr10 hg10 hci1 hci3))
          go_roundg (n - (j+1))
          case measure=>omega
          case rel=>exact⟨i+1,j+1,dk.set i (rows.getD j []),by go_num,by go_num,by omega,by omega,Nat.le_refl _,HG3,HR3,⟨KInv.keep HI.out (by rw[HX.out];exact HQ.out) (by rw[HL.out,HN.out];exact hlt)⟩⟩
      · obtain rfl:j=n:=by omega
        have hltz:¬(j:Int)<(j:Int):=by omega
        have hin:i<j:=hij
        have hc4:j≤c:=HCAP.out
        obtain⟨ti,hti,hz⟩:=Option.map_eq_some_iff.1 info34
        simp only[Prod.mk.injEq] at hz
        have hcut1:=cut_from (P:=Try.prog) 25 34 .i64 Try.underlying25 hti 4 hz.2.1 (some ⟨g,0,none⟩) j c (i:Int) (by omega) (by omega)
        rw[Int.toNat_natCast,if_neg (show ¬c=i by omega)] at hcut1
        simp only[Option.map_some,add_plain] at hcut1
        have hcut2:=cut_to (P:=Try.prog) 25 34 .i64 Try.underlying25 hti (some ⟨g,0,none⟩) j c (i:Int) (by omega) (by omega) hc4
        rw[Int.toNat_natCast] at hcut2
        have hcell:∀ t,t<(j - i)*4→(wr.cell? ⟨g,i*4+t,none⟩).isSome=true∧wr.frozen? ⟨g,i*4+t,none⟩=false:=by
          intro t ht
          obtain⟨cc,q1,q2,q3,q4⟩:=Kd.R_elem HR.out [] ((i+t / 4:Nat):Int) (by omega) (by omega)
          rw[Int.toNat_natCast] at q3 q4
          have e:i*4+t=(i+t / 4)*4+t % 4:=by omega
          have q5:t % 4<cc.length:=by rw[q1];exact Nat.mod_lt _ (by omega)
          rw[e]
          exact⟨by rw[show(i+t / 4)*4=(i+t / 4)*(Kd.raw 4).sz from rfl,q3 (t % 4) _ (List.getElem?_eq_getElem q5)];rfl,q4 _⟩
        have hrun:=fun ty=>run_clear4 wr ty g (i*4) (j - i) (c - i) (by omega) (fun t ht=>(hcell t ht).1) (fun t ht=>(hcell t ht).2)
        have hsl:=zeros4_length (j - i)
        generalize zeros4 (j - i)=seg at hrun hsl
        obtain⟨hraw,hgr⟩:=raw_cleared HR.out i (by omega) seg hsl
        have hS:Kd.S k34 34 (wr.setCells g (i*4) seg) base ok (.slice (some ⟨g,0,none⟩) i c) (xs.filter fun x=> !p x):=S_kept (by omega) HN.out.symm HL.out HK.out HM.out (grown_trans HGR.out hgr) HI.out hraw
        have HS:=Aside0.mk hS
        have HGF:=Aside0.mk (grown_trans HGR.out hgr)
        clear hS hgr hraw hcell hti hz hsl
        generalize wr.setCells g (i*4) seg=wz at hrun HS HGF
        go_wp2
        go_ret
        exact⟨_,rfl,HS.out,HGF.out,rfl⟩
end Go.Proofs.Ytlalkldjpniakaa.P
/- The queue's function values once more, where what they have caught is told by its cells. -/
namespace Go.Proofs.Ytlalkldjpniakaa.P
open Go.RowKit Go.Proofs.YtlalkldjpniakaaW.PrintWords Go.Proofs.YtlalkldjpniakaaW.PrintLast Go.Proofs.YtlalkldjpniakaaW.PrintMore
set_option linter.unusedVariables false
set_option linter.unusedSimpArgs false
set_option maxHeartbeats 8000000
set_option maxRecDepth 100000
theorem cell_same {w w':World} {g:Nat} {o:Obj} (h:w.heap[g]? =some o) (h':w'.heap[g]? =some o) (a:Addr) (e:a.block=g):w'.cell? a=w.cell? a:=by
  subst e
  simp [World.cell?,h,h']
theorem obj_of_cell {w:World} {a:Addr} {v:Value} (h:w.cell? a=some v):∃ o,w.heap[a.block]? =some o:=by
  have:=World.block_lt_of_cell? w a h
  exact⟨_,Array.getElem?_eq_getElem this⟩
theorem queue_pred2 (r:ByteArray) (t:Int) (gc:Nat) (o:Obj) (w0:World) (h0:w0.heap[gc]? =some o) (c0:w0.cell? ⟨gc,0,none⟩=some (.string r)) (c1:w0.cell? ⟨gc,1,none⟩=some (.int .i64 t)):PredI 100 #[.pointer (some ⟨gc,0,none⟩)] gc o (likeI r t):=by
  intro W x A c ho
  have h0:=(cell_same h0 ho ⟨gc,0,none⟩ rfl).trans c0
  have h1:=(cell_same (by assumption) ho ⟨gc,1,none⟩ rfl).trans c1
  have hlt:gc<W.heap.size:=(Array.getElem?_eq_some_iff.1 ho).1
  have hne:gc≠W.heap.size:=by omega
  have hu34:=Try.underlying34
  clear ho
  obtain⟨q0,q1,q2,q3⟩:=x
  show Calls Try.prog 100 #[.agg #[.string q0, .int .i64 q1, .int .i64 q2, .slice A q3.length c], .pointer (some ⟨gc,0,none⟩)] W fun e w'=>e= .returned (.bool (q0.toList==r.toList && q1==t))∧Below W.heap.size W w'
  cases e0:(q0.toList==r.toList) with
  | true=>
    cases e1:(q1==t) with
    | true=>
      go_enter Try.func100,Try.ntmps100
      go_wp2
      all_goals (go_ret;exact⟨by simp_all,(Below.refl _ W).alloc (Nat.le_refl _) _⟩)
    | false=>
      go_enter Try.func100,Try.ntmps100
      go_wp2
      all_goals (go_ret;exact⟨by simp_all,(Below.refl _ W).alloc (Nat.le_refl _) _⟩)
  | false=>
    go_enter Try.func100,Try.ntmps100
    go_wp2
    all_goals (go_ret;exact⟨by simp_all,(Below.refl _ W).alloc (Nat.le_refl _) _⟩)
end Go.Proofs.Ytlalkldjpniakaa.P
namespace Go.Proofs.Ytlalkldjpniakaa.P
open Go.RowKit Go.Proofs.YtlalkldjpniakaaW.PrintWords Go.Proofs.YtlalkldjpniakaaW.PrintLast Go.Proofs.YtlalkldjpniakaaW.PrintMore
attribute [local go_sem] zck zcl zdl zdm zbz zca zcm zcn -- for this text's walks alone
set_option linter.unusedVariables false
set_option linter.unusedSimpArgs false
set_option maxHeartbeats 8000000
set_option maxRecDepth 100000

def impl_Of.l0:Nat→ByteArray→Int→List (S34)→Int→Int→Option (Int)
 | 0,_,_,_,_,_=>none
 | k+1,x1,x5,x8,x9,x10=>if x10<x9 then(if 0≤x10 then(if x10<(x8.length:Int) then(if((rd_T34 x8 x10).f0).toList=x1.toList then(impl_Of.l0 k x1 (wrap64 (x5+1)) x8 x9 (wrap64 (x10+1))) else(impl_Of.l0 k x1 x5 x8 x9 (wrap64 (x10+1)))) else(none)) else(none)) else(some x5)
def impl_Of.f (k:Nat) (l0:List (S34)) (a1:ByteArray):Option (Int):=impl_Of.l0 k a1 0 l0 (l0.length:Int) 0
theorem impl_Of.mono_l:∀ k,(∀ y0 y1 y2 y3 y4,LeO (impl_Of.l0 k y0 y1 y2 y3 y4) (impl_Of.l0 (k+1) y0 y1 y2 y3 y4))
 | 0=>fun _ _ _ _ _ r h=>by simp [impl_Of.l0] at h
 | k+1=>by
  have ih0:=impl_Of.mono_l k
  intro y0 y1 y2 y3 y4
  unfold impl_Of.l0
  exact mt
theorem impl_Of.mono:∀ a0 a1 k,LeO (impl_Of.f k a0 a1) (impl_Of.f (k+1) a0 a1):=by
 intro a0 a1 k
 have ih0:=impl_Of.mono_l k
 unfold impl_Of.f
 exact mt
theorem impl_Of.calls (k:Nat) (A0:Option Addr) (c0:Nat) (l0:List (S34)) (a1:ByteArray) (r:Int) (w:World) (hr0:Kd.C k34 w A0 l0.length l0) (hc0:l0.length≤c0) (h:impl_Of.f k l0 a1=some r):
  Calls Try.prog 21 #[.slice A0 l0.length c0, .string a1] w fun e w'=>e= .returned (.int .i64 r)∧Below w.heap.size w w':=by
 have hu34:=Try.underlying34
 have HR0:=Aside0.mk hr0
 have Q1:=Aside0.mk hc0
 clear hr0 hc0
 have HB:=Aside0.mk (zbo w.heap.size w)
 have H:(impl_Of.l0 k a1 0 l0 (l0.length:Int) 0)=some r:=h
 clear h
 have H':=Aside0.mk H
 clear H
 go_enter Try.func21,Try.ntmps21
 go_wp2
 go_loopg [5,10] k (fun kq v5 v10 w'=>∃ (C0:Int) (o0:Int),v5= .int .i64 C0∧v10= .int .i64 o0∧Aside0 (impl_Of.l0 kq a1 C0 l0 (l0.length:Int) o0=some r)∧Aside0 (kq≤k)∧Aside0 (Below w.heap.size w w'))
 case atStart=>exact⟨(0),(0),jer,jer,H',⟨zaf _⟩,⟨bq⟩⟩
 case round=>
  clear H'
  try clear c2
  try clear p2
  obtain⟨C0,o0,rfl,rfl,HA,Q0,HB⟩:=hrel
  cases gk with
  | zero=>exact absurd HA.out (by simp [impl_Of.l0])
  | succ k1=>
   have H:=HA.out
   clear HA
   simp only[impl_Of.l0] at H
   by_cases c3:o0<(l0.length:Int)
   ·rw[if_pos c3] at H
    have Z0:=zae c3
    clear c3
    by_cases c4:0≤o0
    ·rw[if_pos c4] at H
     have O1:=zae c4
     clear c4
     by_cases c5:o0<(l0.length:Int)
     ·rw[if_pos c5] at H
      have P1:=zae c5
      clear c5
      by_cases c6:((rd_T34 l0 o0).f0).toList=a1.toList
      ·rw[if_pos c6] at H
       have n1:=beqT c6
       have C1:=zbb.mpr c6
       clear c6
       have H':=Aside0.mk H
       clear H
       obtain⟨D1,E1,O0,L0,M0,N0,F0,G0,H0,I0,J0,K0⟩:=jel HR0.out HB.out o0
       cases N0
       go_wp2_with (first | (refine jgd 7 ?_;refine bx 7 (#[.string (⟨#[]⟩:ByteArray), .int .i64 0, .int .i64 0, .slice none 0 0]) 34 ?_;intro B0 hg w7 hbox hb;have xb_:=below_ofs bq hb;have n_:=jA4 (zac xb_ hb) (hbox) (ge0 hg xb_:w.heap.size≤B0) (ge0 hg xb_:w.heap.size≤B0);clear HB;obtain⟨HB,D0,P0,E0⟩:=n_;clear xb_ hb hbox hg;obtain⟨F1,G1,H1,I1,J1,K1,M1,N1⟩:=cz4 D0.out))
       go_roundg k1
       case measure=>have:=Q0.out;omega
       case rel=>exact⟨(wrap64 (C0+1)),(wrap64 (o0+1)),jer,jer,H',⟨by have:=Q0.out;omega⟩,⟨bs1 E0.out⟩⟩
      rw[if_neg c6] at H
      have n1:=zau.mpr c6
      have C1:=zcz.mpr c6
      have H':=Aside0.mk H
      clear H
      obtain⟨D1,E1,O0,L0,M0,N0,F0,G0,H0,I0,J0,K0⟩:=jel HR0.out HB.out o0
      cases N0
      go_wp2_with (first | (refine jgd 7 ?_;refine bx 7 (#[.string (⟨#[]⟩:ByteArray), .int .i64 0, .int .i64 0, .slice none 0 0]) 34 ?_;intro B0 hg w9 hbox hb;have xb_:=below_ofs bq hb;have n_:=jA4 (zac xb_ hb) (hbox) (ge0 hg xb_:w.heap.size≤B0) (ge0 hg xb_:w.heap.size≤B0);clear HB;obtain⟨HB,D0,P0,E0⟩:=n_;clear xb_ hb hbox hg;obtain⟨R0,S0,T0,U0,V0,W0,X0,Y0⟩:=cz4 D0.out))
      go_roundg k1
      case measure=>have:=Q0.out;omega
      case rel=>exact⟨(C0),(wrap64 (o0+1)),jer,jer,H',⟨by have:=Q0.out;omega⟩,⟨bs1 E0.out⟩⟩
     rw[if_neg c5] at H
     exact absurd H (by simp)
    rw[if_neg c4] at H
    exact absurd H (by simp)
   rw[if_neg c3] at H
   have Z0:=zbf c3
   clear c3
   obtain rfl:=Option.some.inj H
   go_wp2
   go_ret
   exact⟨jex,bq⟩
def impl_QueueOk.l0:Nat→List (S34)→Nat→Option Bool
 | 0,_,_=>none
 | k+1,l,i=>if i<l.length then((impl_ItemOk.f k (rd_T34 l i).f0 (rd_T34 l i).f1 (rd_T34 l i).f2 (rd_T34 l i).f3).bind fun t1=>if t1=true then((impl_Of.f k l (rd_T34 l i).f0).bind fun t2=>if t2>4 then some false else if(rd_T34 l i).f1>0 then(if(l.take i).any (likeI (rd_T34 l i).f0 (rd_T34 l i).f1)=true then some false else impl_QueueOk.l0 k l (i+1)) else impl_QueueOk.l0 k l (i+1)) else some false) else some true
def impl_QueueOk.f (k:Nat) (l0:List (S34)):Option Bool:=if(l0.length:Int)>10 then some false else impl_QueueOk.l0 k l0 0
theorem impl_QueueOk.l0_mono:∀ k l i,LeO (impl_QueueOk.l0 k l i) (impl_QueueOk.l0 (k+1) l i)
 | 0,l,i=>fun r h=>by simp [impl_QueueOk.l0] at h
 | k+1,l,i=>by
  have ih:=impl_QueueOk.l0_mono k
  unfold impl_QueueOk.l0
  repeat' first
   | (with_reducible exact ih _ _)
   | (with_reducible exact impl_ItemOk.mono _ _ _ _ _)
   | (with_reducible exact impl_Of.mono _ _ _)
   | (with_reducible exact LeO.refl _)
   | (with_reducible refine LeO.ite ?_ ?_)
   | (with_reducible refine LeO.bind ?_ (fun _=>?_))
theorem impl_QueueOk.mono:∀ a0 k,LeO (impl_QueueOk.f k a0) (impl_QueueOk.f (k+1) a0):=by
 intro a0 k
 unfold impl_QueueOk.f
 exact LeO.ite (LeO.refl _) (impl_QueueOk.l0_mono _ _ _)
theorem impl_QueueOk.calls (k:Nat) (A0:Option Addr) (c0:Nat) (l0:List (S34)) (r:Bool) (w:World) (hr0:Kd.C k34 w A0 l0.length l0) (hc0:l0.length≤c0) (h:impl_QueueOk.f k l0=some r):
  Calls Try.prog 43 #[.slice A0 l0.length c0] w fun e w'=>e= .returned (.bool r)∧Below w.heap.size w w':=by
 have hu34:=Try.underlying34
 have eg:∀ args w,(callFunc 100 args).run Try.prog w= .ok (.enter 100 args) w:=enters_of Try.func100 (by kernel_rfl) rfl
 have hlen:=hr0.2.1
 have HR:=Aside0.mk hr0
 have HC:=Aside0.mk hc0
 obtain⟨n,hn⟩:∃ n,l0.length=n:=⟨_,rfl⟩
 have HN:=Aside0.mk hn
 unfold impl_QueueOk.f at h
 by_cases hbig:(l0.length:Int)>10
 ·rw[if_pos hbig] at h
  obtain rfl:=Option.some.inj h
  rw[hn] at hbig hlen ⊢
  clear hr0 hc0 hn h
  go_enter Try.func43,Try.ntmps43
  go_wp2
  go_ret
  exact⟨rfl,zbo _ _⟩
 rw[if_neg hbig] at h
 have F:=Aside0.mk h
 rw[hn] at hbig hlen ⊢
 clear hr0 hc0 hn h
 go_enter Try.func43,Try.ntmps43
 go_wp2
 go_loopg [10] k (fun kq s10 wr=>∃ i:Nat,i≤n∧s10= .int .i64 i∧Aside0 (impl_QueueOk.l0 kq l0 i=some r)∧Aside0 (kq≤k)∧Aside0 (Below w.heap.size w wr))
 case atStart=>exact⟨0,Nat.zero_le _,rfl,F,⟨zaf _⟩,⟨zbo _ w⟩⟩
 case round=>
  clear F
  obtain⟨i,hi,rfl,HA,F0,HB⟩:=hrel
  cases gk with
  | zero=>exact absurd HA.out (by simp [impl_QueueOk.l0])
  | succ k1=>
   have H:=HA.out
   clear HA
   simp only[impl_QueueOk.l0] at H
   by_cases hlt:i<n
   ·rw[if_pos (by rw[HN.out];exact hlt)] at H
    have hltz:(i:Int)<(n:Int):=by omega
    obtain⟨ad,A3,c3,rfl,h0,h1,h2,h3,G0,H0⟩:=at_T34 HR.out (i:Int) (by omega) (by rw[HN.out];exact hltz)
    replace h0:=jcB HB.out h0
    replace h1:=jcB HB.out h1
    replace h2:=jcB HB.out h2
    replace h3:=jcB HB.out h3
    simp only[Int.toNat_natCast] at h0 h1 h2 h3
    have HX3:=Aside0.mk H0
    have E0:=Aside0.mk G0
    clear H0 G0
    generalize rd_T34 l0 (i:Int)=x at h0 h1 h2 h3 HX3 E0 H
    replace H:=zcq.1 H
    obtain⟨t1,HF1,H⟩:=H
    have F1:=Aside0.mk HF1
    clear HF1
    cases t1 with
    | false=>
     rw[if_neg (by simp)] at H
     obtain rfl:=Option.some.inj H
     clear H
     go_wp2_with (first | (refine jgd 4 ?_;refine bx 4 (#[.string (⟨#[]⟩:ByteArray), .int .i64 0, .int .i64 0, .slice none 0 0]) 34 ?_;intro gb hgb w7 hbox hb;have BK:=Aside0.mk hbox;have HB7:=Aside0.mk (zac HB.out hb);have HGB:=Aside0.mk (show w.heap.size≤gb by rw[hgb];exact HB.out.size);clear hbox hb hgb) | ((with_reducible refine zet (t:=34) (p:=4) rfl ?_);refine box_put rfl rfl (.tmp 4) (.tmp 14) rfl rfl rfl BK.out (by intro u hu;simp only[zdr,zct,zfu] at hu;rcases hu with rfl | rfl | rfl | rfl <;> rfl) (by intro u hu;simp only[zdr,zct,zfu] at hu;rcases hu with rfl | rfl | rfl | rfl <;> rfl) rfl ?_;intro w8 hg8 b0 b1 b2 b3;have B0:=Aside0.mk (zcw HB7.out (some gb) HB7.out.size hg8 (fun k_ e=>by injection e with e;rw[← e];exact HGB.out));clear hg8 BK HB7) | (go_at_call 26;refine(impl_ItemOk.calls k1 x.f0 x.f1 x.f2 A3 c3 x.f3 false w8 (zbc HX3.out B0.out) E0.out F1.out).mono ?_;rintro e w9 ⟨rfl,hb9⟩;replace b0:=zbv hb9 b0;replace b1:=zbv hb9 b1;replace b2:=zbv hb9 b2;replace b3:=zbv hb9 b3;have C0:=Aside0.mk (zac B0.out hb9);clear hb9))
     go_ret
     exact⟨rfl,C0.out⟩
    | true=>
     rw[if_pos rfl] at H
     replace H:=zcq.1 H
     obtain⟨t2,HF2,H⟩:=H
     have F2:=Aside0.mk HF2
     clear HF2
     by_cases ht2:t2>4
     ·rw[if_pos ht2] at H
      obtain rfl:=Option.some.inj H
      clear H
      go_wp2_with (first | (refine jgd 4 ?_;refine bx 4 (#[.string (⟨#[]⟩:ByteArray), .int .i64 0, .int .i64 0, .slice none 0 0]) 34 ?_;intro gb hgb w7 hbox hb;have BK:=Aside0.mk hbox;have HB7:=Aside0.mk (zac HB.out hb);have HGB:=Aside0.mk (show w.heap.size≤gb by rw[hgb];exact HB.out.size);clear hbox hb hgb) | ((with_reducible refine zet (t:=34) (p:=4) rfl ?_);refine box_put rfl rfl (.tmp 4) (.tmp 14) rfl rfl rfl BK.out (by intro u hu;simp only[zdr,zct,zfu] at hu;rcases hu with rfl | rfl | rfl | rfl <;> rfl) (by intro u hu;simp only[zdr,zct,zfu] at hu;rcases hu with rfl | rfl | rfl | rfl <;> rfl) rfl ?_;intro w8 hg8 b0 b1 b2 b3;have B0:=Aside0.mk (zcw HB7.out (some gb) HB7.out.size hg8 (fun k_ e=>by injection e with e;rw[← e];exact HGB.out));clear hg8 BK HB7) | (go_at_call 26;refine(impl_ItemOk.calls k1 x.f0 x.f1 x.f2 A3 c3 x.f3 true w8 (zbc HX3.out B0.out) E0.out F1.out).mono ?_;rintro e w9 ⟨rfl,hb9⟩;replace b0:=zbv hb9 b0;replace b1:=zbv hb9 b1;replace b2:=zbv hb9 b2;replace b3:=zbv hb9 b3;have C0:=Aside0.mk (zac B0.out hb9);clear hb9) | (go_at_call 21;have hof:=impl_Of.calls k1 (some ad) c0 l0 x.f0 t2 w9 (zbc HR.out C0.out) HC.out F2.out;rw[HN.out] at hof;refine hof.mono ?_;clear hof;rintro e w10 ⟨rfl,hb10⟩;replace b0:=zbv hb10 b0;replace b1:=zbv hb10 b1;replace b2:=zbv hb10 b2;replace b3:=zbv hb10 b3;have o0:=Aside0.mk (zac C0.out hb10);clear hb10))
      go_ret
      exact⟨rfl,o0.out⟩
     rw[if_neg ht2] at H
     by_cases ht:x.f1>0
     ·rw[if_pos ht] at H
      obtain⟨ti,hti,hz⟩:=Option.map_eq_some_iff.1 info34
      have hcut:=cut_to (P:=Try.prog) 25 34 .i64 Try.underlying25 hti (some ad) n c0 (i:Int) (by omega) (by omega) (by have:=HC.out;rw[HN.out] at this;exact this)
      rw[Int.toNat_natCast] at hcut
      clear hti hz
      generalize hb_:(l0.take i).any (likeI x.f0 x.f1)=b at H
      have hl:(l0.take i).length=i:=by rw[List.length_take,HN.out];omega
      have HT:=Aside0.mk hl
      have HY:=Aside0.mk hb_
      have hq:Kd.C k34 w (some ad) (l0.take i).length (l0.take i):=Kd.C_take HR.out (by rw[HN.out];exact hi)
      have HQ:=Aside0.mk hq
      clear hb_ hl hq
      cases b with
      | true=>
       rw[if_pos rfl] at H
       obtain rfl:=Option.some.inj H
       clear H
       go_wp2_with (first | (refine jgd 4 ?_;refine bx 4 (#[.string (⟨#[]⟩:ByteArray), .int .i64 0, .int .i64 0, .slice none 0 0]) 34 ?_;intro gb hgb w7 hbox hb;have BK:=Aside0.mk hbox;have HB7:=Aside0.mk (zac HB.out hb);have HGB:=Aside0.mk (show w.heap.size≤gb by rw[hgb];exact HB.out.size);clear hbox hb hgb) | ((with_reducible refine zet (t:=34) (p:=4) rfl ?_);refine box_put rfl rfl (.tmp 4) (.tmp 14) rfl rfl rfl BK.out (by intro u hu;simp only[zdr,zct,zfu] at hu;rcases hu with rfl | rfl | rfl | rfl <;> rfl) (by intro u hu;simp only[zdr,zct,zfu] at hu;rcases hu with rfl | rfl | rfl | rfl <;> rfl) rfl ?_;intro w8 hg8 b0 b1 b2 b3;have B0:=Aside0.mk (zcw HB7.out (some gb) HB7.out.size hg8 (fun k_ e=>by injection e with e;rw[← e];exact HGB.out));clear hg8 BK HB7) | (go_at_call 26;refine(impl_ItemOk.calls k1 x.f0 x.f1 x.f2 A3 c3 x.f3 true w8 (zbc HX3.out B0.out) E0.out F1.out).mono ?_;rintro e w9 ⟨rfl,hb9⟩;replace b0:=zbv hb9 b0;replace b1:=zbv hb9 b1;replace b2:=zbv hb9 b2;replace b3:=zbv hb9 b3;have C0:=Aside0.mk (zac B0.out hb9);clear hb9) | (go_at_call 21;have hof:=impl_Of.calls k1 (some ad) c0 l0 x.f0 t2 w9 (zbc HR.out C0.out) HC.out F2.out;rw[HN.out] at hof;refine hof.mono ?_;clear hof;rintro e w10 ⟨rfl,hb10⟩;replace b0:=zbv hb10 b0;replace b1:=zbv hb10 b1;replace b2:=zbv hb10 b2;replace b3:=zbv hb10 b3;have o0:=Aside0.mk (zac C0.out hb10);clear hb10) | (go_at_call 99;obtain⟨o_,ho_⟩:=obj_of_cell b0;have hany:=items_any (likeI x.f0 x.f1) _ _ gb o_ (queue_pred2 x.f0 x.f1 gb o_ w10 ho_ b0 b1) eg (some ad) c0 (l0.take i) w10 (zbc HQ.out o0.out) (by rw[HT.out];have h1:=HC.out;rw[HN.out] at h1;omega) ho_;rw[HY.out,HT.out] at hany;refine hany.mono ?_;clear hany;rintro e w11 ⟨rfl,hb11⟩;have D0:=Aside0.mk (zac o0.out hb11);clear hb11 ho_))
       go_ret
       exact⟨rfl,D0.out⟩
      | false=>
       rw[if_neg (by simp)] at H
       have HA:=Aside0.mk H
       clear H
       go_wp2_with (first | (refine jgd 4 ?_;refine bx 4 (#[.string (⟨#[]⟩:ByteArray), .int .i64 0, .int .i64 0, .slice none 0 0]) 34 ?_;intro gb hgb w7 hbox hb;have BK:=Aside0.mk hbox;have HB7:=Aside0.mk (zac HB.out hb);have HGB:=Aside0.mk (show w.heap.size≤gb by rw[hgb];exact HB.out.size);clear hbox hb hgb) | ((with_reducible refine zet (t:=34) (p:=4) rfl ?_);refine box_put rfl rfl (.tmp 4) (.tmp 14) rfl rfl rfl BK.out (by intro u hu;simp only[zdr,zct,zfu] at hu;rcases hu with rfl | rfl | rfl | rfl <;> rfl) (by intro u hu;simp only[zdr,zct,zfu] at hu;rcases hu with rfl | rfl | rfl | rfl <;> rfl) rfl ?_;intro w8 hg8 b0 b1 b2 b3;have B0:=Aside0.mk (zcw HB7.out (some gb) HB7.out.size hg8 (fun k_ e=>by injection e with e;rw[← e];exact HGB.out));clear hg8 BK HB7) | (go_at_call 26;refine(impl_ItemOk.calls k1 x.f0 x.f1 x.f2 A3 c3 x.f3 true w8 (zbc HX3.out B0.out) E0.out F1.out).mono ?_;rintro e w9 ⟨rfl,hb9⟩;replace b0:=zbv hb9 b0;replace b1:=zbv hb9 b1;replace b2:=zbv hb9 b2;replace b3:=zbv hb9 b3;have C0:=Aside0.mk (zac B0.out hb9);clear hb9) | (go_at_call 21;have hof:=impl_Of.calls k1 (some ad) c0 l0 x.f0 t2 w9 (zbc HR.out C0.out) HC.out F2.out;rw[HN.out] at hof;refine hof.mono ?_;clear hof;rintro e w10 ⟨rfl,hb10⟩;replace b0:=zbv hb10 b0;replace b1:=zbv hb10 b1;replace b2:=zbv hb10 b2;replace b3:=zbv hb10 b3;have o0:=Aside0.mk (zac C0.out hb10);clear hb10) | (go_at_call 99;obtain⟨o_,ho_⟩:=obj_of_cell b0;have hany:=items_any (likeI x.f0 x.f1) _ _ gb o_ (queue_pred2 x.f0 x.f1 gb o_ w10 ho_ b0 b1) eg (some ad) c0 (l0.take i) w10 (zbc HQ.out o0.out) (by rw[HT.out];have h1:=HC.out;rw[HN.out] at h1;omega) ho_;rw[HY.out,HT.out] at hany;refine hany.mono ?_;clear hany;rintro e w11 ⟨rfl,hb11⟩;have D0:=Aside0.mk (zac o0.out hb11);clear hb11 ho_))
       go_roundg k1
       case measure=>have:=F0.out;omega
       case rel=>exact⟨i+1,by omega,by go_num,HA,⟨by have:=F0.out;omega⟩,D0⟩
     rw[if_neg ht] at H
     have HA:=Aside0.mk H
     clear H
     go_wp2_with (first | (refine jgd 4 ?_;refine bx 4 (#[.string (⟨#[]⟩:ByteArray), .int .i64 0, .int .i64 0, .slice none 0 0]) 34 ?_;intro gb hgb w7 hbox hb;have BK:=Aside0.mk hbox;have HB7:=Aside0.mk (zac HB.out hb);have HGB:=Aside0.mk (show w.heap.size≤gb by rw[hgb];exact HB.out.size);clear hbox hb hgb) | ((with_reducible refine zet (t:=34) (p:=4) rfl ?_);refine box_put rfl rfl (.tmp 4) (.tmp 14) rfl rfl rfl BK.out (by intro u hu;simp only[zdr,zct,zfu] at hu;rcases hu with rfl | rfl | rfl | rfl <;> rfl) (by intro u hu;simp only[zdr,zct,zfu] at hu;rcases hu with rfl | rfl | rfl | rfl <;> rfl) rfl ?_;intro w8 hg8 b0 b1 b2 b3;have B0:=Aside0.mk (zcw HB7.out (some gb) HB7.out.size hg8 (fun k_ e=>by injection e with e;rw[← e];exact HGB.out));clear hg8 BK HB7) | (go_at_call 26;refine(impl_ItemOk.calls k1 x.f0 x.f1 x.f2 A3 c3 x.f3 true w8 (zbc HX3.out B0.out) E0.out F1.out).mono ?_;rintro e w9 ⟨rfl,hb9⟩;replace b0:=zbv hb9 b0;replace b1:=zbv hb9 b1;replace b2:=zbv hb9 b2;replace b3:=zbv hb9 b3;have C0:=Aside0.mk (zac B0.out hb9);clear hb9) | (go_at_call 21;have hof:=impl_Of.calls k1 (some ad) c0 l0 x.f0 t2 w9 (zbc HR.out C0.out) HC.out F2.out;rw[HN.out] at hof;refine hof.mono ?_;clear hof;rintro e w10 ⟨rfl,hb10⟩;replace b0:=zbv hb10 b0;replace b1:=zbv hb10 b1;replace b2:=zbv hb10 b2;replace b3:=zbv hb10 b3;have o0:=Aside0.mk (zac C0.out hb10);clear hb10))
     go_roundg k1
     case measure=>have:=F0.out;omega
     case rel=>exact⟨i+1,by omega,by go_num,HA,⟨by have:=F0.out;omega⟩,o0⟩
   rw[if_neg (by rw[HN.out];exact hlt)] at H
   obtain rfl:=Option.some.inj H
   have hltz:¬(i:Int)<(n:Int):=by omega
   clear H
   go_wp2
   go_ret
   exact⟨rfl,HB.out⟩
end Go.Proofs.Ytlalkldjpniakaa.P
