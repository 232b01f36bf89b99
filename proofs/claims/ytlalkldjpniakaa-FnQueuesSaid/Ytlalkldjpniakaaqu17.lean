import Derived.Test.Ytlalkldjpniakaaqu16
import Derived.Test.Ytlalkldjpniakaaqu7
/- slices.DeleteFunc over a list of items of the call's own: the walk. -/
namespace Go.Proofs.Ytlalkldjpniakaa.P
open Go.RowKit Go.Proofs.YtlalkldjpniakaaW.PrintWords Go.Proofs.YtlalkldjpniakaaW.PrintLast Go.Proofs.YtlalkldjpniakaaW.PrintMore
set_option linter.unusedVariables false
set_option linter.unusedSimpArgs false
set_option maxHeartbeats 8000000
set_option maxRecDepth 100000
open Classical in
noncomputable def placeI (l:List Nat) (t:Nat):Nat:=if h:∃ j,l[j]? =some t then Classical.choose h else 0
theorem placeI_at {l:List Nat} {t j:Nat} (hn:l.Nodup) (h:l[j]? =some t):placeI l t=j:=by
  unfold placeI
  have hx:∃ j,l[j]? =some t:=⟨j,h⟩
  rw[dif_pos hx]
  have hc:=Classical.choose_spec hx
  have hj:j<l.length:=(List.getElem?_eq_some_iff.1 h).1
  exact((List.getElem?_inj hj hn).1 (h.trans hc.symm)).symm
/-- What is left, told again as items. -/
theorem S_kept {w w':World} {base g n cap:Nat} {ok okr:Nat→Prop} {p:S34→Bool} {xs:List S34} {rows dk:List (List Value)} {f:Nat→Nat} {i:Nat} (hi:i≤n) (hn:n=xs.length) (hrl:rows.length=xs.length)
    (h0:∀ k,(Value.slice (some ⟨g,0,none⟩) n cap).ownBlock=some k→ok k) (hM:∀ (j:Nat) (x:S34) (c:List Value),xs[j]? =some x→rows[j]? =some c→k34.M w base (fun k=>(ok k∧some k≠(Value.slice (some ⟨g,0,none⟩) n cap).ownBlock)∧f k=j) x c)
    (hg:w.grownBy w' (some g)) (hI:KInv rows p xs n i dk) (hraw:(Kd.raw 4).R 34 w' base okr (.slice (some ⟨g,0,none⟩) i cap) (dk.take i)):Kd.S k34 34 w' base ok (.slice (some ⟨g,0,none⟩) i cap) (xs.filter fun x=> !p x):=by
  have hof:xs.filter (fun x=> !p x)=(keptI p xs n).map fun t=>xs.getD t z34:=by rw[hn];exact filter_kept p xs
  have hnd:(keptI p xs n).Nodup:=(List.nodup_range).filter _
  refine S_of_raw (fun k=>placeI (keptI p xs n) (f k)) (fun k hk=>h0 k (by simpa [Value.ownBlock] using hk)) hraw (by rw[hI.low,hof,List.length_map,List.length_map]) fun j x c hx hc=>?_
  rw[hof,List.getElem?_map] at hx
  rw[hI.low,List.getElem?_map] at hc
  obtain⟨t,ht,rfl⟩:=Option.map_eq_some_iff.1 hx
  obtain⟨t',ht',rfl⟩:=Option.map_eq_some_iff.1 hc
  rw[ht] at ht'
  obtain rfl:=Option.some.inj ht'
  obtain⟨hj,hjt⟩:=List.getElem?_eq_some_iff.1 ht
  have htn:t<n:=keptI_lt (by rw[← hjt];exact List.getElem_mem _)
  have hm:=hM t (xs.getD t z34) (rows.getD t []) (by simp [List.getD_eq_getElem?_getD,show t<xs.length by omega]) (by simp [List.getD_eq_getElem?_getD,show t<rows.length by omega])
  refine Kd.M_step (k34.M_mono (fun k hk=>⟨⟨hk.1.1,by simpa [Value.ownBlock] using hk.1.2⟩,?_⟩) hm) (fun k hk hlt=>hg.block k hlt (fun e=>hk.1.2 (by rw[e];rfl)))
  rw[hk.2]
  exact placeI_at hnd ht
theorem items_delete (p:S34→Bool) (gf:Nat) (lb:Array Value) (gc:Nat) (o:Obj) (hp:PredI gf lb gc o p) (eg:∀ args w,(callFunc gf args).run Try.prog w= .ok (.enter gf args) w) (A:Option Addr) (c:Nat) (xs:List S34) (w:World) (base:Nat) (ok:Nat→Prop)
    (hS:Kd.S k34 34 w base ok (.slice A xs.length c) xs) (ho:w.heap[gc]? =some o) (hgc:some gc≠(Value.slice A xs.length c).ownBlock):
    Calls Try.prog 95 #[.slice A xs.length c, .func (.func gf) #[] lb] w fun e w'=>∃ v':Value,e= .returned v'∧Kd.S k34 34 w' base ok v' (xs.filter fun x=> !p x)∧w.grownBy w' (Value.slice A xs.length c).ownBlock∧v'.ownBlock=(Value.slice A xs.length c).ownBlock:=by
  have hu34:=Try.underlying34
  obtain⟨hcl,hC⟩:=(Kd.R_reads' (Kd.S_R hS)).2
  have hIF:=items_index p gf lb gc o hp eg A c xs w hC hcl ho
  have hlen:=hC.2.1
  rcases idxI_cases p xs with ⟨e1,hall⟩ | ⟨k0,hk0,e1,ht,hall⟩
  · rw[e1] at hIF
    have hfil:xs.filter (fun x=> !p x)=xs:=by
      rw[List.filter_eq_self]
      intro x hx
      obtain⟨j,hj,rfl⟩:=List.mem_iff_getElem.1 hx
      have:=hall j hj
      rw[List.getD_eq_getElem?_getD,List.getElem?_eq_getElem hj] at this
      rw[show p xs[j]=false from this];rfl
    rw[hfil]
    have HS:=Aside0.mk hS
    clear hS hC hcl hall hfil e1 hp ho hgc
    generalize xs.length=n at hIF HS ⊢
    go_enter Try.func95,Try.ntmps95
    go_wp2_with ((go_at_call 102;refine hIF.mono ?_;rintro e w' ⟨rfl,hb⟩))
    go_ret
    exact⟨_,rfl,Kd.S_below HS.out hb,grown_of_below hb _,rfl⟩
  · rw[e1] at hIF
    obtain⟨g,cap,ev,hbg,hgl,hcells⟩:=Kd.S_form hS (by omega)
    obtain⟨f,rows,hrl,hraw,hok,hM⟩:=raw_of_S hS
    have e2:A=some ⟨g,0,none⟩∧c=cap:=by
      injection ev with ea en ec
      exact⟨ea,ec⟩
    obtain⟨rfl,rfl⟩:=e2
    have hgcg:gc≠g:=fun e=>hgc (by rw[e];rfl)
    obtain⟨n,hn⟩:∃ n,xs.length=n:=⟨_,rfl⟩
    rw[hn] at hIF hraw hM hok hlen hk0 ⊢
    have hne1:((k0:Int)== -1)=false:=beq_eq_false_iff_ne.2 (by omega)
    have hk1:(k0:Int)+1≤9223372036854775807:=by omega
    have hI0:KInv rows p xs (k0+1) k0 rows:=KInv.start (by omega) ht hall
    have HI0:=Aside0.mk hI0
    have HM:=Aside0.mk hM
    have HK:=Aside0.mk hok
    have HN:=Aside0.mk hn
    have HL:=Aside0.mk hrl
    have HP:=Aside0.mk hp
    have HO:=Aside0.mk ho
    have HG:=Aside0.mk hgcg
    have HGL:=Aside0.mk hgl
    have hraw2:(Kd.raw 4).R 34 w base (fun k=>k=g) (.slice (some ⟨g,0,none⟩) n c) rows:=Kd.R_mono hraw (fun k hk=>by simpa [Value.ownBlock] using hk)
    have HR0:=Aside0.mk hraw2
    have hcap:n≤c:=by rw[← hn];exact hcl
    have HCAP:=Aside0.mk hcap
    clear hS hC hcl hraw hraw2 hM hok hn hrl hp ho hgc hgcg hall ht e1 ev hbg hgl hcells hI0 hcap
    go_enter Try.func95,Try.ntmps95
    go_wp2_with ((go_at_call 102;refine hIF.mono ?_;rintro e w0 ⟨rfl,hb⟩;have HB0:=Aside0.mk hb;clear hb))
    go_loopg [5,6,7] n (fun gg s5 s6 _ wr=>∃ (i j:Nat) (dk:List (List Value)),s5= .int .i64 i∧s6= .int .i64 j∧j≤n∧i<j∧n - j≤gg∧Aside0 (w.grownBy wr (some g))∧Aside0 ((Kd.raw 4).R 34 wr base (fun k=>k=g) (.slice (some ⟨g,0,none⟩) n c) dk)∧Aside0 (KInv rows p xs j i dk))
    case atStart=>exact⟨k0,k0+1,rows,rfl,by go_num,by omega,by omega,by omega,⟨grown_of_below HB0.out _⟩,⟨Kd.R_below HR0.out HB0.out⟩,HI0⟩
    case round=>
      clear HI0 HR0 HB0
      obtain⟨i,j,dk,rfl,rfl,hjn,hij,hgg,HGR,HR,HI⟩:=hrel
      by_cases hlt:j<n
      · have hltz:(j:Int)<(n:Int):=by omega
        obtain⟨cj,hcl4,hMj,hcc,_⟩:=Kd.R_elem HR.out [] (j:Int) (by omega) hltz
        have hxj:xs[j]? =some (xs.getD j z34):=by simp [List.getD_eq_getElem?_getD,show j<xs.length by rw[HN.out];exact hlt]
        have hrj:rows[j]? =some (rows.getD j []):=by simp [List.getD_eq_getElem?_getD,show j<rows.length by rw[HL.out,HN.out];exact hlt]
        obtain⟨v3,hv3,hR3⟩:=k34_openM (HM.out j _ _ hxj hrj)
        obtain⟨A3,c3,rfl⟩:=Kd.R_slice hR3
        have hcj:cj=rows.getD j []:=by
          have h:=hMj.1
          rw[Int.toNat_natCast] at h
          rw[h,HI.out.at_ (by rw[HL.out,HN.out];exact hlt)]
        rw[hcj,hv3] at hcc
        rw[Int.toNat_natCast] at hcc
        have h0:wr.cell? ⟨g,j*4,none⟩=some _:=hcc 0 _ rfl
        have h1:wr.cell? ⟨g,j*4+1,none⟩=some _:=hcc 1 _ rfl
        have h2:wr.cell? ⟨g,j*4+2,none⟩=some _:=hcc 2 _ rfl
        have h3:wr.cell? ⟨g,j*4+3,none⟩=some _:=hcc 3 _ rfl
        have HRJ:=Aside0.mk hv3
        have hgw:g<wr.heap.size:=Nat.lt_of_lt_of_le HGL.out HGR.out.size
        have HGW:=Aside0.mk hgw
        generalize hx:xs.getD j z34=x at h0 h1 h2 h3 HRJ
        have HX:=Aside0.mk hx
        clear hcc hcj hMj hcl4 hxj hrj hv3 hR3 hx hgw
        clear cj
        cases hq:p x with
        | true=>
          have HQ:=Aside0.mk hq
          go_wp2_with (first | ((with_reducible refine gate_dst (N:=7) rfl ?_);refine box_event ?hg (N:=7) ?hd (cs:= #[.string (⟨#[]⟩:ByteArray), .int .i64 0, .int .i64 0, .slice none 0 0]) (t:=34) ?hr ?_;(case hd=>rfl);(case hg=>rfl);(case hr=>first | (go_simp;done) | (go_simp;rfl));intro gb hgb w7 hbox hb;have BK:=Aside0.mk hbox;have HB7:=Aside0.mk hb;have HGB:=Aside0.mk (Nat.le_of_eq hgb.symm);clear hbox hb hgb) | ((with_reducible refine gate_store (t:=34) (p:=7) rfl ?_);refine box_put rfl rfl (.tmp 7) (.tmp 25) rfl rfl rfl BK.out (by intro u hu;simp only[List.mem_cons,List.not_mem_nil,or_false] at hu;rcases hu with rfl | rfl | rfl | rfl <;> rfl) (by intro u hu;simp only[List.mem_cons,List.not_mem_nil,or_false] at hu;rcases hu with rfl | rfl | rfl | rfl <;> rfl) rfl ?_;intro w8 hg8 b0 b1 b2 b3;have HR8:=Aside0.mk (Kd.R_grown (Kd.R_below HR.out HB7.out) hg8 (fun k hk e=>by injection e with e;have h1:=HGW.out;have h2:=HGB.out;omega));have HG8:=Aside0.mk (grown_new HGR.out (grown_below HB7.out hg8) HGB.out);have HO8:=Aside0.mk ((HG8.out.block gc (Array.getElem?_eq_some_iff.1 HO.out).1 (fun e=>HG.out (by injection e))).trans HO.out);clear hg8 BK HB7) | (go_at_fn gf;have hcall:=HP.out w8 x A3 c3 HO8.out;rw[HQ.out] at hcall;refine hcall.mono ?_;clear hcall;rintro e w9 ⟨rfl,hb9⟩;replace b0:=pw_cell_below hb9 b0;replace b1:=pw_cell_below hb9 b1;replace b2:=pw_cell_below hb9 b2;replace b3:=pw_cell_below hb9 b3;have HR2:=Aside0.mk (Kd.R_below HR8.out hb9);have HG2:=Aside0.mk (grown_trans HG8.out (grown_of_below hb9 _));clear hb9 HR8 HG8 HO8))
          go_roundg (n - (j+1))
          case measure=>omega
          case rel=>exact⟨i,j+1,dk,rfl,by go_num,by omega,by omega,Nat.le_refl _,HG2,HR2,⟨KInv.skip HI.out (by rw[HX.out];exact HQ.out)⟩⟩
        | false=>
          have HQ:=Aside0.mk hq
          have hiz:(i:Int)<(n:Int):=by omega
          go_wp2_with (first | ((with_reducible refine gate_dst (N:=7) rfl ?_);refine box_event ?hg (N:=7) ?hd (cs:= #[.string (⟨#[]⟩:ByteArray), .int .i64 0, .int .i64 0, .slice none 0 0]) (t:=34) ?hr ?_;(case hd=>rfl);(case hg=>rfl);(case hr=>first | (go_simp;done) | (go_simp;rfl));intro gb hgb w7 hbox hb;have BK:=Aside0.mk hbox;have HB7:=Aside0.mk hb;have HGB:=Aside0.mk (Nat.le_of_eq hgb.symm);clear hbox hb hgb) | ((with_reducible refine gate_store (t:=34) (p:=7) rfl ?_);refine box_put rfl rfl (.tmp 7) (.tmp 25) rfl rfl rfl BK.out (by intro u hu;simp only[List.mem_cons,List.not_mem_nil,or_false] at hu;rcases hu with rfl | rfl | rfl | rfl <;> rfl) (by intro u hu;simp only[List.mem_cons,List.not_mem_nil,or_false] at hu;rcases hu with rfl | rfl | rfl | rfl <;> rfl) rfl ?_;intro w8 hg8 b0 b1 b2 b3;have HR8:=Aside0.mk (Kd.R_grown (Kd.R_below HR.out HB7.out) hg8 (fun k hk e=>by injection e with e;have h1:=HGW.out;have h2:=HGB.out;omega));have HG8:=Aside0.mk (grown_new HGR.out (grown_below HB7.out hg8) HGB.out);have HO8:=Aside0.mk ((HG8.out.block gc (Array.getElem?_eq_some_iff.1 HO.out).1 (fun e=>HG.out (by injection e))).trans HO.out);clear hg8 BK HB7) | (go_at_fn gf;have hcall:=HP.out w8 x A3 c3 HO8.out;rw[HQ.out] at hcall;refine hcall.mono ?_;clear hcall;rintro e w9 ⟨rfl,hb9⟩;replace b0:=pw_cell_below hb9 b0;replace b1:=pw_cell_below hb9 b1;replace b2:=pw_cell_below hb9 b2;replace b3:=pw_cell_below hb9 b3;have HR2:=Aside0.mk (Kd.R_below HR8.out hb9);have HG2:=Aside0.mk (grown_trans HG8.out (grown_of_below hb9 _));clear hb9 HR8 HG8 HO8) | ((with_reducible refine gate_store (t:=34) (p:=33) rfl ?_);obtain⟨ci,hci1,_,hci3,_⟩:=Kd.R_elem HR2.out [] (i:Int) (by omega) hiz;refine Kd.R_store (Kd.raw 4) (w0:=w9) base rfl rfl 34 (.tmp 33) (.tmp 32) rfl 34 (o':=i*4) (i:Int) 0 dk (rows.getD j []) (.agg #[.string x.f0, .int .i64 x.f1, .int .i64 x.f2, .slice A3 x.f3.length c3]) [.string x.f0, .int .i64 x.f1, .int .i64 x.f2, .slice A3 x.f3.length c3] ci (fun k=>k=g) (fun _=>False) rfl (by simp [Kd.raw]) rfl rfl (by kernel_rfl) (by intro u hu;simp only[List.mem_cons,List.not_mem_nil,or_false] at hu;rcases hu with rfl | rfl | rfl | rfl <;> rfl) HR2.out (by omega) hiz hci1 hci3 (by simp [Kd.raw]) ?hM (fun _ hk=>hk.elim) (Below.refl _ _) ?_;(case hM=>have hl4:ci.length=4:=hci1;refine⟨?_,?_,?_⟩;(rw[HRJ.out,List.take_zero,List.nil_append,List.drop_eq_nil_of_le (by rw[hl4];exact Nat.le_refl 4),List.append_nil]);(rw[List.take_zero,List.nil_append,List.drop_eq_nil_of_le (by rw[hl4];exact Nat.le_refl 4),List.append_nil];rfl);(rw[List.take_zero,List.nil_append,List.drop_eq_nil_of_le (by rw[hl4];exact Nat.le_refl 4),List.append_nil];intro u hu;simp only[List.mem_cons,List.not_mem_nil,or_false] at hu;rcases hu with rfl | rfl | rfl | rfl <;> rfl));intro w10 hr10 _ hg10;rw[Int.toNat_natCast] at hr10;have HR3:=Aside0.mk hr10;have HG3:=Aside0.mk (grown_trans HG2.out hg10);clear hr10 hg10 hci1 hci3))
          go_roundg (n - (j+1))
          case measure=>omega
          case rel=>exact⟨i+1,j+1,dk.set i (rows.getD j []),by go_num,by go_num,by omega,by omega,Nat.le_refl _,HG3,HR3,⟨KInv.keep HI.out (by rw[HX.out];exact HQ.out) (by rw[HL.out,HN.out];exact hlt)⟩⟩
      · obtain rfl:j=n:=by omega
        have hltz:¬(j:Int)<(j:Int):=by omega
        have hin:i<j:=hij
        have hc4:j≤c:=HCAP.out
        obtain⟨ti,hti,hz⟩:=Option.map_eq_some_iff.1 info34
        simp only[Prod.mk.injEq] at hz
        have hcut1:=cut_from (P:=Try.prog) 25 34 .i64 Try.underlying25 hti 4 hz.2.1 (some ⟨g,0,none⟩) j c (i:Int) (by omega) (by omega)
        rw[Int.toNat_natCast,if_neg (show ¬c=i by omega)] at hcut1
        simp only[Option.map_some,add_plain] at hcut1
        have hcut2:=cut_to (P:=Try.prog) 25 34 .i64 Try.underlying25 hti (some ⟨g,0,none⟩) j c (i:Int) (by omega) (by omega) hc4
        rw[Int.toNat_natCast] at hcut2
        have hcell:∀ t,t<(j - i)*4→(wr.cell? ⟨g,i*4+t,none⟩).isSome=true∧wr.frozen? ⟨g,i*4+t,none⟩=false:=by
          intro t ht
          obtain⟨cc,q1,q2,q3,q4⟩:=Kd.R_elem HR.out [] ((i+t / 4:Nat):Int) (by omega) (by omega)
          rw[Int.toNat_natCast] at q3 q4
          have e:i*4+t=(i+t / 4)*4+t % 4:=by omega
          have q5:t % 4<cc.length:=by rw[q1];exact Nat.mod_lt _ (by omega)
          rw[e]
          exact⟨by rw[show(i+t / 4)*4=(i+t / 4)*(Kd.raw 4).sz from rfl,q3 (t % 4) _ (List.getElem?_eq_getElem q5)];rfl,q4 _⟩
        have hrun:=fun ty=>run_clear4 wr ty g (i*4) (j - i) (c - i) (by omega) (fun t ht=>(hcell t ht).1) (fun t ht=>(hcell t ht).2)
        have hsl:=zeros4_length (j - i)
        generalize zeros4 (j - i)=seg at hrun hsl
        obtain⟨hraw,hgr⟩:=raw_cleared HR.out i (by omega) seg hsl
        have hS:Kd.S k34 34 (wr.setCells g (i*4) seg) base ok (.slice (some ⟨g,0,none⟩) i c) (xs.filter fun x=> !p x):=S_kept (by omega) HN.out.symm HL.out HK.out HM.out (grown_trans HGR.out hgr) HI.out hraw
        have HS:=Aside0.mk hS
        have HGF:=Aside0.mk (grown_trans HGR.out hgr)
        clear hS hgr hraw hcell hti hz hsl
        generalize wr.setCells g (i*4) seg=wz at hrun HS HGF
        go_wp2
        go_ret
        exact⟨_,rfl,HS.out,HGF.out,rfl⟩
end Go.Proofs.Ytlalkldjpniakaa.P
namespace Go.Proofs.Ytlalkldjpniakaa.P
open Go.RowKit Go.Proofs.YtlalkldjpniakaaW.PrintWords Go.Proofs.YtlalkldjpniakaaW.PrintLast Go.Proofs.YtlalkldjpniakaaW.PrintMore
attribute [local go_sem] zbr zbs zch zci zbk zbl zbt zbu -- for this text's walks alone
set_option linter.unusedVariables false
set_option linter.unusedSimpArgs false
set_option maxHeartbeats 8000000
set_option maxRecDepth 100000

def slices_Clone_byte_byte.f (l0:List Int):Option (List Int):=if l0.length<140737488355328 then some l0 else none
theorem slices_Clone_byte_byte.wk {P:Prop} (h:P:=by
 go_enter Try.func116,Try.ntmps116
 go_wp2_with (first | (refine jgd 5 ?_;refine jlt 5 (Kd.int .u8) 5 ?_;intro v297 w_ ho9 hb;have xb_:=below_ofs bq hb;have n_:=jA2 (zbf ho9 (zav xb_)) (zah xb_ hb);clear HB;obtain⟨HO298,HB⟩:=n_;clear xb_ hb ho9) | ((with_reducible refine zbz (b:= .append) (xs:= #[.tmp 5, .tmp 6]) rfl ?_);at_builtin;refine Kd.R_append_rows (Kd.int .u8) (w0:=w) w.heap.size rfl (.tmp 5) (.tmp 6) 29 5 (.int .u8 0) 1 rfl Try.underlying29 info5 rfl (by decide) (by omega) v297 ([]:List Int) l0 _ _ _ (fun _=>True) (fun _=>False) rfl rfl ?aO ?aR (fun _ _ h=>h) (fun _ h=>h.elim) ?aF ?aB ?aS ?aL ?_;(case aR=>exact jcs HR0.out);(case aB=>exact bq);(case aF=>exact(fun _ _=>trivial));(case aO=>exact(pR HO298.out));(case aS=>exact(zav bq));(case aL=>have:=LMc3.out;simp;omega);intro v300 w10 ho hb hg hat;have n_:=jA2 (hb) (ho);clear HB HO298;obtain⟨HB,HO301⟩:=n_;clear ho hb hg hat))
 go_ret
 first | (exact⟨_,rfl,by(with_reducible repeat(first | apply zdb | apply zdc | apply zdl));simpa using HO301.out,bq⟩) | (exact⟨_,rfl,Kd.R_nil _ _ _ _ _,zbe _ _⟩)):P:=h
theorem slices_Clone_byte_byte.calls (A0:Option Addr) (c0:Nat) (l0:List Int) (r:List Int) (w:World) (hr0:Kd.C (Kd.int .u8) w A0 l0.length l0) (hc0:l0.length≤c0) (h:slices_Clone_byte_byte.f l0=some r):
  Calls Try.prog 116 #[.slice A0 l0.length c0] w fun e w'=>∃ v0_:Value,e= .returned (v0_)∧Kd.R (Kd.int .u8) 5 w' w.heap.size (fun _=>True) v0_ r∧Below w.heap.size w w':=by
 unfold slices_Clone_byte_byte.f at h
 by_cases c3:l0.length<140737488355328
 ·rw[if_pos c3] at h
  have LMc3:=Aside0.mk c3
  clear c3
  obtain rfl:=Option.some.inj h
  have HB:=Aside0.mk (zbe w.heap.size w)
  cases A0 with
  | none=>
   have hl:l0=[]:=by
    apply List.eq_nil_of_length_eq_zero
    rcases Nat.eq_zero_or_pos l0.length with h0 | h0
    ·exact h0
    obtain⟨ad,e,_⟩:=hr0.2.2 h0
    cases e
   subst hl
   clear hr0 hc0
   have hq:=fun W=>Lib.run_eql_slice_nil (P:=Try.prog) W 29 5 none 0 c0 0 0 Try.underlying29
   exact slices_Clone_byte_byte.wk
  | some ad=>
   have HR0:=Aside0.mk hr0
   have HC0:=Aside0.mk hc0
   clear hr0 hc0
   have hq:=fun W=>Lib.run_eql_slice_nil (P:=Try.prog) W 29 5 (some ad) l0.length c0 0 0 Try.underlying29
   exact slices_Clone_byte_byte.wk
 rw[if_neg c3] at h
 cases h
end Go.Proofs.Ytlalkldjpniakaa.P
