import Derived.Test.Ytlalkldjpniakaabk33
import Derived.Test.Ytlalkldjpniakaabk7
namespace Go.Proofs.Ytlalkldjpniakaa.P
open Go.RowKit Go.Proofs.YtlalkldjpniakaaW.PrintWords Go.Proofs.YtlalkldjpniakaaW.PrintLast Go.Proofs.YtlalkldjpniakaaW.PrintMore
attribute [local go_sem] zck zcl zdl zdm zbz zca zcm zcn -- for this text's walks alone
set_option linter.unusedVariables false
set_option linter.unusedSimpArgs false

def spec_DrawLineBytes.f (k:Nat) (l0:List Int):Option (Int×ByteArray×Int×Int×List Int):=(spec_l1New.f k l0).bind fun bt1178=>((spec_l14DrawLine.f k bt1178.1 bt1178.2.1 bt1178.2.2).bind fun bt1182=>(some (bt1182.1,bt1182.2.1,bt1182.2.2.1,bt1182.2.2.2.1,bt1182.2.2.2.2.1)))
theorem spec_DrawLineBytes.mono:∀ a0 k,LeO (spec_DrawLineBytes.f k a0) (spec_DrawLineBytes.f (k+1) a0):=by
 intro a0 k
 unfold spec_DrawLineBytes.f
 have m0:=@spec_l14DrawLine.mono
 have m1:=@spec_l1New.mono
 exact mt
set_option maxHeartbeats 8000000 in
set_option maxRecDepth 100000 in
theorem spec_DrawLineBytes.calls (k:Nat) (A0:Option Addr) (c0:Nat) (l0:List Int) (r1:Int) (r2:ByteArray) (r3:Int) (r4:Int) (r5:List Int) (w:World) (hr0:Kd.C (Kd.int .u8) w A0 l0.length l0) (hc0:l0.length≤c0) (h:spec_DrawLineBytes.f k l0=some (r1,r2,r3,r4,r5)):
  Calls Try.prog 71 #[.slice A0 l0.length c0] w fun e w'=>∃ v4_:Value,e= .returned (.agg #[.int .i64 r1, .string r2, .int .i64 r3, .int .i64 r4,v4_])∧Kd.R (Kd.int .u8) 5 w' w.heap.size (fun _=>True) v4_ r5∧Below w.heap.size w w':=by
 have hu48:=Try.underlying48
 have HR0:=Aside0.mk hr0
 have F1:=Aside0.mk hc0
 clear hr0 hc0
 have HB:=Aside0.mk (zbo w.heap.size w)
 have H:((spec_l1New.f k l0).bind fun bt1178=>((spec_l14DrawLine.f k bt1178.1 bt1178.2.1 bt1178.2.2).bind fun bt1182=>(some (bt1182.1,bt1182.2.1,bt1182.2.2.1,bt1182.2.2.2.1,bt1182.2.2.2.2.1))))=some (r1,r2,r3,r4,r5):=h
 clear h
 obtain⟨⟨M0,N0,O0⟩,A2,H⟩:=bnd H
 try dsimp only at H
 obtain⟨⟨F0,H0,I0,J0,K0,P0,Q0⟩,A3,H⟩:=bnd H
 try dsimp only at H
 simp only[zaz,zbn] at H
 obtain⟨rfl,rfl,rfl,rfl,rfl⟩:=H
 go_enter Try.func71,Try.ntmps71
 go_wp2_with (first | (refine jgd 2 ?_;refine bx 2 (#[.int .i64 0, .string (⟨#[]⟩:ByteArray), .int .i64 0, .int .i64 0, .slice none 0 0]) 48 ?_;intro C0 hg w4 hbox hb;have xb_:=below_ofs bq hb;have n_:=jA4 (zac xb_ hb) (hbox) (ge0 hg xb_:w.heap.size≤C0) (ge0 hg xb_:w.heap.size≤C0);clear HB;obtain⟨HB,o0,R0,G0⟩:=n_;clear xb_ hb hbox hg) | (refine jgc 117 ?_;refine jgs 4 Try.func117 #[.slice A0 l0.length c0] ?_;(with_reducible refine(spec_l1New.calls k _ _ l0 M0 N0 O0 w _ ?side1 ?side2 ?side3 A2.out).mono ?_);(case side1=>repeat(first | (with_reducible first | exact HB.out | apply zbe | apply zat | apply zba | refine zav ?_ G0.out) | exact HB.out));(case side2=>exact HR0.out);(case side3=>exact F1.out);rintro e w5 ⟨g1181,rfl,hi,hb,hb2⟩;refine⟨_,rfl,?_⟩;have n_:=jA5 (blk_below (pB o0.out) hb2) (hb) (hi) (IsS132.ne_blk hi (blk_below (pB o0.out) hb2) (by decide)) (Ne.symm (IsS132.ne_blk hi (blk_below (pB o0.out) hb2) (by decide)));clear o0 HB;obtain⟨o0,HB,B0,D0,E0⟩:=n_;(try clear hb);(try clear hb2);(try clear hk);(try clear hi)) | (refine jgc 124 ?_;refine jgs 5 Try.func124 #[.pointer (some ⟨g1181,0,none⟩)] ?_;(with_reducible refine(spec_l14DrawLine.calls k g1181 M0 N0 O0 F0 H0 I0 J0 K0 P0 Q0 w _ ?side1 ?side2 A3.out).mono ?_);(case side1=>repeat(first | (with_reducible first | exact B0.out | apply IsS132.alloc | apply IsS132.drewN | apply IsS132.drew | apply IsS132.set_1 | apply IsS132.set_2 | refine IsS132.far ?_ D0.out _) | exact B0.out));(case side2=>repeat(first | (with_reducible first | exact HB.out | apply zbe | apply zat | apply zba | refine zav ?_ (IsS132.ge B0.out) | refine zav ?_ G0.out) | exact HB.out));rintro e w6 ⟨v1187,rfl,ho0,hi,hb,hk⟩;refine⟨_,rfl,?_⟩;have n_:=jA4 (zcf hk (g':=C0) (o:= .cells #[.int .i64 0, .string (⟨#[]⟩:ByteArray), .int .i64 0, .int .i64 0, .slice none 0 0] 48 (0,0)) (pB o0.out) E0.out (by simp)) (zax ho0 (zal (bs2 (IsS132.ge B0.out) G0.out))) (hb) (hi);clear o0 HB B0;obtain⟨o0,L0,HB,B0⟩:=n_;clear hb hk hi ho0;have G1:=E0.out;have H1:=D0.out;obtain⟨S0,T0,U0,V0,W0,X0,Y0,Z0,n1,C1⟩:=cz5 o0.out;obtain⟨D1,E1,I1⟩:=zbd L0.out;subst I1))
 refine zdp (zes rfl _ _ C0 48 #[.int .i64 F0, .string H0, .int .i64 I0, .int .i64 J0, .slice D1 K0.length E1] (0,0) _ rfl (by(with_reducible repeat(first | refine zaj ?_ _ | refine zan ?_ | refine zak ?_ _));refine zbw (cs:= #[.int .i64 F0, .string H0, .int .i64 I0, .int .i64 J0, .slice none 0 0]) ?_ 4 _ rfl;(with_reducible repeat(first | refine zaj ?_ _ | refine zan ?_ | refine zak ?_ _));refine zbw (cs:= #[.int .i64 F0, .string H0, .int .i64 I0, .int .i64 0, .slice none 0 0]) ?_ 3 _ rfl;(with_reducible repeat(first | refine zaj ?_ _ | refine zan ?_ | refine zak ?_ _));refine zbw (cs:= #[.int .i64 F0, .string H0, .int .i64 0, .int .i64 0, .slice none 0 0]) ?_ 2 _ rfl;(with_reducible repeat(first | refine zaj ?_ _ | refine zan ?_ | refine zak ?_ _));refine zbw (cs:= #[.int .i64 F0, .string (⟨#[]⟩:ByteArray), .int .i64 0, .int .i64 0, .slice none 0 0]) ?_ 1 _ rfl;(with_reducible repeat(first | refine zaj ?_ _ | refine zan ?_ | refine zak ?_ _));refine zbw (cs:= #[.int .i64 0, .string (⟨#[]⟩:ByteArray), .int .i64 0, .int .i64 0, .slice none 0 0]) ?_ 0 _ rfl;(with_reducible repeat(first | refine zaj ?_ _ | refine zan ?_ | refine zak ?_ _));exact o0.out) Try.underlying48 rfl (by kernel_rfl)) rfl ?_
 exact⟨_,jex,by(with_reducible repeat(first | apply zbl | apply zbm | apply zbs));exact zam (zcx (p:=⟨C0,4,none⟩) (zcx (p:=⟨C0,3,none⟩) (rf3 L0.out o0.out) (fun _ hk=>hk.2) (.int .i64 J0)) (fun _ hk=>hk.2) (.slice D1 K0.length E1)) (fun _ hk=>trivial),(bs2 (IsS132.ge B0.out) G0.out)⟩
end Go.Proofs.Ytlalkldjpniakaa.P
/- A region that draws its order: as GReg's law, with what holds all along told of what is done, too. -/
namespace Go.Proofs.Ytlalkldjpniakaa.P
open Go.RowKit Go.Proofs.YtlalkldjpniakaaW.PrintWords Go.Proofs.YtlalkldjpniakaaW.PrintLast Go.Proofs.YtlalkldjpniakaaW.PrintMore
set_option linter.unusedVariables false
set_option linter.unusedSimpArgs false
structure RInv2 (ops:Array Oper) (V:Nat→(Nat→Value)→World→Prop) (G:Array Bool→(Nat→Value)→World→Prop) (cons:Nat→Nat) (a0:Act) (l:Array Bool) (a:Act) (w:World) (vals:Nat→Value):Prop where
  dfr:a.defers=a0.defers
  size:a.tmps.size=a0.tmps.size
  frame:∀ s,(∀ j,j<ops.size→dstOf ops j≠some s)→a.tmps[s]? =a0.tmps[s]?
  slots:∀ j s,l.getD j false=true→dstOf ops j=some s→a.tmps[s]? =some (vals j)
  facts:∀ j,l.getD j false=true→l.getD (cons j) false=false→V j vals w
  closed:∀ j,l.getD j false=true→∀ d∈depsOf ops j,l.getD d false=true
  glob:G l vals w
section
variable {P:Program} {id:Nat} {ops:Array Oper} {Q:Exit→Act→World→Prop}
/-- Region by region: what each operation leaves is told by V; what G tells holds all along; cons j: the operation that uses up what j left (none: the number of operations). -/
theorem region_inv2 {a0:Act} {w0:World} (hm:P.follows .mixedOrders=true) (V:Nat→(Nat→Value)→World→Prop) (G:Array Bool→(Nat→Value)→World→Prop) (cons:Nat→Nat) (hk:regOk ops a0.tmps.size=true)
    (hcong:∀ j vals vals' w,vals j=vals' j→(∀ d∈depsOf ops j,vals d=vals' d)→V j vals w→V j vals' w)
    (h0:G (Array.replicate ops.size false) (fun _=>undef) w0.drew)
    (hstep:∀ i o,ops[i]? =some o→∀ (a:Act) (w:World) (vals:Nat→Value) (l:Array Bool),l.size=ops.size→l.getD i false=false→(∀ s,(∀ j,j<ops.size→dstOf ops j≠some s)→a.tmps[s]? =a0.tmps[s]?)→
      (∀ d∈depsOf ops i,(∀ s,dstOf ops d=some s→a.tmps[s]? =some (vals d))∧((cons d=i∨ops.size≤cons d)→V d vals w))→G l vals w→
      ∀ K:Act→World→Prop,(∀ v w1,V i (upd vals i v) w1→G (l.setIfInBounds i true) (upd vals i v) w1→(∀ k,k≠i→cons k≠i→V k vals w→V k vals w1)→K (a.put o.dst v) w1)→wpOp P ops Q i K a w)
    (hend:∀ (a:Act) (w:World) (vals:Nat→Value),a.defers=a0.defers→a.tmps.size=a0.tmps.size→(∀ s,(∀ j,j<ops.size→dstOf ops j≠some s)→a.tmps[s]? =a0.tmps[s]?)→
      (∀ j s,dstOf ops j=some s→a.tmps[s]? =some (vals j))→(∀ j,j<ops.size→ops.size≤cons j→V j vals w)→(∀ l:Array Bool,l.size=ops.size→(∀ j,j<ops.size→l.getD j false=true)→G l vals w→Q .normal a w)):
    (Code.region id ops true).wp P Q a0 w0:=by
  refine wp_region_any hm ?_
  have key:∀ (fuel:Nat) (l:Array Bool) (a:Act) (w:World) (vals:Nat→Value),l.size=ops.size→RInv2 ops V G cons a0 l a w vals→((List.range ops.size).filter fun j=> !l.getD j false).length≤fuel→wpAny P .any ops Q fuel l a w:=by
    have hready:∀ (l:Array Bool),l.size=ops.size→Region.ready .any ops l=[]→∀ j,j<ops.size→l.getD j false=true:=by
      intro l hl hr
      intro j
      induction j using Nat.strongRecOn with
      | ind j ih=>
        intro hj
        cases hb:l.getD j false with
        | true=>rfl
        | false=>
          exfalso
          have:j∈Region.ready .any ops l:=by
            rw[mem_ready]
            refine⟨?_,ops[j],Array.getElem?_eq_getElem hj,fun e he hbn=>?_⟩
            · simp only[Array.getD_eq_getD_getElem?,Array.getElem?_eq_getElem (show j<l.size by omega),Option.getD_some] at hb ⊢
              exact hb
            · have hd:e.on∈depsOf ops j:=by
                unfold depsOf
                rw[Array.getElem?_eq_getElem hj]
                simp only[Option.map_some,Option.getD_some]
                exact List.mem_map.2 ⟨e,List.mem_filter.2 ⟨Array.mem_toList_iff.2 he,hbn⟩,rfl⟩
              have hlt:=regOk_deps hk hd
              exact ih e.on hlt (by omega)
          rw[hr] at this
          cases this
    have hfin:∀ (l:Array Bool) (a:Act) (w:World) (vals:Nat→Value),l.size=ops.size→RInv2 ops V G cons a0 l a w vals→Region.ready .any ops l=[]→Q .normal a w:=by
      intro l a w vals hl hI hr
      have hall:=hready l hl hr
      refine hend a w vals hI.dfr hI.size hI.frame (fun j s hs=>hI.slots j s (hall j (dst_lt hs)) hs) (fun j hj hc=>hI.facts j (hall j hj) ?_) l hl hall hI.glob
      simp only[Array.getD_eq_getD_getElem?,Array.getElem?_eq_none (show l.size≤cons j by omega)]
      rfl
    intro fuel
    induction fuel with
    | zero=>
      intro l a w vals hl hI hc
      have hr:Region.ready .any ops l=[]:=by
        apply List.eq_nil_iff_forall_not_mem.2
        intro j hj
        have hjr:=(mem_ready.1 hj)
        obtain⟨hun,o,ho,_⟩:=hjr
        have hjl:j<ops.size:=(Array.getElem?_eq_some_iff.1 ho).1
        have:j∈(List.range ops.size).filter fun j=> !l.getD j false:=by
          rw[List.mem_filter,List.mem_range]
          refine⟨hjl,?_⟩
          simp only[Array.getD_eq_getD_getElem?,Array.getElem?_eq_getElem (show j<l.size by omega),Option.getD_some] at hun ⊢
          simp [hun]
        rw[List.eq_nil_of_length_eq_zero (Nat.le_zero.1 hc)] at this
        cases this
      exact⟨hr,hfin l a w vals hl hI hr⟩
    | succ fuel ih=>
      intro l a w vals hl hI hc
      refine⟨hfin l a w vals hl hI,fun i hi=>?_⟩
      obtain⟨hun,o,ho,hdeps⟩:=mem_ready.1 hi
      have hil:i<ops.size:=(Array.getElem?_eq_some_iff.1 ho).1
      have hunl:l.getD i false=false:=by
        simp only[Array.getD_eq_getD_getElem?,Array.getElem?_eq_getElem (show i<l.size by omega),Option.getD_some] at hun ⊢
        exact hun
      have hdl:∀ d∈depsOf ops i,l.getD d false=true:=by
        intro d hd
        unfold depsOf at hd
        rw[ho] at hd
        simp only[Option.map_some,Option.getD_some] at hd
        obtain⟨e,he,rfl⟩:=List.mem_map.1 hd
        obtain⟨he1,he2⟩:=List.mem_filter.1 he
        exact hdeps e (Array.mem_toList_iff.1 he1) he2
      refine hstep i o ho a w vals l hl hunl hI.frame (fun d hd=>⟨fun s hs=>hI.slots d s (hdl d hd) hs,fun hcd=>hI.facts d (hdl d hd) ?_⟩) hI.glob _ (fun v w1 hv hg hst=>?_)
      · rcases hcd with h | h
        · rw[h];exact hunl
        · simp only[Array.getD_eq_getD_getElem?,Array.getElem?_eq_none (show l.size≤cons d by omega)]
          rfl
      · have hil2:i<l.size:=by omega
        refine ih (l.setIfInBounds i true) (a.put o.dst v) w1 (upd vals i v) (by rw[Array.size_setIfInBounds];exact hl) ⟨?_,?_,?_,?_,?_,?_,hg⟩ ?_
        · cases hd:o.dst with
          | none=>exact hI.dfr
          | some d=>exact hI.dfr
        · cases hd:o.dst with
          | none=>exact hI.size
          | some d=>show(a.tmps.setIfInBounds d v).size=_;rw[Array.size_setIfInBounds];exact hI.size
        · intro s hs
          cases hd:o.dst with
          | none=>exact hI.frame s hs
          | some d=>
            have hne:d≠s:=fun e=>hs i hil (by unfold dstOf;rw[ho];show o.dst=_;rw[hd,e])
            show(a.tmps.setIfInBounds d v)[s]? =_
            rw[Array.getElem?_setIfInBounds_ne hne]
            exact hI.frame s hs
        · intro j s hj hs
          have hdi:dstOf ops i=o.dst:=by unfold dstOf;rw[ho];rfl
          by_cases hji:j=i
          · subst hji
            rw[upd_same]
            rw[hdi] at hs
            rw[hs]
            show(a.tmps.setIfInBounds s v)[s]? =_
            have hlt:=(regOk_dst hk (show dstOf ops j=some s by rw[hdi];exact hs)).1
            rw[Array.getElem?_setIfInBounds_self]
            rw[if_pos (by rw[hI.size];exact hlt)]
          · rw[upd_ne vals v hji]
            have hold:=((getD_listed hil2).1 hj).resolve_left hji
            cases hd:o.dst with
            | none=>exact hI.slots j s hold hs
            | some d=>
              have hne:d≠s:=fun e=>(regOk_dst hk hs).2 i (Ne.symm hji) (by rw[hdi,hd,e])
              show(a.tmps.setIfInBounds d v)[s]? =_
              rw[Array.getElem?_setIfInBounds_ne hne]
              exact hI.slots j s hold hs
        · intro j hj hcj
          by_cases hji:j=i
          · subst hji;exact hv
          · have hold:=((getD_listed hil2).1 hj).resolve_left hji
            have hci:cons j≠i:=fun e=>by
              have:=(getD_listed (j:=cons j) hil2).2 (.inl e)
              rw[this] at hcj;cases hcj
            have hcl:l.getD (cons j) false=false:=by
              cases hb:l.getD (cons j) false with
              | false=>rfl
              | true=>
                have:=(getD_listed (j:=cons j) hil2).2 (.inr hb)
                rw[this] at hcj;cases hcj
            refine hcong j vals (upd vals i v) w1 (upd_ne vals v hji).symm (fun d hd=>(upd_ne vals v (fun e=>?_)).symm) (hst j hji hci (hI.facts j hold hcl))
            have:=hI.closed j hold d hd
            rw[e,hunl] at this
            cases this
        · intro j hj d hd
          refine(getD_listed hil2).2 (.inr ?_)
          rcases (getD_listed hil2).1 hj with h | h
          · subst h;exact hdl d hd
          · exact hI.closed j h d hd
        · have hlt:((List.range ops.size).filter fun j=> !(l.setIfInBounds i true).getD j false).length<((List.range ops.size).filter fun j=> !l.getD j false).length:=by
            have hsub:((List.range ops.size).filter fun j=> !(l.setIfInBounds i true).getD j false)=((List.range ops.size).filter fun j=> !l.getD j false).filter (fun j=>decide (j≠i)):=by
              rw[List.filter_filter]
              congr 1
              funext j
              by_cases hji:j=i
              · subst hji
                have:=(getD_listed (j:=j) hil2).2 (.inl rfl)
                simp [this]
              · have:(l.setIfInBounds i true).getD j false=l.getD j false:=by
                  simp only[Array.getD_eq_getD_getElem?,Array.getElem?_setIfInBounds_ne (Ne.symm hji)]
                simp [this,hji]
            rw[hsub]
            refine List.length_filter_lt_length_iff_exists.2 ⟨i,List.mem_filter.2 ⟨List.mem_range.2 hil,by simp [hunl]⟩,by simp⟩
          omega
  have hz:∀ j,(Array.replicate ops.size false).getD j false=false:=by
    intro j
    simp only[Array.getD_eq_getD_getElem?]
    rcases Nat.lt_or_ge j ops.size with h | h
    · simp [h]
    · rw[Array.getElem?_eq_none (by simpa using h)];rfl
  refine key ops.size (Array.replicate ops.size false) a0 _ (fun _=>undef) (by simp) ⟨rfl,rfl,fun _ _=>rfl,fun j s hj=>?_,fun j hj=>?_,fun j hj=>?_,h0⟩ ?_
  · rw[hz j] at hj;cases hj
  · rw[hz j] at hj;cases hj
  · rw[hz j] at hj;cases hj
  · exact Nat.le_trans (List.length_filter_le _ _) (by simp)
end
end Go.Proofs.Ytlalkldjpniakaa.P
