import Derived.Test.Ytlalkldjpniakaabk10
namespace Go.Proofs.Ytlalkldjpniakaa.P
open Go.RowKit Go.Proofs.YtlalkldjpniakaaW.PrintWords Go.Proofs.YtlalkldjpniakaaW.PrintLast Go.Proofs.YtlalkldjpniakaaW.PrintMore
attribute [local go_sem] zck zcl zdl zdm zbz zca zcm zcn -- for this text's walks alone
set_option linter.unusedVariables false
set_option linter.unusedSimpArgs false
set_option maxHeartbeats 8000000
set_option maxRecDepth 100000

def bytes_Join.f (l0:List (List Int)) (l1:List Int):Option (List Int):=if l1.length=0∧l0.flatten.length≤140737488355328∧l0.length≤140737488355328 then some l0.flatten else none
structure bytes_Join.Buf (w0 wr:World) (N:Nat) (acc:List Int):Prop where
 below:Below w0.heap.size w0 wr
 blk:∃ cur,wr.heap[w0.heap.size]? =some (.cells cur 5 (0,0))∧N≤cur.size∧cur.toList.take acc.length=acc.map (Value.int .u8)
 fits:acc.length≤N
theorem bytes_Join.start (w:World) (cs:Array Value) (N q:Nat) (hN:N≤cs.size):bytes_Join.Buf w ((w.alloc (.cells cs 5)).drewN q) N []:=
 ⟨zat (zbe (zbo _ _) _) q,⟨cs,by show(w.alloc (.cells cs 5)).heap[w.heap.size]? =_;exact zgp w _,hN,by simp⟩,by simp⟩
def bytes_Join.tailJ (h N bp:Nat):Value:= .slice (some (if N=bp then⟨h,0,none⟩ else⟨h,bp,none⟩)) (N - bp) (N - bp)
theorem bytes_Join.copied (w0 wr:World) (N:Nat) (acc l:List Int) (p:Option Addr) (cap:Nat) (hb:bytes_Join.Buf w0 wr N acc) (hv:Kd.C (Kd.int .u8) w0 p l.length l) (hfit:acc.length+l.length≤N):
  ∃ w1,(Builtin.copy_ #[29,29] 3 #[bytes_Join.tailJ w0.heap.size N acc.length, .slice p l.length cap]).run Try.prog wr= .ok (.int .i64 (l.length:Int)) w1∧bytes_Join.Buf w0 w1 N (acc++l):=by
 have hu:Try.prog.underlying 29=some (.slice 5):=Try.underlying29
 have hs:(Try.prog.info? 5).map (·.size)=some 1:=by kernel_rfl
 rcases Nat.eq_zero_or_pos l.length with h0 | h0
 ·have hl:l=[]:=List.eq_nil_of_length_eq_zero h0
  subst hl
  exact⟨wr,run_copy_none (P:=Try.prog) wr 29 29 3 5 _ p _ _ 0 cap hu hs (by simp),by simpa using hb⟩
 obtain⟨ad,rfl,hcell⟩:=hv.2.2 h0
 have hne:¬N=acc.length:=by omega
 obtain⟨cur,hg,hN,htake⟩:=hb.blk
 have hcells:∀ j u,(l.map (Value.int .u8))[j]? =some u→wr.cell? (ad.add j)=some u:=by
  intro j u hj
  rw[List.getElem?_map] at hj
  obtain⟨x,hx,rfl⟩:=Option.map_eq_some_iff.1 hj
  obtain⟨c,hc1,hc2,hc3⟩:=hcell j x hx
  have h3:=hc3 0 (.int .u8 x) (by rw[hc2];rfl)
  rw[show j*(Kd.int .u8).sz+0=j from by show j*1+0=j;omega] at h3
  exact zbv hb.below h3
 have hfr:∀ j,wr.frozen? ⟨w0.heap.size,j,none⟩=false:=fun j=>frozen_of_row wr w0.heap.size j cur 5 hg
 have hr:=run_copy_cells (P:=Try.prog) wr 29 29 3 5 w0.heap.size acc.length (N - acc.length) (N - acc.length) ad l.length cap (l.map (Value.int .u8)) hu hs (by rw[List.length_map];exact(Nat.min_eq_left (by omega)).symm) hcells
  (fun j hj=>by rw[List.length_map] at hj;rw[cell_of_row wr w0.heap.size _ cur 5 (0,0) hg,Array.getElem?_eq_getElem (by omega)];rfl) (fun j _=>hfr _) (fun u hu1=>by obtain⟨x,_,rfl⟩:=List.mem_map.1 hu1;rfl)
 rw[List.length_map] at hr
 obtain⟨cur1,h3,h4,h5⟩:=setCells_row (l.map (Value.int .u8)) acc.length wr cur hg (by rw[List.length_map];omega)
 refine⟨_,by unfold bytes_Join.tailJ;rw[if_neg hne];exact hr,⟨Lib.below_setCells w0.heap.size (zaf _) _ _ hb.below,⟨cur1,h3,by omega,?_⟩,by rw[List.length_append];exact hfit⟩⟩
 rw[h5,htake,List.length_append,List.map_append]
 have hlen:acc.length+l.length=(acc.map (Value.int .u8)++l.map (Value.int .u8)).length:=by simp
 rw[hlen]
 exact List.take_left
theorem bytes_Join.part {w:World} {ad:Addr} {ls:List (List Int)} {i:Nat} {x:List Int} (hx:ls[i]? =some x)
  (h:∀ j p,ls[j]? =some p→∃ c,c.length=(Kd.slice 5 (Kd.int .u8)).sz∧(Kd.slice 5 (Kd.int .u8)).K w p c∧∀ i u,c[i]? =some u→w.cell? (ad.add (j*(Kd.slice 5 (Kd.int .u8)).sz+i))=some u):
  ∃ A c,w.cell? (ad.add i)=some (.slice A x.length c)∧x.length≤c∧Kd.C (Kd.int .u8) w A x.length x:=by
 obtain⟨c,_,⟨A,c1,rfl,hl,hC⟩,hcell⟩:=h i x hx
 have h3:=hcell 0 _ rfl
 rw[show i*(Kd.slice 5 (Kd.int .u8)).sz+0=i from by show i*1+0=i;omega] at h3
 exact⟨A,c1,h3,hl,hC⟩
theorem bytes_Join.sum_step (ls:List (List Int)) (i:Nat) (x:List Int) (hx:ls[i]? =some x):(ls.take (i+1)).flatten=(ls.take i).flatten++x:=by
 have hi:i<ls.length:=(List.getElem?_eq_some_iff.1 hx).1
 have he:ls[i]=x:=(List.getElem?_eq_some_iff.1 hx).2
 rw[List.take_succ_eq_append_getElem hi,List.flatten_append,he]
 simp
theorem bytes_Join.sum_le (ls:List (List Int)) (i:Nat):(ls.take i).flatten.length≤ls.flatten.length:=by
 conv=>rhs;rw[← List.take_append_drop i ls]
 rw[List.flatten_append,List.length_append]
 omega
set_option maxRecDepth 1000000 in
theorem bytes_Join.many (ad:Addr) (c0:Nat) (l0:List (List Int)) (A1:Option Addr) (c1:Nat) (w:World) (hcell:∀ j p,l0[j]? =some p→∃ c,c.length=(Kd.slice 5 (Kd.int .u8)).sz∧(Kd.slice 5 (Kd.int .u8)).K w p c∧∀ i u,c[i]? =some u→w.cell? (ad.add (j*(Kd.slice 5 (Kd.int .u8)).sz+i))=some u)
  (n:Nat) (hn:l0.length=n) (h2:2≤n) (hc0:n≤c0) (hT:l0.flatten.length≤140737488355328) (hn47:n≤140737488355328):
  Calls Try.prog 138 #[.slice (some ad) n c0, .slice A1 0 c1] w fun e w'=>∃ v0_:Value,e= .returned (v0_)∧Kd.R (Kd.int .u8) 5 w' w.heap.size (fun _=>True) v0_ l0.flatten∧Below w.heap.size w w':=by
 have PA:=Aside0.mk hcell
 clear hcell
 have f0:((n:Int)==0)=false:=zau.2 (by omega)
 have f1:((n:Int)==1)=false:=zau.2 (by omega)
 have HNH:=Aside0.mk hn
 clear hn
 have u22:∀ w,Sem.run Try.prog (underlying 29) w= .ok (TypeDesc.slice 5) w:=run_underlying Try.underlying29
 go_enter Try.func138,Try.ntmps138
 go_wp2
 go_loopg [5,44] n (fun g s5 s44 wr=>w=wr∧∃ i:Nat,i≤n∧g=n - i∧s44= .int .i64 i∧s5= .int .i64 (((l0.take i).flatten.length:Nat):Int))
 case atStart=>exact⟨rfl,0,Nat.zero_le _,rfl,rfl,by simp⟩
 case round=>
  obtain⟨rfl,i,hi,rfl,rfl,rfl⟩:=hrel
  by_cases hlt:i<n
  ·obtain⟨x,hx⟩:∃ x,l0[i]? =some x:=⟨l0[i]'(by rw[HNH.out];exact hlt),List.getElem?_eq_getElem _⟩
   obtain⟨A,c,hcl,_,_⟩:=bytes_Join.part hx PA.out
   have hs1:=zeo List.length (bytes_Join.sum_step l0 i x hx)
   rw[List.length_append] at hs1
   have hs2:=bytes_Join.sum_le l0 (i+1)
   have HS:=Aside0.mk hs1
   generalize (l0.take i).flatten.length=acc at hs1 HS ⊢
   have hb:¬(9223372036854775807 - (acc:Int)<(x.length:Int)):=by omega
   have hb2:(acc:Int)+(x.length:Int)≤140737488355328:=by omega
   have hb3:(0:Int)≤(acc:Int):=by omega
   clear hs1 hs2
   go_wp2
   go_roundg (n - (i+1))
   case measure=>omega
   case rel=>exact⟨rfl,i+1,by omega,rfl,by go_num,by rw[HS.out];first | rfl | (congr 1;push_cast;omega)⟩
  obtain rfl:n=i:=by omega
  rw[show l0.take n=l0 by rw[← HNH.out,List.take_length]]
  obtain⟨T,hTT⟩:∃ T,l0.flatten.length=T:=⟨_,rfl⟩
  rw[hTT] at hT ⊢
  have HT:=Aside0.mk hTT
  clear hTT
  obtain⟨cs,hrunM,hle,_⟩:=Lib.run_makeNoZero (P:=Try.prog) w #[3] 29 5 Try.underlying29 T (by omega)
  have hcall:(callFunc 150 #[.int .i64 (T:Int)]).run Try.prog w= .ok (.value (.slice (some ⟨w.heap.size,0,none⟩) T cs.size)) ((w.alloc (.cells cs 5)).drewN 2):=by
   rw[run_callFunc_extern Try.func150 (by kernel_rfl) (by kernel_rfl) (by kernel_rfl) (e:=Extern.BytealgMakeNoZero.makeNoZero #[3] #[29]) (by kernel_rfl),hrunM]
   rfl
  clear hrunM
  have i0:(0:Int)≤(T:Int):=by omega
  have i1:(T:Int)≤(cs.size:Int):=by omega
  have B0:=bytes_Join.start w cs T 2 hle
  obtain⟨x0,C0⟩:∃ x,l0[0]? =some x:=⟨l0[0]'(by rw[HNH.out];omega),List.getElem?_eq_getElem _⟩
  obtain⟨A,c,hcl,_,hC⟩:=bytes_Join.part C0 PA.out
  have hs1:=bytes_Join.sum_step l0 0 x0 C0
  rw[List.take_zero,List.flatten_nil,List.nil_append] at hs1
  have hs2:=bytes_Join.sum_le l0 (0+1)
  rw[hs1,HT.out] at hs2
  obtain⟨w1,hr1,B1⟩:=bytes_Join.copied w _ T [] x0 A c B0 hC (by simpa using hs2)
  rw[show bytes_Join.tailJ w.heap.size T ([]:List Int).length= .slice (some ⟨w.heap.size,0,none⟩) T T by unfold bytes_Join.tailJ;split <;> rfl] at hr1
  rw[List.nil_append] at B1
  have hc0:((w.alloc (.cells cs 5)).drewN 2).cell? ad=some (.slice A x0.length c):=by
   rw[Addr.add_zero'] at hcl
   exact zbv B0.below hcl
  obtain⟨ad1,had1⟩:∃ a:Addr,a=ad.add 1:=⟨_,rfl⟩
  have hcut:∀ W:World,(Instr.slice 129 (.slice (some ad) n c0) (some (.int .i64 1)) none none).run Try.prog W= .ok (.slice (some ad1) (n - 1) (c0 - 1)) W:=by
   intro W
   rw[had1]
   have ht:Try.prog.underlying 129=some (.slice (Try.prog.elem 129)):=by kernel_rfl
   have he:Try.prog.elem 129=29:=by kernel_rfl
   have hz:(Go.sizeOf 29).run Try.prog W= .ok 1 W:=by kernel_rfl
   rw[run_slice_l W 129 _ _ _ ht .i64 _ (by omega) (by omega),he,hz]
   have h9:¬c0=1:=by omega
   simp [Result.andThen,sliced,h9]
  have HAD:=Aside0.mk had1
  clear had1
  have hnn:((n:Int) - 1)=((n - 1:Nat):Int):=by omega
  go_wp2_with (at_builtin;refine Lib.wpList_copy_run _ rfl _ _ 29 29 rfl _ _ rfl rfl hr1 ?_)
  have D0:Aside0 (bytes_Join.Buf w w1 T x0):=⟨B1⟩
  have HX0:=Aside0.mk hs1
  clear B1 B0 hr1 hcall hc0 hcl hs1 hs2
  go_loopg [9,72] (n - 1) (fun g2 s9 s72 wr=>∃ (j:Nat) (acc:List Int),j≤n - 1∧n - 1 - j≤g2∧s72= .int .i64 j∧s9= .int .i64 acc.length∧Aside0 (bytes_Join.Buf w wr T acc)∧Aside0 (acc=(l0.take (1+j)).flatten))
  case atStart=>exact⟨0,x0,Nat.zero_le _,by omega,rfl,rfl,D0,⟨HX0.out.symm⟩⟩
  case round=>
   obtain⟨j,acc,hj,hg2,rfl,rfl,HB,HA⟩:=hrel
   by_cases hjn:j<n - 1
   ·have hjz:(j:Int)<((n - 1:Nat):Int):=by omega
    obtain⟨x,hx⟩:∃ x,l0[1+j]? =some x:=⟨l0[1+j]'(by rw[HNH.out];omega),List.getElem?_eq_getElem _⟩
    obtain⟨A2,c2,hcl,_,hC2⟩:=bytes_Join.part hx PA.out
    have hst:=bytes_Join.sum_step l0 (1+j) x hx
    have o0:=bytes_Join.sum_le l0 (1+j+1)
    rw[hst, ← HA.out,List.length_append,HT.out] at o0
    have hcw:wr.cell? (ad1.add j)=some (.slice A2 x.length c2):=by
     rw[HAD.out,Addr.add_add]
     exact zbv HB.out.below hcl
    have hsl:∀ W:World,(Instr.slice 29 (.slice (some ⟨w.heap.size,0,none⟩) T T) (some (.int .i64 (acc.length:Int))) none none).run Try.prog W= .ok (bytes_Join.tailJ w.heap.size T acc.length) W:=by
     intro W
     unfold bytes_Join.tailJ
     have ht:Try.prog.underlying 29=some (.slice (Try.prog.elem 29)):=by kernel_rfl
     have he:Try.prog.elem 29=5:=by kernel_rfl
     have hz:(Go.sizeOf 5).run Try.prog W= .ok 1 W:=by kernel_rfl
     rw[run_slice_l W 29 _ _ _ ht .i64 _ (by omega) (by omega),he,hz]
     by_cases h9:T=acc.length
     ·simp [Result.andThen,sliced,h9]
     simp [Result.andThen,sliced,h9,add_plain]
    have hb0:(0:Int)≤(acc.length:Int):=by omega
    have hb1:(acc.length:Int)+(x.length:Int)≤(T:Int):=by omega
    obtain⟨w2,hr2,B2⟩:=bytes_Join.copied w wr T acc [] A1 c1 HB.out ⟨rfl,Nat.zero_le _,fun h=>absurd h (by simp)⟩ (by simp;omega)
    rw[List.append_nil] at B2
    obtain⟨w3,hr3,B3⟩:=bytes_Join.copied w w2 T acc x A2 c2 B2 hC2 (by omega)
    have E0:Aside0 (bytes_Join.Buf w w3 T (acc++x)):=⟨B3⟩
    have HS:=Aside0.mk hst
    simp only[List.length_nil,Int.natCast_zero] at hr2
    clear B2 B3 hst o0 hcl hC2
    go_wp2_with (at_builtin;first | refine Lib.wpList_copy_run _ rfl _ _ 29 29 rfl _ _ rfl rfl hr2 ?_ | refine Lib.wpList_copy_run _ rfl _ _ 29 29 rfl _ _ rfl rfl hr3 ?_)
    go_roundg (n - 1 - (j+1))
    case measure=>omega
    case rel=>exact⟨j+1,acc++x,by omega,zaf _,by go_num,by rw[List.length_append];first | rfl | (congr 1;push_cast;rfl),E0,⟨by rw[HA.out, ← HS.out];rfl⟩⟩
   obtain rfl:j=n - 1:=by omega
   have hjz:¬(((n - 1:Nat):Int)<((n - 1:Nat):Int)):=by omega
   go_wp2
   go_ret
   have hacc:acc=l0.flatten:=by
    rw[HA.out,show 1+(n - 1)=l0.length by rw[HNH.out];omega,List.take_length]
   have hTl:T=acc.length:=by rw[hacc,HT.out]
   obtain⟨cur,hg,hN,htk⟩:=HB.out.blk
   rw[← hacc]
   exact⟨_,rfl,Kd.R_of_own ⟨by rw[encs,List.length_map,Nat.mul_one], .inr ⟨w.heap.size,T,cur,by rw[hTl];rfl,zaf _,hg,by omega,by unfold maxLen;omega,by omega,by rw[Nat.mul_one];exact htk⟩⟩ (fun _ _=>trivial),HB.out.below⟩
theorem bytes_Join.calls (A0:Option Addr) (c0:Nat) (l0:List (List Int)) (A1:Option Addr) (c1:Nat) (l1:List Int) (r:List Int) (w:World) (hr0:Kd.C (Kd.slice 5 (Kd.int .u8)) w A0 l0.length l0) (hc0:l0.length≤c0) (hr1:Kd.C (Kd.int .u8) w A1 l1.length l1) (hc1:l1.length≤c1) (h:bytes_Join.f l0 l1=some r):
  Calls Try.prog 138 #[.slice A0 l0.length c0, .slice A1 l1.length c1] w fun e w'=>∃ v0_:Value,e= .returned (v0_)∧Kd.R (Kd.int .u8) 5 w' w.heap.size (fun _=>True) v0_ r∧Below w.heap.size w w':=by
 unfold bytes_Join.f at h
 by_cases c3:l1.length=0∧l0.flatten.length≤140737488355328∧l0.length≤140737488355328
 ·rw[if_pos c3] at h
  obtain rfl:=Option.some.inj h
  obtain⟨h1,hT,hn47⟩:=c3
  rw[h1]
  clear h
  match l0,hr0,hc0,hT,hn47 with
  | [],_,_,_,_=>
   go_enter Try.func138,Try.ntmps138
   go_wp2
   go_ret
   refine⟨_,rfl,⟨fun k hk=>trivial,[],⟨rfl, .inr ⟨w.heap.size,0, #[],rfl,zaf _,zgp w _,zaf _,Nat.zero_le _,Nat.zero_le _,rfl⟩⟩,zfq _ _⟩,(zbo _ _).alloc (zaf _) _⟩
  | [x],hr0,hc0,hT,_=>
   obtain⟨ad,rfl,hcell⟩:=hr0.2.2 (by simp)
   obtain⟨A,c,hcl,hl,hC⟩:=bytes_Join.part (i:=0) (x:=x) rfl hcell
   rw[Addr.add_zero'] at hcl
   have HB:=Aside0.mk (zbo w.heap.size w)
   have HR0:=Aside0.mk hC
   have hxl:x.length≤140737488355328:=by simpa using hT
   have LMc3:=Aside0.mk hxl
   clear hcell hC hr0 hc0 hT hxl
   go_enter Try.func138,Try.ntmps138
   go_wp2_with (((with_reducible refine zcd (b:= .append) (xs:= #[.const (.slice none 0 0), .tmp 21]) rfl ?_);at_builtin;refine zej (Kd.int .u8) (w0:=w) w.heap.size rfl (.const (.slice none 0 0)) (.tmp 21) 29 5 (.int .u8 0) 1 rfl Try.underlying29 info5 rfl (by decide) (by omega) (.slice none 0 0) ([]:List Int) x _ _ _ (fun _=>True) (fun _=>False) rfl rfl ?aO ?aR (fun _ _ h=>h) (fun _ h=>h.elim) ?aF ?aB ?aS ?aL ?_;(case aR=>exact HR0.out);(case aB=>exact HB.out);(case aF=>exact(fun _ _=>trivial));(case aO=>exact zgo _ _ _ _ _);(case aS=>exact zaf _);(case aL=>have:=LMc3.out;simp;omega);intro v300 w10 ho hb hg hat;have n0_:=Aside0.mk (hb);have n1_:=Aside0.mk (ho);clear HB;have HB:=n0_;have HO301:=n1_;clear n0_ n1_;clear ho hb hg hat))
   go_ret
   exact⟨_,rfl,by simpa using HO301.out,HB.out⟩
  | x :: y :: r,hr0,hc0,hT,hn47=>
   obtain⟨ad,rfl,hcell⟩:=hr0.2.2 (by simp)
   exact bytes_Join.many ad c0 (x :: y :: r) A1 c1 w hcell _ rfl (by simp) hc0 hT hn47
 rw[if_neg c3] at h
 cases h
def impl_joined.f (l0:List (List Int)):Option (List Int):=(bytes_Join.f l0 ([]:List Int)).bind fun t534=>(some t534)
theorem impl_joined.calls (A0:Option Addr) (c0:Nat) (l0:List (List Int)) (r:List Int) (w:World) (hr0:Kd.C (Kd.slice 5 (Kd.int .u8)) w A0 l0.length l0) (hc0:l0.length≤c0) (h:impl_joined.f l0=some r):
  Calls Try.prog 109 #[.slice A0 l0.length c0] w fun e w'=>∃ v0_:Value,e= .returned (v0_)∧Kd.R (Kd.int .u8) 5 w' w.heap.size (fun _=>True) v0_ r∧Below w.heap.size w w':=by
 have HR0:=Aside0.mk hr0
 have B0:=Aside0.mk hc0
 clear hr0 hc0
 have HB:=Aside0.mk (zbo w.heap.size w)
 have H:((bytes_Join.f l0 ([]:List Int)).bind fun t534=>(some t534))=some r:=h
 clear h
 obtain⟨t534,A2,H⟩:=bnd H
 obtain rfl:=Option.some.inj H
 go_enter Try.func109,Try.ntmps109
 go_wp2_with (first | (refine jgc 138 ?_;refine jgs 4 Try.func138 #[.slice A0 l0.length c0, .slice none 0 0] ?_;(refine(bytes_Join.calls _ _ l0 _ _ ([]:List Int) t534 _ ?side1 ?side2 ?side3 ?side4 A2.out).mono ?_);(case side1=>repeat(first | exact HR0.out | (with_reducible first | apply zdd | apply zdq | apply zeb)));(case side2=>exact B0.out);(case side3=>exact Kd.C_nil _ _);(case side4=>exact zaf _);rintro e w3 ⟨v535,rfl,ho0,hb⟩;refine⟨_,rfl,?_⟩;have xb_:=below_ofs bq hb;have n_:=jA2 (zax ho0 (zal xb_)) (zac xb_ hb);clear HB;obtain⟨o0,HB⟩:=n_;clear xb_ hb ho0))
 go_ret
 exact⟨_,jex,by(with_reducible repeat(first | apply zbl | apply zbm | apply zbs));exact o0.out,bq⟩
def impl_turned.l0:Nat→List Int→List Int→List Int→Int→Int→Option (List Int)
 | 0,_,_,_,_,_=>none
 | k+1,x0,x3,x9,x10,x11=>if x11<x10 then(if 0≤x11 then(if x11<(x9.length:Int) then(if 0≤(wrap64 ((wrap64 ((x0.length:Int) - 1)) - x11)) then(if(wrap64 ((wrap64 ((x0.length:Int) - 1)) - x11))<(x3.length:Int) then(impl_turned.l0 k x0 (x3.set ((wrap64 ((wrap64 ((x0.length:Int) - 1)) - x11)):Int).toNat (rd x9 x11)) x9 x10 (wrap64 (x11+1))) else(none)) else(none)) else(none)) else(none)) else(some x3)
def impl_turned.f (k:Nat) (l0:List Int):Option (List Int):=if 0≤(l0.length:Int) then(if((l0.length:Int):Int).toNat≤281474976710656 then(impl_turned.l0 k l0 (List.replicate ((l0.length:Int):Int).toNat 0) l0 (l0.length:Int) 0) else(none)) else(none)
theorem impl_turned.mono_l:∀ k,(∀ y0 y1 y2 y3 y4,LeO (impl_turned.l0 k y0 y1 y2 y3 y4) (impl_turned.l0 (k+1) y0 y1 y2 y3 y4))
 | 0=>fun _ _ _ _ _ r h=>by simp [impl_turned.l0] at h
 | k+1=>by
  have ih0:=impl_turned.mono_l k
  intro y0 y1 y2 y3 y4
  unfold impl_turned.l0
  exact mt
theorem impl_turned.mono:∀ a0 k,LeO (impl_turned.f k a0) (impl_turned.f (k+1) a0):=by
 intro a0 k
 have ih0:=impl_turned.mono_l k
 unfold impl_turned.f
 exact mt
theorem impl_turned.calls (k:Nat) (A0:Option Addr) (c0:Nat) (l0:List Int) (r:List Int) (w:World) (hr0:Kd.C (Kd.int .u8) w A0 l0.length l0) (hc0:l0.length≤c0) (h:impl_turned.f k l0=some r):
  Calls Try.prog 139 #[.slice A0 l0.length c0] w fun e w'=>∃ v0_:Value,e= .returned (v0_)∧Kd.R (Kd.int .u8) 5 w' w.heap.size (fun _=>True) v0_ r∧Below w.heap.size w w':=by
 have HR0:=Aside0.mk hr0
 have I1:=Aside0.mk hc0
 clear hr0 hc0
 have HB:=Aside0.mk (zbo w.heap.size w)
 have H:(if 0≤(l0.length:Int) then(if((l0.length:Int):Int).toNat≤281474976710656 then(impl_turned.l0 k l0 (List.replicate ((l0.length:Int):Int).toNat 0) l0 (l0.length:Int) 0) else(none)) else(none))=some r:=h
 clear h
 by_cases c2:0≤(l0.length:Int)
 ·rw[if_pos c2] at H
  have S0:=zbr c2
  have T0:=zae c2
  clear c2
  by_cases c3:((l0.length:Int):Int).toNat≤281474976710656
  ·rw[if_pos c3] at H
   have U0:=zbr c3
   have V0:=zae c3
   clear c3
   obtain⟨K0,E0⟩:∃ y_:List Int,y_=(List.replicate ((l0.length:Int):Int).toNat 0):=⟨_,rfl⟩
   replace H:(impl_turned.l0 k l0 K0 l0 (l0.length:Int) 0)=some r:=jrw E0 H
   have G0:=Aside0.mk E0
   clear E0
   have H':=Aside0.mk H
   clear H
   go_enter Try.func139,Try.ntmps139
   go_wp2_with (first | (refine jgd 8 ?_;refine Kd.R_make (Kd.int .u8) _ 5 rfl (N:=8) rfl 29 _ _ rfl (l0.length:Int) rfl rfl Try.underlying29 (.int .u8 0) 1 info5 rfl (by decide) (by omega) 0 (ok:=fun _=>True) (okp:=fun _=>True) rfl (fun _ hk=>hk) trivial (zad jab) (zcv (Nat.mul_le_mul_right _ (zad jab:(l0.length:Int).toNat≤281474976710656)) (by omega)) (zbo _ _) (zaf _) ?_;intro v538 w4 L0 hb hg_ hnew_;have xb_:=below_ofs bq hb;clear hg_ hnew_;(first | rw[← G0.out] at L0 | (simp only[Int.reduceToNat] at L0;rw[← G0.out] at L0));have n_:=jA2 (zax L0 (zal xb_)) (zac xb_ hb);clear HB;obtain⟨M0,HB⟩:=n_;clear xb_ hb L0))
   go_loopg [11] k (fun kq v11 w'=>∃ (B0:List Int) (o0:Int),v11= .int .i64 o0∧Aside0 (impl_turned.l0 kq l0 B0 l0 (l0.length:Int) o0=some r)∧Aside0 (kq≤k)∧Aside0 (Kd.R (Kd.int .u8) 5 w' w.heap.size (fun _=>True) v538 B0)∧Aside0 (Below w.heap.size w w'))
   case atStart=>exact⟨(K0),(0),jer,H',⟨zaf _⟩,⟨pR M0.out⟩,⟨bq⟩⟩
   case round=>
    clear H'
    try clear c1
    try clear c2
    try clear S0
    try clear T0
    try clear p2
    try clear c3
    try clear U0
    try clear V0
    obtain⟨B0,o0,rfl,HA,C1,C0,HB⟩:=hrel
    cases gk with
    | zero=>exact absurd HA.out (by simp [impl_turned.l0])
    | succ k1=>
     have H:=HA.out
     clear HA
     simp only[impl_turned.l0] at H
     by_cases c6:o0<(l0.length:Int)
     ·rw[if_pos c6] at H
      have W0:=zae c6
      clear c6
      by_cases c7:0≤o0
      ·rw[if_pos c7] at H
       have G1:=zae c7
       clear c7
       by_cases c8:o0<(l0.length:Int)
       ·rw[if_pos c8] at H
        have H1:=zae c8
        clear c8
        obtain⟨ji9,hji9⟩:∃ j_:Int,(wrap64 ((wrap64 ((l0.length:Int) - 1)) - o0))=j_:=⟨_,rfl⟩
        replace H:(if 0≤(ji9) then(if(ji9)<(B0.length:Int) then(impl_turned.l0 k1 l0 (B0.set ((ji9):Int).toNat (rd l0 o0)) l0 (l0.length:Int) (wrap64 (o0+1))) else(none)) else(none))=some r:=by first | (rw[hji9] at H;exact H) | (simp only[hji9] at H ⊢;exact H)
        have hji9w:(IntKind.i64.wrap ((wrap64 ((l0.length:Int) - 1)) - o0))=ji9:=(i64_w _).trans hji9
        by_cases c10:0≤(ji9)
        ·rw[if_pos c10] at H
         have D1:=zae c10
         clear c10
         by_cases R0:(ji9)<(B0.length:Int)
         ·rw[if_pos R0] at H
          have E1:=zae R0
          clear R0
          obtain⟨H0,F0⟩:∃ y_:List Int,y_=(B0.set ((ji9):Int).toNat (rd l0 o0)):=⟨_,rfl⟩
          replace H:(impl_turned.l0 k1 l0 H0 l0 (l0.length:Int) (wrap64 (o0+1)))=some r:=jrw F0 H
          have N0:=Aside0.mk F0
          clear F0
          have H':=Aside0.mk H
          clear H
          have I0:0≤(o0:Int):=zad jab
          have J0:o0<(l0.length:Int):=zad jab
          obtain⟨F1,X0,D0⟩:=zfk HR0.out o0 I0 J0
          cases X0
          replace D0:=jcB HB.out D0
          replace I0:=zbr I0
          replace J0:=zbr J0
          have p12:0≤((ji9):Int):=zad jab
          have Y0:((ji9):Int)<((B0.length:Int):Int):=zad jab
          obtain⟨go12,Z0,O0,P0,gl12,cl12,Q0⟩:=Kd.R_form C0.out (by omega)
          (first | cases O0 | (injection O0 with ea_ en_ ec_;(first | subst ea_ | (injection ea_ with ea_;subst ea_));subst ec_;clear en_))
          have GB12:=Aside0.mk P0
          have GG12:=Aside0.mk Q0
          clear P0 gl12 Q0
          obtain⟨n1,hf12_0⟩:=Kd.R_celln 0 C0.out ((ji9):Int) p12 Y0
          replace p12:=zbr p12
          replace Y0:=zbr Y0
          have HP13:=Kd.R_putg C0.out ((ji9):Int) (rd l0 o0)
          go_wp2_with (first | ((with_reducible refine zet (t:=5) (p:=23) rfl ?_);refine store_event (t:=5) (p:=23) (v:=?vo_w14) (w1:=(wr.setCell ⟨go12,((ji9):Int).toNat,none⟩ (.int .u8 (rd l0 o0)))) ?hg ?ho ?hn ?hr ?_;(case ho=>rfl);(case hg=>rfl);(case hn=>rfl);(case hr=>first | (go_simp;done) | (go_simp;rfl));intro w14 hw;have hg:wr.grownBy w14 (some go12):=(by rw[hw];exact HP13.2);have hp_:Kd.R (Kd.int .u8) 5 w14 w.heap.size (fun _=>True) (.slice (some ⟨go12,0,none⟩) B0.length Z0) H0:=(by rw[hw,N0.out];exact HP13.1);clear HP13;have n_:=jA2 (hp_) (by rw[hw];exact zav (HB.out) GB12.out:Below w.heap.size w w14);clear C0 HB;obtain⟨C0,HB⟩:=n_;clear hg hw hp_))
          go_roundg k1
          case measure=>have:=C1.out;omega
          case rel=>exact⟨(H0),(wrap64 (o0+1)),jer,H',⟨by have:=C1.out;omega⟩,⟨pR C0.out⟩,⟨bq⟩⟩
         rw[if_neg R0] at H
         exact absurd H (by simp)
        rw[if_neg c10] at H
        exact absurd H (by simp)
       rw[if_neg c8] at H
       exact absurd H (by simp)
      rw[if_neg c7] at H
      exact absurd H (by simp)
     rw[if_neg c6] at H
     have W0:=zbf c6
     clear c6
     obtain rfl:=Option.some.inj H
     go_wp2
     go_ret
     exact⟨_,jex,by(with_reducible repeat(first | apply zbl | apply zbm | apply zbs));exact C0.out,bq⟩
  rw[if_neg c3] at H
  exact absurd H (by simp)
 rw[if_neg c2] at H
 exact absurd H (by simp)
mutual
def impl_Little.j0:Nat→Int→Int→Bool→Option (List Int)
 | 0,_,_,_=>none
 | k+1,x0,x1,x12=>if x12=true then(some ([]:List Int)) else(impl_Little.l0 k x0 (([]:List Int)) x1 0)
def impl_Little.l0:Nat→Int→List Int→Int→Int→Option (List Int)
 | 0,_,_,_,_=>none
 | k+1,x0,x5,x14,x15=>if x15<x14 then(if x5.length<140737488355328 then(impl_Little.l0 k (x0 / 256) (x5++[(x0) % 256]) x14 (wrap64 (x15+1))) else(none)) else(some x5)
end
def impl_Little.f (k:Nat) (a0:Int) (a1:Int):Option (List Int):=if a0<0 then(impl_Little.j0 k a0 a1 true) else((impl_in.f a1 1 8).bind fun t542=>(impl_Little.j0 k a0 a1 (!t542)))
theorem impl_Little.mono_l:∀ k,(∀ y0 y1 y2,LeO (impl_Little.j0 k y0 y1 y2) (impl_Little.j0 (k+1) y0 y1 y2))∧(∀ y0 y1 y2 y3,LeO (impl_Little.l0 k y0 y1 y2 y3) (impl_Little.l0 (k+1) y0 y1 y2 y3))
 | 0=>⟨fun _ _ _ r h=>by simp [impl_Little.j0] at h,fun _ _ _ _ r h=>by simp [impl_Little.l0] at h⟩
 | k+1=>by
  obtain⟨ih0,ih1⟩:=impl_Little.mono_l k
  refine⟨?_,?_⟩
  ·intro y0 y1 y2
   unfold impl_Little.j0
   exact mt
  intro y0 y1 y2 y3
  unfold impl_Little.l0
  exact mt
theorem impl_Little.mono:∀ a0 a1 k,LeO (impl_Little.f k a0 a1) (impl_Little.f (k+1) a0 a1):=by
 intro a0 a1 k
 obtain⟨ih0,ih1⟩:=impl_Little.mono_l k
 unfold impl_Little.f
 exact mt
theorem impl_Little.calls (k:Nat) (a0:Int) (a1:Int) (r:List Int) (w:World) (h:impl_Little.f k a0 a1=some r):
  Calls Try.prog 140 #[.int .i64 a0, .int .i64 a1] w fun e w'=>∃ v0_:Value,e= .returned (v0_)∧Kd.R (Kd.int .u8) 5 w' w.heap.size (fun _=>True) v0_ r∧Below w.heap.size w w':=by
 have HB:=Aside0.mk (zbo w.heap.size w)
 have H:(if a0<0 then(impl_Little.j0 k a0 a1 true) else((impl_in.f a1 1 8).bind fun t542=>(impl_Little.j0 k a0 a1 (!t542))))=some r:=h
 clear h
 have P0:=Aside0.mk H
 clear H
 go_enter Try.func140,Try.ntmps140
 go_upto_region 1 with (fail)
 go_cut [12] (fun v12 wc=>∃ (kq:Nat) (D0:Bool),v12= .bool D0∧Aside0 (impl_Little.j0 kq a0 a1 D0=some r)∧Aside0 (kq≤k)∧Aside0 (Below w.heap.size w wc))
 case first=>
  have H:=P0.out
  clear P0
  by_cases c4:a0<0
  ·rw[if_pos c4] at H
   have C0:=zae c4
   clear c4
   (first | rw[C0] | (simp only[i64_w,i32_w];rw[C0]) | skip)
   have H':=Aside0.mk H
   clear H
   go_wp2
   go_meet
   case rel=>exact⟨_,(true),jer,H',⟨by first | omega | exact zaf _⟩,⟨bq⟩⟩
  rw[if_neg c4] at H
  have C0:=zbf c4
  clear c4
  (first | rw[C0] | (simp only[i64_w,i32_w];rw[C0]) | skip)
  obtain⟨t542,A5,H⟩:=bnd H
  have H':=Aside0.mk H
  clear H
  go_wp2_with (first | (go_at_call 91;(with_reducible refine(impl_in.calls a1 1 8 t542 _ A5.out).mono ?_);rintro e w' ⟨rfl,⟨nd,rfl⟩⟩))
  go_meet
  case rel=>exact⟨_,(!t542),jer,H',⟨by first | omega | exact zaf _⟩,⟨bq⟩⟩
 case rest=>
  clear P0
  try clear c1
  try clear p2
  try clear c4
  try clear C0
  obtain⟨kq,D0,rfl,HA,R0,HB⟩:=hcut
  cases kq with
  | zero=>exact absurd HA.out (by simp [impl_Little.j0])
  | succ kj2=>
   have H:=HA.out
   clear HA
   simp only[impl_Little.j0] at H
   by_cases c6:D0=true
   ·subst c6
    rw[if_pos rfl] at H
    obtain rfl:=Option.some.inj H
    go_wp2
    go_ret
    exact⟨_,jex,by first | exact zgo _ _ _ _ _ | exact Kd.N_nil _ _ _ _ _ | exact Kd.V_nil _ _ _ _ _ | exact Kd.Q_nil _ _ _ _ _ | exact Kd.S_nil _ _ _ _ _,bq⟩
   replace c6:=zcp.mpr c6
   subst c6
   rw[if_neg (show ¬(false=true) by decide)] at H
   obtain⟨J0,F0⟩:∃ y_:List Int,y_=(([]:List Int)):=⟨_,rfl⟩
   replace H:(impl_Little.l0 kj2 a0 J0 a1 0)=some r:=jrw F0 H
   have H0:=Aside0.mk F0
   clear F0
   have H':=Aside0.mk H
   clear H
   go_wp2_with (first | (refine jgd 13 ?_;refine jlt 13 (Kd.int .u8) 5 ?_;intro v544 w7 K0 hb;have xb_:=below_ofs bq hb;(first | rw[← H0.out] at K0 | (simp only[Int.reduceToNat] at K0;rw[← H0.out] at K0));have n_:=jA2 (zax K0 (zal xb_)) (zac xb_ hb);clear HB;obtain⟨L0,HB⟩:=n_;clear xb_ hb K0))
   go_loopg [0,5,15] kj2 (fun kq v0 v5 v15 w'=>∃ (B0:Int) (E0:List Int) (o0:Int),v0= .int .i64 B0∧v15= .int .i64 o0∧Aside0 (impl_Little.l0 kq B0 E0 a1 o0=some r)∧Aside0 (kq≤kj2)∧Aside0 (Kd.R (Kd.int .u8) 5 w' w.heap.size (fun _=>True) v5 E0)∧Aside0 (Below w.heap.size w w'))
   case atStart=>exact⟨(a0),(J0),(0),jer,jer,H',⟨zaf _⟩,⟨pR L0.out⟩,⟨bq⟩⟩
   case round=>
    clear H'
    try clear c1
    try clear p2
    try clear c4
    try clear C0
    try clear c6
    try clear p2
    obtain⟨B0,E0,o0,rfl,rfl,HA,S0,I0,HB⟩:=hrel
    cases gk with
    | zero=>exact absurd HA.out (by simp [impl_Little.l0])
    | succ k2=>
     have H:=HA.out
     clear HA
     simp only[impl_Little.l0] at H
     by_cases c9:o0<a1
     ·rw[if_pos c9] at H
      have Q0:=zae c9
      clear c9
      by_cases c10:E0.length<140737488355328
      ·rw[if_pos c10] at H
       have LMc10:=Aside0.mk c10
       clear c10
       obtain⟨M0,G0⟩:∃ y_:List Int,y_=(E0++[(B0) % 256]):=⟨_,rfl⟩
       replace H:(impl_Little.l0 k2 (B0 / 256) M0 a1 (wrap64 (o0+1)))=some r:=jrw G0 H
       have N0:=Aside0.mk G0
       clear G0
       have H':=Aside0.mk H
       clear H
       go_wp2_with (first | ((with_reducible refine zcd (b:= .append) (xs:= #[.tmp 17, .tmp 20]) rfl ?_);at_builtin;refine zhd (Kd.int .u8) (w0:=w) w.heap.size rfl (.tmp 17) (.tmp 20) 29 5 (.int .u8 0) 1 rfl Try.underlying29 info5 rfl (by decide) (by omega) u5 E0 ((B0) % 256) [.int .u8 ((B0) % 256)] (fun _=>True) (fun _=>False) rfl rfl ?aP (fun _ hk=>hk.elim) ?aF ?aO ?aB ?aS ?aL ?_;(case aP=>exact rfl);(case aB=>exact bq);(case aF=>exact(fun _ _=>trivial));(case aO=>exact(pR I0.out));(case aS=>exact(zal bq));(case aL=>have:=LMc10.out;omega);intro v547 w11 ho hb hg hat;rw[← N0.out] at ho;have n_:=jA2 (hb) (ho);clear HB I0;obtain⟨HB,O0⟩:=n_;clear ho hb hg hat))
       go_roundg k2
       case measure=>have:=R0.out;have:=S0.out;omega
       case rel=>exact⟨(B0 / 256),(M0),(wrap64 (o0+1)),jer,jer,H',⟨by have:=R0.out;have:=S0.out;omega⟩,⟨pR O0.out⟩,⟨bq⟩⟩
      rw[if_neg c10] at H
      exact absurd H (by simp)
     rw[if_neg c9] at H
     have Q0:=zbf c9
     clear c9
     obtain rfl:=Option.some.inj H
     go_wp2
     go_ret
     exact⟨_,jex,by(with_reducible repeat(first | apply zbl | apply zbm | apply zbs));exact I0.out,bq⟩
def impl_Great.f (k:Nat) (a0:Int) (a1:Int):Option (List Int):=(impl_Little.f k a0 a1).bind fun t549=>((impl_turned.f k t549).bind fun t552=>(some t552))
theorem impl_Great.mono:∀ a0 a1 k,LeO (impl_Great.f k a0 a1) (impl_Great.f (k+1) a0 a1):=by
 intro a0 a1 k
 unfold impl_Great.f
 have m0:=@impl_Little.mono
 have m1:=@impl_turned.mono
 exact mt
theorem impl_Great.calls (k:Nat) (a0:Int) (a1:Int) (r:List Int) (w:World) (h:impl_Great.f k a0 a1=some r):
  Calls Try.prog 110 #[.int .i64 a0, .int .i64 a1] w fun e w'=>∃ v0_:Value,e= .returned (v0_)∧Kd.R (Kd.int .u8) 5 w' w.heap.size (fun _=>True) v0_ r∧Below w.heap.size w w':=by
 have HB:=Aside0.mk (zbo w.heap.size w)
 have H:((impl_Little.f k a0 a1).bind fun t549=>((impl_turned.f k t549).bind fun t552=>(some t552)))=some r:=h
 clear h
 obtain⟨t549,A3,H⟩:=bnd H
 obtain⟨t552,A4,H⟩:=bnd H
 obtain rfl:=Option.some.inj H
 go_enter Try.func110,Try.ntmps110
 go_wp2_with (first | (refine jgc 140 ?_;refine jgs 7 Try.func140 #[.int .i64 a0, .int .i64 a1] ?_;(with_reducible refine(impl_Little.calls k a0 a1 t549 _ A3.out).mono ?_);rintro e w5 ⟨v550,rfl,ho0,hb⟩;refine⟨_,rfl,?_⟩;have xb_:=below_ofs bq hb;have n_:=jA2 (zax ho0 (zal xb_)) (zac xb_ hb);clear HB;obtain⟨o0,HB⟩:=n_;clear xb_ hb ho0;obtain⟨C0,D0,E0⟩:=zbd o0.out;subst E0) | (refine jgc 139 ?_;refine jgs 8 Try.func139 #[.slice C0 t549.length D0] ?_;(with_reducible refine(impl_turned.calls k _ _ t549 t552 _ ?side1 ?side2 A4.out).mono ?_);(case side1=>repeat(first | exact(zbp o0.out).2.2 | (with_reducible first | apply zdd | apply zdq | apply zeb)));(case side2=>exact(zbp o0.out).2.1);rintro e w7 ⟨v553,rfl,ho0,hb⟩;refine⟨_,rfl,?_⟩;have xb_:=below_ofs bq hb;have qHO551:=Kd.R_ofs (pR o0.out) hb;have n_:=jA3 (zbx qHO551 (zbg ho0) hb) (zax (zdg ho0 (zce qHO551)) (zal xb_)) (zac xb_ hb);clear qHO551 o0 HB;obtain⟨o0,B0,HB⟩:=n_;clear xb_ hb ho0))
 go_ret
 exact⟨_,jex,tqR B0.out,bq⟩
end Go.Proofs.Ytlalkldjpniakaa.P
