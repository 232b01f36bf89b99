import Derived.Test.Ytienlgcjohpphaale4
namespace Go.Proofs.Ytienlgcjohpphaa.P
open Go.RowKit Go.Proofs.YtienlgcjohpphaaW.PrintWords Go.Proofs.YtienlgcjohpphaaW.PrintLast Go.Proofs.YtienlgcjohpphaaW.PrintMore
attribute [local go_sem] zcn zco zdk zdl zce zcf zcp zcq -- for this text's walks alone
set_option linter.unusedVariables false
set_option linter.unusedSimpArgs false
set_option maxHeartbeats 8000000
set_option maxRecDepth 100000

def bytes_Join.f (l0:List (List Int)) (l1:List Int):Option (List Int):=if l1.length=0∧l0.flatten.length≤140737488355328∧l0.length≤140737488355328 then some l0.flatten else none
structure bytes_Join.Buf (w0 wr:World) (N:Nat) (acc:List Int):Prop where
 below:Below w0.heap.size w0 wr
 blk:∃ cur,wr.heap[w0.heap.size]? =some (.cells cur 5 (0,0))∧N≤cur.size∧cur.toList.take acc.length=acc.map (Value.int .u8)
 fits:acc.length≤N
theorem bytes_Join.start (w:World) (cs:Array Value) (N q:Nat) (hN:N≤cs.size):bytes_Join.Buf w ((w.alloc (.cells cs 5)).drewN q) N []:=
 ⟨zap (zbe (zbk _ _) _) q,⟨cs,by show(w.alloc (.cells cs 5)).heap[w.heap.size]? =_;exact heap_alloc_new w _,hN,by simp⟩,by simp⟩
def bytes_Join.tailJ (h N bp:Nat):Value:= .slice (some (if N=bp then⟨h,0,none⟩ else⟨h,bp,none⟩)) (N - bp) (N - bp)
theorem bytes_Join.copied (w0 wr:World) (N:Nat) (acc l:List Int) (p:Option Addr) (cap:Nat) (hb:bytes_Join.Buf w0 wr N acc) (hv:Kd.C (Kd.int .u8) w0 p l.length l) (hfit:acc.length+l.length≤N):
  ∃ w1,(Builtin.copy_ #[23,23] 3 #[bytes_Join.tailJ w0.heap.size N acc.length, .slice p l.length cap]).run Try.prog wr= .ok (.int .i64 (l.length:Int)) w1∧bytes_Join.Buf w0 w1 N (acc++l):=by
 have hu:Try.prog.underlying 23=some (.slice 5):=Try.underlying23
 have hs:(Try.prog.info? 5).map (·.size)=some 1:=by kernel_rfl
 rcases Nat.eq_zero_or_pos l.length with h0 | h0
 ·have hl:l=[]:=List.eq_nil_of_length_eq_zero h0
  subst hl
  exact⟨wr,run_copy_none (P:=Try.prog) wr 23 23 3 5 _ p _ _ 0 cap hu hs (by simp),by simpa using hb⟩
 obtain⟨ad,rfl,hcell⟩:=hv.2.2 h0
 have hne:¬N=acc.length:=by omega
 obtain⟨cur,hg,hN,htake⟩:=hb.blk
 have hcells:∀ j u,(l.map (Value.int .u8))[j]? =some u→wr.cell? (ad.add j)=some u:=by
  intro j u hj
  rw[List.getElem?_map] at hj
  obtain⟨x,hx,rfl⟩:=zgo.1 hj
  obtain⟨c,hc1,hc2,hc3⟩:=hcell j x hx
  have h3:=hc3 0 (.int .u8 x) (by rw[hc2];rfl)
  rw[show j*(Kd.int .u8).sz+0=j from by show j*1+0=j;omega] at h3
  exact pw_cell_below hb.below h3
 have hfr:∀ j,wr.frozen? ⟨w0.heap.size,j,none⟩=false:=fun j=>frozen_of_row wr w0.heap.size j cur 5 hg
 have hr:=run_copy_cells (P:=Try.prog) wr 23 23 3 5 w0.heap.size acc.length (N - acc.length) (N - acc.length) ad l.length cap (l.map (Value.int .u8)) hu hs (by rw[zfn];exact(Nat.min_eq_left (by omega)).symm) hcells
  (fun j hj=>by rw[zfn] at hj;rw[cell_of_row wr w0.heap.size _ cur 5 (0,0) hg,Array.getElem?_eq_getElem (by omega)];rfl) (fun j _=>hfr _) (fun u hu1=>by obtain⟨x,_,rfl⟩:=List.mem_map.1 hu1;rfl)
 rw[zfn] at hr
 obtain⟨cur1,h3,h4,h5⟩:=setCells_row (l.map (Value.int .u8)) acc.length wr cur hg (by rw[zfn];omega)
 refine⟨_,by unfold bytes_Join.tailJ;rw[if_neg hne];exact hr,⟨Lib.below_setCells w0.heap.size (zav _) _ _ hb.below,⟨cur1,h3,by omega,?_⟩,by rw[zfo];exact hfit⟩⟩
 rw[h5,htake,zfo,List.map_append]
 have hlen:acc.length+l.length=(acc.map (Value.int .u8)++l.map (Value.int .u8)).length:=by simp
 rw[hlen]
 exact List.take_left
theorem bytes_Join.part {w:World} {ad:Addr} {ls:List (List Int)} {i:Nat} {x:List Int} (hx:ls[i]? =some x)
  (h:∀ j p,ls[j]? =some p→∃ c,c.length=(Kd.slice 5 (Kd.int .u8)).sz∧(Kd.slice 5 (Kd.int .u8)).K w p c∧∀ i u,c[i]? =some u→w.cell? (ad.add (j*(Kd.slice 5 (Kd.int .u8)).sz+i))=some u):
  ∃ A c,w.cell? (ad.add i)=some (.slice A x.length c)∧x.length≤c∧Kd.C (Kd.int .u8) w A x.length x:=by
 obtain⟨c,_,⟨A,c1,rfl,hl,hC⟩,hcell⟩:=h i x hx
 have h3:=hcell 0 _ rfl
 rw[show i*(Kd.slice 5 (Kd.int .u8)).sz+0=i from by show i*1+0=i;omega] at h3
 exact⟨A,c1,h3,hl,hC⟩
theorem bytes_Join.sum_step (ls:List (List Int)) (i:Nat) (x:List Int) (hx:ls[i]? =some x):(ls.take (i+1)).flatten=(ls.take i).flatten++x:=by
 have hi:i<ls.length:=(List.getElem?_eq_some_iff.1 hx).1
 have he:ls[i]=x:=(List.getElem?_eq_some_iff.1 hx).2
 rw[List.take_succ_eq_append_getElem hi,List.flatten_append,he]
 simp
theorem bytes_Join.sum_le (ls:List (List Int)) (i:Nat):(ls.take i).flatten.length≤ls.flatten.length:=by
 conv=>rhs;rw[← List.take_append_drop i ls]
 rw[List.flatten_append,zfo]
 omega
set_option maxRecDepth 1000000 in
theorem bytes_Join.many (ad:Addr) (c0:Nat) (l0:List (List Int)) (A1:Option Addr) (c1:Nat) (w:World) (hcell:∀ j p,l0[j]? =some p→∃ c,c.length=(Kd.slice 5 (Kd.int .u8)).sz∧(Kd.slice 5 (Kd.int .u8)).K w p c∧∀ i u,c[i]? =some u→w.cell? (ad.add (j*(Kd.slice 5 (Kd.int .u8)).sz+i))=some u)
  (n:Nat) (hn:l0.length=n) (h2:2≤n) (hc0:n≤c0) (hT:l0.flatten.length≤140737488355328) (hn47:n≤140737488355328):
  Calls Try.prog 105 #[.slice (some ad) n c0, .slice A1 0 c1] w fun e w'=>∃ v0_:Value,e= .returned (v0_)∧Kd.R (Kd.int .u8) 5 w' w.heap.size (fun _=>True) v0_ l0.flatten∧Below w.heap.size w w':=by
 have PA:=Aside0.mk hcell
 clear hcell
 have f0:((n:Int)==0)=false:=zcl.2 (by omega)
 have f1:((n:Int)==1)=false:=zcl.2 (by omega)
 have HNH:=Aside0.mk hn
 clear hn
 have u22:∀ w,Sem.run Try.prog (underlying 23) w= .ok (TypeDesc.slice 5) w:=run_underlying Try.underlying23
 go_enter Try.func105,Try.ntmps105
 go_wp2
 go_loopg [5,44] n (fun g s5 s44 wr=>w=wr∧∃ i:Nat,i≤n∧g=n - i∧s44= .int .i64 i∧s5= .int .i64 (((l0.take i).flatten.length:Nat):Int))
 case atStart=>exact⟨rfl,0,Nat.zero_le _,rfl,rfl,by simp⟩
 case round=>
  obtain⟨rfl,i,hi,rfl,rfl,rfl⟩:=hrel
  by_cases hlt:i<n
  ·obtain⟨x,hx⟩:∃ x,l0[i]? =some x:=⟨l0[i]'(by rw[HNH.out];exact hlt),List.getElem?_eq_getElem _⟩
   obtain⟨A,c,hcl,_,_⟩:=bytes_Join.part hx PA.out
   have hs1:=congrArg List.length (bytes_Join.sum_step l0 i x hx)
   rw[zfo] at hs1
   have hs2:=bytes_Join.sum_le l0 (i+1)
   have HS:=Aside0.mk hs1
   generalize (l0.take i).flatten.length=acc at hs1 HS ⊢
   have hb:¬(9223372036854775807 - (acc:Int)<(x.length:Int)):=by omega
   have hb2:(acc:Int)+(x.length:Int)≤140737488355328:=by omega
   have hb3:(0:Int)≤(acc:Int):=by omega
   clear hs1 hs2
   go_wp2
   go_roundg (n - (i+1))
   case measure=>omega
   case rel=>exact⟨rfl,i+1,by omega,rfl,by go_num,by rw[HS.out];first | rfl | (congr 1;push_cast;omega)⟩
  obtain rfl:n=i:=by omega
  rw[show l0.take n=l0 by rw[← HNH.out,List.take_length]]
  obtain⟨T,hTT⟩:∃ T,l0.flatten.length=T:=⟨_,rfl⟩
  rw[hTT] at hT ⊢
  have HT:=Aside0.mk hTT
  clear hTT
  obtain⟨cs,hrunM,hle,_⟩:=Lib.run_makeNoZero (P:=Try.prog) w #[3] 23 5 Try.underlying23 T (by omega)
  have hcall:(callFunc 114 #[.int .i64 (T:Int)]).run Try.prog w= .ok (.value (.slice (some ⟨w.heap.size,0,none⟩) T cs.size)) ((w.alloc (.cells cs 5)).drewN 2):=by
   rw[run_callFunc_extern Try.func114 (by kernel_rfl) (by kernel_rfl) (by kernel_rfl) (e:=Extern.BytealgMakeNoZero.makeNoZero #[3] #[23]) (by kernel_rfl),hrunM]
   rfl
  clear hrunM
  have i0:(0:Int)≤(T:Int):=by omega
  have i1:(T:Int)≤(cs.size:Int):=by omega
  have B0:=bytes_Join.start w cs T 2 hle
  obtain⟨x0,hx0⟩:∃ x,l0[0]? =some x:=⟨l0[0]'(by rw[HNH.out];omega),List.getElem?_eq_getElem _⟩
  obtain⟨A,c,hcl,_,hC⟩:=bytes_Join.part hx0 PA.out
  have hs1:=bytes_Join.sum_step l0 0 x0 hx0
  rw[List.take_zero,List.flatten_nil,List.nil_append] at hs1
  have hs2:=bytes_Join.sum_le l0 (0+1)
  rw[hs1,HT.out] at hs2
  obtain⟨w1,hr1,B1⟩:=bytes_Join.copied w _ T [] x0 A c B0 hC (by simpa using hs2)
  rw[show bytes_Join.tailJ w.heap.size T ([]:List Int).length= .slice (some ⟨w.heap.size,0,none⟩) T T by unfold bytes_Join.tailJ;split <;> rfl] at hr1
  rw[List.nil_append] at B1
  have hc0:((w.alloc (.cells cs 5)).drewN 2).cell? ad=some (.slice A x0.length c):=by
   rw[zfm] at hcl
   exact pw_cell_below B0.below hcl
  obtain⟨ad1,had1⟩:∃ a:Addr,a=ad.add 1:=⟨_,rfl⟩
  have hcut:∀ W:World,(Instr.slice 86 (.slice (some ad) n c0) (some (.int .i64 1)) none none).run Try.prog W= .ok (.slice (some ad1) (n - 1) (c0 - 1)) W:=by
   intro W
   rw[had1]
   have ht:Try.prog.underlying 86=some (.slice (Try.prog.elem 86)):=by kernel_rfl
   have he:Try.prog.elem 86=23:=by kernel_rfl
   have hz:(Go.sizeOf 23).run Try.prog W= .ok 1 W:=by kernel_rfl
   rw[run_slice_l W 86 _ _ _ ht .i64 _ (by omega) (by omega),he,hz]
   have h9:¬c0=1:=by omega
   simp [Result.andThen,sliced,h9]
  have HAD:=Aside0.mk had1
  clear had1
  have hnn:((n:Int) - 1)=((n - 1:Nat):Int):=by omega
  go_wp2_with (at_builtin;refine Lib.wpList_copy_run _ rfl _ _ 23 23 rfl _ _ rfl rfl hr1 ?_)
  have HB1:Aside0 (bytes_Join.Buf w w1 T x0):=⟨B1⟩
  have HX0:=Aside0.mk hs1
  clear B1 B0 hr1 hcall hc0 hcl hs1 hs2
  go_loopg [9,72] (n - 1) (fun g2 s9 s72 wr=>∃ (j:Nat) (acc:List Int),j≤n - 1∧n - 1 - j≤g2∧s72= .int .i64 j∧s9= .int .i64 acc.length∧Aside0 (bytes_Join.Buf w wr T acc)∧Aside0 (acc=(l0.take (1+j)).flatten))
  case atStart=>exact⟨0,x0,Nat.zero_le _,by omega,rfl,rfl,HB1,⟨HX0.out.symm⟩⟩
  case round=>
   obtain⟨j,acc,hj,hg2,rfl,rfl,HB,HA⟩:=hrel
   by_cases hjn:j<n - 1
   ·have hjz:(j:Int)<((n - 1:Nat):Int):=by omega
    obtain⟨x,hx⟩:∃ x,l0[1+j]? =some x:=⟨l0[1+j]'(by rw[HNH.out];omega),List.getElem?_eq_getElem _⟩
    obtain⟨A2,c2,hcl,_,hC2⟩:=bytes_Join.part hx PA.out
    have hst:=bytes_Join.sum_step l0 (1+j) x hx
    have hle2:=bytes_Join.sum_le l0 (1+j+1)
    rw[hst, ← HA.out,zfo,HT.out] at hle2
    have hcw:wr.cell? (ad1.add j)=some (.slice A2 x.length c2):=by
     rw[HAD.out,Addr.add_add]
     exact pw_cell_below HB.out.below hcl
    have hsl:∀ W:World,(Instr.slice 23 (.slice (some ⟨w.heap.size,0,none⟩) T T) (some (.int .i64 (acc.length:Int))) none none).run Try.prog W= .ok (bytes_Join.tailJ w.heap.size T acc.length) W:=by
     intro W
     unfold bytes_Join.tailJ
     have ht:Try.prog.underlying 23=some (.slice (Try.prog.elem 23)):=by kernel_rfl
     have he:Try.prog.elem 23=5:=by kernel_rfl
     have hz:(Go.sizeOf 5).run Try.prog W= .ok 1 W:=by kernel_rfl
     rw[run_slice_l W 23 _ _ _ ht .i64 _ (by omega) (by omega),he,hz]
     by_cases h9:T=acc.length
     ·simp [Result.andThen,sliced,h9]
     simp [Result.andThen,sliced,h9,add_plain]
    have hb0:(0:Int)≤(acc.length:Int):=by omega
    have hb1:(acc.length:Int)+(x.length:Int)≤(T:Int):=by omega
    obtain⟨w2,hr2,B2⟩:=bytes_Join.copied w wr T acc [] A1 c1 HB.out ⟨rfl,Nat.zero_le _,fun h=>absurd h (by simp)⟩ (by simp;omega)
    rw[List.append_nil] at B2
    obtain⟨w3,hr3,B3⟩:=bytes_Join.copied w w2 T acc x A2 c2 B2 hC2 (by omega)
    have HB3:Aside0 (bytes_Join.Buf w w3 T (acc++x)):=⟨B3⟩
    have HS:=Aside0.mk hst
    simp only[List.length_nil,Int.natCast_zero] at hr2
    clear B2 B3 hst hle2 hcl hC2
    go_wp2_with (at_builtin;first | refine Lib.wpList_copy_run _ rfl _ _ 23 23 rfl _ _ rfl rfl hr2 ?_ | refine Lib.wpList_copy_run _ rfl _ _ 23 23 rfl _ _ rfl rfl hr3 ?_)
    go_roundg (n - 1 - (j+1))
    case measure=>omega
    case rel=>exact⟨j+1,acc++x,by omega,zav _,by go_num,by rw[zfo];first | rfl | (congr 1;push_cast;rfl),HB3,⟨by rw[HA.out, ← HS.out];rfl⟩⟩
   obtain rfl:j=n - 1:=by omega
   have hjz:¬(((n - 1:Nat):Int)<((n - 1:Nat):Int)):=by omega
   go_wp2
   go_ret
   have hacc:acc=l0.flatten:=by
    rw[HA.out,show 1+(n - 1)=l0.length by rw[HNH.out];omega,List.take_length]
   have hTl:T=acc.length:=by rw[hacc,HT.out]
   obtain⟨cur,hg,hN,htk⟩:=HB.out.blk
   rw[← hacc]
   exact⟨_,rfl,Kd.R_of_own ⟨by rw[encs,zfn,Nat.mul_one], .inr ⟨w.heap.size,T,cur,by rw[hTl];rfl,zav _,hg,by omega,by unfold maxLen;omega,by omega,by rw[Nat.mul_one];exact htk⟩⟩ (fun _ _=>trivial),HB.out.below⟩
theorem bytes_Join.calls (A0:Option Addr) (c0:Nat) (l0:List (List Int)) (A1:Option Addr) (c1:Nat) (l1:List Int) (r:List Int) (w:World) (hr0:Kd.C (Kd.slice 5 (Kd.int .u8)) w A0 l0.length l0) (hc0:l0.length≤c0) (hr1:Kd.C (Kd.int .u8) w A1 l1.length l1) (hc1:l1.length≤c1) (h:bytes_Join.f l0 l1=some r):
  Calls Try.prog 105 #[.slice A0 l0.length c0, .slice A1 l1.length c1] w fun e w'=>∃ v0_:Value,e= .returned (v0_)∧Kd.R (Kd.int .u8) 5 w' w.heap.size (fun _=>True) v0_ r∧Below w.heap.size w w':=by
 unfold bytes_Join.f at h
 by_cases c3:l1.length=0∧l0.flatten.length≤140737488355328∧l0.length≤140737488355328
 ·rw[if_pos c3] at h
  obtain rfl:=Option.some.inj h
  obtain⟨h1,hT,hn47⟩:=c3
  rw[h1]
  clear h
  match l0,hr0,hc0,hT,hn47 with
  | [],_,_,_,_=>
   go_enter Try.func105,Try.ntmps105
   go_wp2
   go_ret
   refine⟨_,rfl,⟨fun k hk=>trivial,[],⟨rfl, .inr ⟨w.heap.size,0, #[],rfl,zav _,heap_alloc_new w _,zav _,Nat.zero_le _,Nat.zero_le _,rfl⟩⟩,zeb _ _⟩,(zbk _ _).alloc (zav _) _⟩
  | [x],hr0,hc0,hT,_=>
   obtain⟨ad,rfl,hcell⟩:=hr0.2.2 (by simp)
   obtain⟨A,c,hcl,hl,hC⟩:=bytes_Join.part (i:=0) (x:=x) rfl hcell
   rw[zfm] at hcl
   have HB:=Aside0.mk (zbk w.heap.size w)
   have HR0:=Aside0.mk hC
   have hxl:x.length≤140737488355328:=by simpa using hT
   have LMc3:=Aside0.mk hxl
   clear hcell hC hr0 hc0 hT hxl
   go_enter Try.func105,Try.ntmps105
   go_wp2_with (((with_reducible refine zde (b:= .append) (xs:= #[.const (.slice none 0 0), .tmp 21]) rfl ?_);at_builtin;refine zdw (Kd.int .u8) (w0:=w) w.heap.size rfl (.const (.slice none 0 0)) (.tmp 21) 23 5 (.int .u8 0) 1 rfl Try.underlying23 info5 rfl (by decide) (by omega) (.slice none 0 0) ([]:List Int) x _ _ _ (fun _=>True) (fun _=>False) rfl rfl ?aO ?aR (fun _ _ h=>h) (fun _ h=>h.elim) ?aF ?aB ?aS ?aL ?_;(case aR=>exact HR0.out);(case aB=>exact HB.out);(case aF=>exact(fun _ _=>trivial));(case aO=>exact Kd.R_nil _ _ _ _ _);(case aS=>exact zav _);(case aL=>have:=LMc3.out;simp;omega);intro v300 w10 ho hb hg hat;have n0_:=Aside0.mk (hb);have n1_:=Aside0.mk (ho);clear HB;have HB:=n0_;have HO301:=n1_;clear n0_ n1_;clear ho hb hg hat))
   go_ret
   exact⟨_,rfl,by simpa using HO301.out,HB.out⟩
  | x :: y :: r,hr0,hc0,hT,hn47=>
   obtain⟨ad,rfl,hcell⟩:=hr0.2.2 (by simp)
   exact bytes_Join.many ad c0 (x :: y :: r) A1 c1 w hcell _ rfl (by simp) hc0 hT hn47
 rw[if_neg c3] at h
 cases h
def impl_joined.f (l0:List (List Int)):Option (List Int):=(bytes_Join.f l0 ([]:List Int)).bind fun t416=>(some t416)
theorem impl_joined.calls (A0:Option Addr) (c0:Nat) (l0:List (List Int)) (r:List Int) (w:World) (hr0:Kd.C (Kd.slice 5 (Kd.int .u8)) w A0 l0.length l0) (hc0:l0.length≤c0) (h:impl_joined.f l0=some r):
  Calls Try.prog 79 #[.slice A0 l0.length c0] w fun e w'=>∃ v0_:Value,e= .returned (v0_)∧Kd.R (Kd.int .u8) 5 w' w.heap.size (fun _=>True) v0_ r∧Below w.heap.size w w':=by
 have HR0:=Aside0.mk hr0
 have HC0:=Aside0.mk hc0
 clear hr0 hc0
 have HB:=Aside0.mk (zbk w.heap.size w)
 have H:((bytes_Join.f l0 ([]:List Int)).bind fun t416=>(some t416))=some r:=h
 clear h
 obtain⟨t416,A2,H⟩:=bnd H
 obtain rfl:=Option.some.inj H
 go_enter Try.func79,Try.ntmps79
 go_wp2_with (first | (refine jgc 105 ?_;refine jgs 4 Try.func105 #[.slice A0 l0.length c0, .slice none 0 0] ?_;(refine(bytes_Join.calls _ _ l0 _ _ ([]:List Int) t416 _ ?side1 ?side2 ?side3 ?side4 A2.out).mono ?_);(case side1=>repeat(first | exact HR0.out | (with_reducible first | apply zbs | apply zbt | apply zcg)));(case side2=>exact HC0.out);(case side3=>exact Kd.C_nil _ _);(case side4=>exact zav _);rintro e w3 ⟨v417,rfl,ho0,hb⟩;refine⟨_,rfl,?_⟩;have xb_:=below_ofs bq hb;have n_:=jA2 (zaq ho0 (zah xb_)) (zal xb_ hb);clear HB;obtain⟨HO418,HB⟩:=n_;clear xb_ hb ho0))
 go_ret
 exact⟨_,jex,by(with_reducible repeat(first | apply zat | apply zau | apply zar));exact HO418.out,bq⟩
end Go.Proofs.Ytienlgcjohpphaa.P
