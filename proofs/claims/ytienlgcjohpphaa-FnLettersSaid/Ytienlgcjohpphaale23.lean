import Derived.Test.Ytienlgcjohpphaale22
namespace Go.Proofs.Ytienlgcjohpphaa.P
open Go.RowKit Go.Proofs.YtienlgcjohpphaaW.PrintWords Go.Proofs.YtienlgcjohpphaaW.PrintLast Go.Proofs.YtienlgcjohpphaaW.PrintMore
attribute [local go_sem] zcn zco zdk zdl zce zcf zcp zcq -- for this text's walks alone
set_option linter.unusedVariables false
set_option linter.unusedSimpArgs false
set_option maxHeartbeats 8000000
set_option maxRecDepth 100000

def bits_Mul64.f (a0:Int) (a1:Int):Option (Int×Int):=some (IntKind.u64.wrap ((IntKind.u64.wrap ((IntKind.u64.wrap ((a0 / 4294967296)*(a1 / 4294967296)))+((IntKind.u64.wrap ((IntKind.u64.wrap ((a0 / 4294967296)*(Go.bits .and .u64 a1 4294967295)))+((IntKind.u64.wrap ((Go.bits .and .u64 a0 4294967295)*(Go.bits .and .u64 a1 4294967295))) / 4294967296))) / 4294967296)))+((IntKind.u64.wrap ((Go.bits .and .u64 (IntKind.u64.wrap ((IntKind.u64.wrap ((a0 / 4294967296)*(Go.bits .and .u64 a1 4294967295)))+((IntKind.u64.wrap ((Go.bits .and .u64 a0 4294967295)*(Go.bits .and .u64 a1 4294967295))) / 4294967296))) 4294967295)+(IntKind.u64.wrap ((Go.bits .and .u64 a0 4294967295)*(a1 / 4294967296))))) / 4294967296)),IntKind.u64.wrap (a0*a1))
theorem bits_Mul64.calls (a0:Int) (a1:Int) (r1:Int) (r2:Int) (w:World) (h:bits_Mul64.f a0 a1=some (r1,r2)):
  Calls Try.prog 117 #[.int .u64 a0, .int .u64 a1] w fun e w'=>e= .returned (.tuple #[.int .u64 r1, .int .u64 r2])∧Drawn0 w w':=by
 have H:(some (IntKind.u64.wrap ((IntKind.u64.wrap ((IntKind.u64.wrap ((a0 / 4294967296)*(a1 / 4294967296)))+((IntKind.u64.wrap ((IntKind.u64.wrap ((a0 / 4294967296)*(Go.bits .and .u64 a1 4294967295)))+((IntKind.u64.wrap ((Go.bits .and .u64 a0 4294967295)*(Go.bits .and .u64 a1 4294967295))) / 4294967296))) / 4294967296)))+((IntKind.u64.wrap ((Go.bits .and .u64 (IntKind.u64.wrap ((IntKind.u64.wrap ((a0 / 4294967296)*(Go.bits .and .u64 a1 4294967295)))+((IntKind.u64.wrap ((Go.bits .and .u64 a0 4294967295)*(Go.bits .and .u64 a1 4294967295))) / 4294967296))) 4294967295)+(IntKind.u64.wrap ((Go.bits .and .u64 a0 4294967295)*(a1 / 4294967296))))) / 4294967296)),IntKind.u64.wrap (a0*a1)))=some (r1,r2):=h
 clear h
 simp only[zcb,zcu] at H
 obtain⟨rfl,rfl⟩:=H
 go_enter Try.func117,Try.ntmps117
 go_wp2
 go_ret2
 exact⟨by first | rfl | (simp;done) | (simp [*];done),by repeat(first | exact Drawn0.refl _ | apply Drawn0.step)⟩
def bits_Mul.f (a0:Int) (a1:Int):Option (Int×Int):=(bits_Mul64.f a0 a1).bind fun bt782=>(some (bt782.1,bt782.2))
theorem bits_Mul.calls (a0:Int) (a1:Int) (r1:Int) (r2:Int) (w:World) (h:bits_Mul.f a0 a1=some (r1,r2)):
  Calls Try.prog 115 #[.int .u64 a0, .int .u64 a1] w fun e w'=>e= .returned (.tuple #[.int .u64 r1, .int .u64 r2])∧Drawn0 w w':=by
 have H:((bits_Mul64.f a0 a1).bind fun bt782=>(some (bt782.1,bt782.2)))=some (r1,r2):=h
 clear h
 obtain⟨⟨t782,t783⟩,A3,H⟩:=bnd H
 try dsimp only at H
 simp only[zcb,zcu] at H
 obtain⟨rfl,rfl⟩:=H
 go_enter Try.func115,Try.ntmps115
 go_wp2_with (first | (refine jgc 117 ?_;refine jgs 25 Try.func117 #[.int .u64 a0, .int .u64 a1] ?_;(with_reducible refine(bits_Mul64.calls a0 a1 t782 t783 _ A3.out).mono ?_);rintro e w' ⟨rfl,⟨nd,rfl⟩⟩;refine⟨_,rfl,?_⟩))
 go_ret2
 exact⟨by first | rfl | (simp;done) | (simp [*];done),by repeat(first | exact Drawn0.refl _ | apply Drawn0.step)⟩
def bytes_Repeat.f (l0:List Int) (a1:Int):Option (List Int):=if l0.length=1∧1≤a1∧a1≤64 then some (List.replicate a1.toNat (l0.headD 0)) else none
theorem bytes_Repeat.mul:∀ n:Fin 65,bits_Mul.f 1 (n.val:Int)=some (0,(n.val:Int)):=by decide+kernel
structure bytes_Repeat.Buf (w0 wr:World) (N k:Nat) (x:Int):Prop where
 below:Below w0.heap.size w0 wr
 blk:∃ cur,wr.heap[w0.heap.size]? =some (.cells cur 5 (0,0))∧N≤cur.size∧cur.toList.take k=List.replicate k (Value.int .u8 x)
 fits:k≤N
def bytes_Repeat.tailJ (h N k:Nat):Value:= .slice (some (if N=k then⟨h,0,none⟩ else⟨h,k,none⟩)) (N - k) (N - k)
theorem bytes_Repeat.laid (w0 wr:World) (N k c m:Nat) (x:Int) (ad:Addr) (cap:Nat) (hb:bytes_Repeat.Buf w0 wr N k x) (hk:k<N) (hcells:∀ j,j<c→wr.cell? (ad.add j)=some (Value.int .u8 x)) (hm:m=min c (N - k)):
  ∃ w1,(Builtin.copy_ #[23,23] 3 #[bytes_Repeat.tailJ w0.heap.size N k, .slice (some ad) c cap]).run Try.prog wr= .ok (.int .i64 (m:Int)) w1∧bytes_Repeat.Buf w0 w1 N (k+m) x:=by
 have hu:Try.prog.underlying 23=some (.slice 5):=Try.underlying23
 have hs:(Try.prog.info? 5).map (·.size)=some 1:=by kernel_rfl
 have hne:¬N=k:=by omega
 obtain⟨cur,hg,hN,htake⟩:=hb.blk
 have hfr:∀ j,wr.frozen? ⟨w0.heap.size,j,none⟩=false:=fun j=>frozen_of_row wr w0.heap.size j cur 5 hg
 have hr:=run_copy_cells (P:=Try.prog) wr 23 23 3 5 w0.heap.size k (N - k) (N - k) ad c cap (List.replicate m (Value.int .u8 x)) hu hs (by rw[zex];exact hm)
  (fun j u hj=>by
   obtain⟨h1,h2⟩:=List.getElem?_eq_some_iff.1 hj
   rw[zex] at h1
   rw[List.getElem_replicate] at h2
   rw[← h2];exact hcells j (by omega))
  (fun j hj=>by rw[zex] at hj;rw[cell_of_row wr w0.heap.size _ cur 5 (0,0) hg,Array.getElem?_eq_getElem (by omega)];rfl) (fun j _=>hfr _) (fun u hu1=>by rw[List.eq_of_mem_replicate hu1];rfl)
 rw[zex] at hr
 obtain⟨cur1,h3,h4,h5⟩:=setCells_row (List.replicate m (Value.int .u8 x)) k wr cur hg (by rw[zex];omega)
 refine⟨_,by unfold bytes_Repeat.tailJ;rw[if_neg hne];exact hr,⟨Lib.below_setCells w0.heap.size (zav _) _ _ hb.below,⟨cur1,h3,by omega,?_⟩,by omega⟩⟩
 rw[zex] at h5
 rw[h5,htake,List.replicate_append_replicate]
 exact List.take_left' (by rw[zex])
theorem bytes_Repeat.Buf.drewN {w0 wr:World} {N k:Nat} {x:Int} (h:bytes_Repeat.Buf w0 wr N k x) (n:Nat):bytes_Repeat.Buf w0 (wr.drewN n) N k x:=⟨zap h.below n,h.blk,h.fits⟩
theorem bytes_Repeat.step {ops:Array Oper} {o:Oper} {a:Act} {w0 w:World} {K:Act→World→Prop} {Q:Exit→Act→World→Prop} {E:Prop} (hg:o.guard=none) (d s:Operand)
  (hop:o.op=Op.call {callee:=Callee.builtin Builtin.copy,args:= #[d,s],argTypes:= #[23,23]}) (hty:o.type=3) (N k:Nat) (x:Int) (hd:a.eval d=bytes_Repeat.tailJ w0.heap.size N k)
  (hs:a.eval s= .slice (some ⟨w0.heap.size,0,none⟩) k N) (hb:bytes_Repeat.Buf w0 w N k x) (hk:k<N)
  (hK:∀ w1,bytes_Repeat.Buf w0 w1 N (k+min k (N - k)) x→K (a.put o.dst (.int .i64 ((min k (N - k):Nat):Int))) w1):
  if Region.wanted o (yielded ops a.tmps)=true then Oper.wp Try.prog o a w K Q else E:=by
 have hw:Region.wanted o (yielded ops a.tmps)=true:=by simp [Region.wanted,hg]
 rw[if_pos hw]
 have hcl:∀ j,j<k→w.cell? ((⟨w0.heap.size,0,none⟩:Addr).add j)=some (Value.int .u8 x):=by
  intro j hj
  obtain⟨cur,hg1,hN,htk⟩:=hb.blk
  rw[show(⟨w0.heap.size,0,none⟩:Addr).add j=⟨w0.heap.size,j,none⟩ from by simp [Addr.add];omega,cell_of_row w w0.heap.size _ cur 5 (0,0) hg1]
  have h6:(cur.toList.take k)[j]? =some (Value.int .u8 x):=by rw[htk,List.getElem?_replicate,if_pos hj]
  rw[List.getElem?_take,if_pos hj,Array.getElem?_toList] at h6
  exact h6
 obtain⟨w2,hr2,B2⟩:=bytes_Repeat.laid w0 w N k k (min k (N - k)) x ⟨w0.heap.size,0,none⟩ N hb hk hcl rfl
 have h:=hK w2 B2
 unfold Oper.wp
 simp only[execOp,hop,resolve,invoke,builtin,Result.andThen]
 simp [hd,hs,hty,hr2,Result.andThen]
 rw[Oper.upon_value]
 exact h
set_option maxRecDepth 1000000 in
theorem bytes_Repeat.calls (A0:Option Addr) (c0:Nat) (l0:List Int) (a1:Int) (r:List Int) (w:World) (hr0:Kd.C (Kd.int .u8) w A0 l0.length l0) (hc0:l0.length≤c0) (h:bytes_Repeat.f l0 a1=some r):
  Calls Try.prog 112 #[.slice A0 l0.length c0, .int .i64 a1] w fun e w'=>∃ v0_:Value,e= .returned (v0_)∧Kd.R (Kd.int .u8) 5 w' w.heap.size (fun _=>True) v0_ r∧Below w.heap.size w w':=by
 unfold bytes_Repeat.f at h
 by_cases c3:l0.length=1∧1≤a1∧a1≤64
 ·rw[if_pos c3] at h
  obtain rfl:=Option.some.inj h
  obtain⟨h1,h2,h3⟩:=c3
  obtain⟨x,rfl⟩:=List.length_eq_one_iff.1 h1
  obtain⟨N,rfl⟩:∃ N:Nat,a1=(N:Int):=⟨a1.toNat,by omega⟩
  obtain⟨ad,rfl,hcell⟩:=hr0.2.2 (by simp)
  have hx0:∀ W,Below w.heap.size w W→∀ j,j<1→W.cell? (ad.add j)=some (Value.int .u8 x):=by
   intro W hW j hj
   obtain rfl:j=0:=by omega
   obtain⟨c,hc1,hc2,hc3⟩:=hcell 0 x rfl
   have h4:=hc3 0 (.int .u8 x) (by rw[hc2];rfl)
   exact pw_cell_below hW h4
  have HM:=Aside0.mk (bytes_Repeat.mul ⟨N,by omega⟩)
  have HX:=Aside0.mk hx0
  rw[Int.toNat_natCast]
  simp only[List.headD_cons,List.length_cons,List.length_nil,Nat.zero_add]
  clear hcell hr0 h h1 hx0 hc0
  have f1:((N:Int)==0)=false:=zcl.2 (by omega)
  have f2:¬((N:Int)<0):=by omega
  have f3:¬((N:Int)>9223372036854775807):=by omega
  have f4:¬((N:Int)>8192):=by omega
  have f5:IntKind.i64.wrap (N:Int)=(N:Int):=by rw[IntKind.wrap_i64];omega
  have f6:IntKind.u64.wrap (N:Int)=(N:Int):=by rw[IntKind.wrap_u64];omega
  go_enter Try.func112,Try.ntmps112
  go_wp2_with (first | (refine jgc 115 ?_;refine jgs 24 Try.func115 #[.int .u64 1, .int .u64 (N:Int)] ?_;(with_reducible refine(bits_Mul.calls 1 (N:Int) 0 (N:Int) _ HM.out).mono ?_);rintro e w' ⟨rfl,⟨nd,rfl⟩⟩;refine⟨_,rfl,?_⟩))
  obtain⟨cs,hrunM,hle,hdd⟩:=Lib.run_makeNoZero (P:=Try.prog) (w.drewN nd) #[3] 23 5 Try.underlying23 N (by omega)
  have hcall:(callFunc 114 #[.int .i64 (N:Int)]).run Try.prog (w.drewN nd)= .ok (.value (.slice (some ⟨w.heap.size,0,none⟩) N cs.size)) (((w.drewN nd).alloc (.cells cs 5)).drewN 2):=by
   rw[run_callFunc_extern Try.func114 (by kernel_rfl) (by kernel_rfl) (by kernel_rfl) (e:=Extern.BytealgMakeNoZero.makeNoZero #[3] #[23]) (by kernel_rfl),hrunM]
   rfl
  clear hrunM hdd
  have i0:(0:Int)≤(N:Int):=by omega
  have i1:(N:Int)≤(cs.size:Int):=by omega
  have B0:bytes_Repeat.Buf w (((w.drewN nd).alloc (.cells cs 5)).drewN 2) N 0 x:=⟨zap (zbe (zap (zbk _ _) _) _) 2,⟨cs,by show((w.drewN nd).alloc (.cells cs 5)).heap[(w.drewN nd).heap.size]? =_;exact heap_alloc_new _ _,hle,by simp⟩,by omega⟩
  obtain⟨w1,hr1,B1⟩:=bytes_Repeat.laid w _ N 0 1 1 x ad c0 B0 (by omega) (HX.out _ B0.below) (by omega)
  rw[show bytes_Repeat.tailJ w.heap.size N 0= .slice (some ⟨w.heap.size,0,none⟩) N N by unfold bytes_Repeat.tailJ;split <;> rfl] at hr1
  rw[Nat.zero_add] at B1
  have HB1:=Aside0.mk B1
  clear B1 B0
  rw[hcall]
  rw[Oper.upon_value]
  go_wp2_with (at_builtin;refine Lib.wpList_copy_run _ rfl _ _ 23 23 rfl _ _ rfl rfl hr1 ?_)
  clear hr1 hcall
  go_loopg [10] N (fun g s10 wr=>∃ k:Nat,1≤k∧k≤N∧N - k≤g∧s10= .int .i64 k∧Aside0 (bytes_Repeat.Buf w wr N k x))
  case atStart=>exact⟨1,by omega,by omega,by omega,rfl,HB1⟩
  case round=>
   obtain⟨k,hk1,hk2,hg,rfl,HB⟩:=hrel
   by_cases hkn:k<N
   ·have hz:(k:Int)<(N:Int):=by omega
    have hmn:(if(k:Int)<(N:Int) then(k:Int) else(N:Int))=(k:Int):=if_pos hz
    have hz2:(k:Int)≤(N:Int):=by omega
    have hz3:(0:Int)≤(k:Int):=by omega
    have ht:Try.prog.underlying 23=some (.slice (Try.prog.elem 23)):=by kernel_rfl
    have he:Try.prog.elem 23=5:=by kernel_rfl
    have hsl:∀ W:World,(Instr.slice 23 (.slice (some ⟨w.heap.size,0,none⟩) N N) (some (.int .i64 (k:Int))) none none).run Try.prog W= .ok (bytes_Repeat.tailJ w.heap.size N k) W:=by
     intro W
     unfold bytes_Repeat.tailJ
     have hzz:(Go.sizeOf 5).run Try.prog W= .ok 1 W:=by kernel_rfl
     rw[run_slice_l W 23 _ _ _ ht .i64 _ (by omega) (by omega),he,hzz]
     by_cases h9:N=k
     ·simp [Result.andThen,sliced,h9]
     simp [Result.andThen,sliced,h9,add_plain]
    have hsl2:∀ W:World,(Instr.slice 23 (.slice (some ⟨w.heap.size,0,none⟩) N N) none (some (.int .i64 (k:Int))) none).run Try.prog W= .ok (.slice (some ⟨w.heap.size,0,none⟩) k N) W:=by
     intro W
     have hzz:(Go.sizeOf 5).run Try.prog W= .ok 1 W:=by kernel_rfl
     rw[run_slice_h W 23 _ _ _ ht .i64 _ (by omega) (by omega),he,hzz]
     have h9:¬N=0:=by omega
     simp [Result.andThen,sliced,h9,add_plain]
    go_wp2
    clear f1 f2 f3 f4 f5 f6 hmn
    have HK:=Aside0.mk (And.intro hk1 (And.intro hk2 (And.intro hg hkn)))
    have HL:=Aside0.mk (And.intro h2 (And.intro h3 (And.intro i0 i1)))
    clear hz hk1 hk2 hg h2 h3 i0 i1 hle hkn ht he
    go_region_law ((refine bytes_Repeat.step (w0:=w) rfl (.tmp 70) (.tmp 73) rfl rfl N k x (by simp [Act.eval,Act.put]) (by simp [Act.eval,Act.put]) (by repeat(first | exact HB.out | apply bytes_Repeat.Buf.drewN)) HK.out.2.2.2 ?_;intro w2 B2;have HB2:=Aside0.mk B2;clear B2))
    go_wp2
    go_roundg (N - (k+min k (N - k)))
    case measure=>have:=HK.out;omega
    case rel=>
     have h7:=HK.out.1
     have h8:=HK.out.2.2.2
     have h9:min k (N - k)≤N - k:=Nat.min_le_right _ _
     have h10:=HL.out.2.1
     have hq:IntKind.i64.wrap ((k:Int)+((min k (N - k):Nat):Int))=((k+min k (N - k):Nat):Int):=by
      generalize min k (N - k)=q at h9 ⊢
      rw[IntKind.wrap_i64];omega
     exact⟨k+min k (N - k),zdo h7 (Nat.le_add_right _ _),by generalize min k (N - k)=q at h9;omega,zav _,congrArg (Value.int .i64) hq,HB2⟩
   obtain rfl:k=N:=by omega
   have hz:¬((k:Int)<(k:Int)):=by omega
   go_wp2
   go_ret
   obtain⟨cur,hg1,hN,htk⟩:=HB.out.blk
   exact⟨_,rfl,Kd.R_of_own ⟨by rw[encs,zfn,Nat.mul_one], .inr ⟨w.heap.size,k,cur,by rw[zex];rfl,zav _,hg1,by simp,by unfold maxLen;omega,by rw[Nat.mul_one];exact hN,by rw[Nat.mul_one,zex,htk];exact(List.map_replicate).symm⟩⟩ (fun _ _=>trivial),HB.out.below⟩
 rw[if_neg c3] at h
 cases h
def impl_xorAll.f (k:Nat) (l0:List Int) (a1:Int):Option (List Int):=(bytes_Repeat.f (([a1]:List Int)) (l0.length:Int)).bind fun t787=>((impl_Xor.f k l0 t787).bind fun t790=>(some t790))
theorem impl_xorAll.mono:∀ a0 a1 k,LeO (impl_xorAll.f k a0 a1) (impl_xorAll.f (k+1) a0 a1):=by
 intro a0 a1 k
 unfold impl_xorAll.f
 have m0:=@impl_Xor.mono
 exact mt
theorem impl_xorAll.calls (k:Nat) (A0:Option Addr) (c0:Nat) (l0:List Int) (a1:Int) (r:List Int) (w:World) (hr0:Kd.C (Kd.int .u8) w A0 l0.length l0) (hc0:l0.length≤c0) (h:impl_xorAll.f k l0 a1=some r):
  Calls Try.prog 88 #[.slice A0 l0.length c0, .int .u8 a1] w fun e w'=>∃ v0_:Value,e= .returned (v0_)∧Kd.R (Kd.int .u8) 5 w' w.heap.size (fun _=>True) v0_ r∧Below w.heap.size w w':=by
 have HR0:=Aside0.mk hr0
 have HC0:=Aside0.mk hc0
 clear hr0 hc0
 have HB:=Aside0.mk (zbk w.heap.size w)
 have H:((bytes_Repeat.f (([a1]:List Int)) (l0.length:Int)).bind fun t787=>((impl_Xor.f k l0 t787).bind fun t790=>(some t790)))=some r:=h
 clear h
 obtain⟨y784,hy784⟩:∃ y_:List Int,y_=(([a1]:List Int)):=⟨_,rfl⟩
 replace H:((bytes_Repeat.f y784 (l0.length:Int)).bind fun t787=>((impl_Xor.f k l0 t787).bind fun t790=>(some t790)))=some r:=jrw hy784 H
 have Ny784:=Aside0.mk hy784
 clear hy784
 obtain⟨t787,A3,H⟩:=bnd H
 obtain⟨t790,A4,H⟩:=bnd H
 obtain rfl:=Option.some.inj H
 go_enter Try.func88,Try.ntmps88
 go_wp2_with (first | (refine jgd 7 ?_;refine Kd.R_lit (Kd.int .u8) _ 5 ?hg (N:=7) ?hd (xs:=([a1]:List Int)) (inner:=[.int .u8 a1]) (ok:=fun _=>True) (okp:=fun _=>True) ?hr ?hp (fun _ hk=>hk) trivial (zbk _ _) (zav _) (by simp) ?_;(case hd=>rfl);(case hg=>rfl);(case hr=>first | (go_simp;done) | (go_simp;rfl));(case hp=>exact(zan (show Kd.M (Kd.int .u8) _ _ _ a1 [.int .u8 a1] from rfl) (zeb _ _)));intro v785 w5 ho6 hb hg_ hnew_;have xb_:=below_ofs bq hb;clear hg_ hnew_;(first | rw[← Ny784.out] at ho6 | (simp only[Int.reduceToNat] at ho6;rw[← Ny784.out] at ho6));have n_:=jA2 (zaq ho6 (zah xb_)) (zal xb_ hb);clear HB;obtain⟨HO786,HB⟩:=n_;clear xb_ hb ho6;obtain⟨Ao7,co7,eo7⟩:=zbb HO786.out;subst eo7) | (refine jgc 112 ?_;refine jgs 10 Try.func112 #[.slice Ao7 y784.length co7, .int .i64 (l0.length:Int)] ?_;(with_reducible refine(bytes_Repeat.calls _ _ y784 (l0.length:Int) t787 _ ?side1 ?side2 A3.out).mono ?_);(case side1=>repeat(first | exact(zam HO786.out).2.2 | (with_reducible first | apply zbs | apply zbt | apply zcg)));(case side2=>exact(zam HO786.out).2.1);rintro e w8 ⟨v788,rfl,ho0,hb⟩;refine⟨_,rfl,?_⟩;have xb_:=below_ofs bq hb;have qHO786:=Kd.R_ofs (pR HO786.out) hb;have n_:=jA3 (zbp qHO786 (zba ho0) hb) (zaq (zby ho0 (zca qHO786)) (zah xb_)) (zal xb_ hb);clear qHO786 HO786 HB;obtain⟨HO786,HO789,HB⟩:=n_;clear xb_ hb ho0;obtain⟨Ao9,co9,eo9⟩:=zbb HO789.out;subst eo9) | (refine jgc 111 ?_;refine jgs 11 Try.func111 #[.slice A0 l0.length c0, .slice Ao9 t787.length co9] ?_;(with_reducible refine(impl_Xor.calls k _ _ l0 _ _ t787 t790 _ ?side1 ?side2 ?side3 ?side4 A4.out).mono ?_);(case side1=>exact jcs HR0.out);(case side2=>exact HC0.out);(case side3=>repeat(first | exact(zam HO789.out).2.2 | (with_reducible first | apply zbs | apply zbt | apply zcg)));(case side4=>exact(zam HO789.out).2.1);rintro e w10 ⟨v791,rfl,ho0,hb⟩;refine⟨_,rfl,?_⟩;have xb_:=below_ofs bq hb;have qHO786:=Kd.R_ofs (pR HO786.out) hb;have n0_:=Aside0.mk (zbp qHO786 (zba ho0) hb);have qHO789:=Kd.R_ofs (pR HO789.out) hb;have n1_:=Aside0.mk (zbp qHO789 (zba ho0) hb);have n2_:=Aside0.mk (zaq (zby (zby ho0 (zca qHO786)) (zca qHO789)) (zah xb_));have n3_:=Aside0.mk (zal xb_ hb);clear qHO786 HO786;clear qHO789 HO789;clear HB;have HO786:=n0_;have HO789:=n1_;have HO792:=n2_;have HB:=n3_;clear n0_ n1_ n2_ n3_;clear xb_ hb ho0))
 go_ret
 exact⟨_,jex,tqR HO792.out,bq⟩
end Go.Proofs.Ytienlgcjohpphaa.P
