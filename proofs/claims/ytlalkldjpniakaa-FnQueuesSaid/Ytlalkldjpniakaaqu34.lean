import Derived.Test.Ytlalkldjpniakaaqu32
import Derived.Test.Ytlalkldjpniakaaqu33
import Derived.Laws.BitsAllLaws
namespace Go.Proofs.Ytlalkldjpniakaa.P
open Go.RowKit Go.Proofs.YtlalkldjpniakaaW.PrintWords Go.Proofs.YtlalkldjpniakaaW.PrintLast Go.Proofs.YtlalkldjpniakaaW.PrintMore
attribute [local go_sem] zbr zbs zch zci zbk zbl zbt zbu -- for this text's walks alone
set_option linter.unusedVariables false
set_option linter.unusedSimpArgs false
set_option maxHeartbeats 8000000
set_option maxRecDepth 100000

def laws_heldByteS.l0:Nat→List Int→Int→Int→Option (Int)
 | 0,_,_,_=>none
 | k+1,x0,x1,x5=>if x5<(x0.length:Int) then(if 0≤x5 then(if(rd x0 x5)=((x1) % 256) then(laws_heldByteS.l0 k x0 (wrap64 (x1+1)) (wrap64 (x5+1))) else(some (-1))) else(none)) else(some x1)
def laws_heldByteS.f (k:Nat) (l0:List Int) (a1:Int):Option (Int):=laws_heldByteS.l0 k l0 a1 0
theorem laws_heldByteS.mono_l:∀ k,(∀ y0 y1 y2,LeO (laws_heldByteS.l0 k y0 y1 y2) (laws_heldByteS.l0 (k+1) y0 y1 y2))
 | 0=>fun _ _ _ r h=>by simp [laws_heldByteS.l0] at h
 | k+1=>by
  have ih0:=laws_heldByteS.mono_l k
  intro y0 y1 y2
  unfold laws_heldByteS.l0
  exact mt
theorem laws_heldByteS.mono:∀ a0 a1 k,LeO (laws_heldByteS.f k a0 a1) (laws_heldByteS.f (k+1) a0 a1):=by
 intro a0 a1 k
 have ih0:=laws_heldByteS.mono_l k
 unfold laws_heldByteS.f
 exact mt
theorem laws_heldByteS.calls (k:Nat) (A0:Option Addr) (c0:Nat) (l0:List Int) (a1:Int) (r:Int) (w:World) (hr0:Kd.C (Kd.int .u8) w A0 l0.length l0) (hc0:l0.length≤c0) (h:laws_heldByteS.f k l0 a1=some r):
  Calls Try.prog 53 #[.slice A0 l0.length c0, .int .i64 a1] w fun e w'=>e= .returned (.int .i64 r)∧Drawn0 w w':=by
 have HR0:=Aside0.mk hr0
 have HC0:=Aside0.mk hc0
 clear hr0 hc0
 have H:(laws_heldByteS.l0 k l0 a1 0)=some r:=h
 clear h
 have H':=Aside0.mk H
 clear H
 go_enter Try.func53,Try.ntmps53
 go_wp2
 go_loopg [1,5] k (fun kq v1 v5 w'=>∃ (x1_1:Int) (x5_1:Int),v1= .int .i64 x1_1∧v5= .int .i64 x5_1∧Aside0 (laws_heldByteS.l0 kq l0 x1_1 x5_1=some r)∧Aside0 (kq≤k)∧Drawn0 w w')
 case atStart=>exact⟨(a1),(0),jer,jer,H',⟨zbc _⟩,by repeat(first | exact Drawn0.refl _ | apply Drawn0.step)⟩
 case round=>
  clear H'
  try clear p2
  obtain⟨x1_1,x5_1,rfl,rfl,HA,HK1,⟨m1,rfl⟩⟩:=hrel
  cases gk with
  | zero=>exact absurd HA.out (by simp [laws_heldByteS.l0])
  | succ k1=>
   have H:=HA.out
   clear HA
   simp only[laws_heldByteS.l0] at H
   by_cases c3:x5_1<(l0.length:Int)
   ·rw[if_pos c3] at H
    have c3b0:=zag c3
    clear c3
    by_cases c4:0≤x5_1
    ·rw[if_pos c4] at H
     have c4b0:=zag c4
     clear c4
     by_cases c5:(rd l0 x5_1)=((x1_1) % 256)
     ·rw[if_pos c5] at H
      have c5b0:=beqT c5
      have c5b1:=zbj.mpr c5
      clear c5
      have H':=Aside0.mk H
      clear H
      have p228:0≤(x5_1:Int):=zac jab
      have q228:x5_1<(l0.length:Int):=zac jab
      obtain⟨ad228,e228,hx228_0⟩:=Kd.at_int HR0.out x5_1 p228 q228
      cases e228
      replace p228:=zbd p228
      replace q228:=zbd q228
      go_wp2
      go_roundg k1
      case measure=>have:=HK1.out;omega
      case rel=>exact⟨(wrap64 (x1_1+1)),(wrap64 (x5_1+1)),jer,jer,H',⟨by have:=HK1.out;omega⟩,by repeat(first | exact Drawn0.refl _ | apply Drawn0.step)⟩
     rw[if_neg c5] at H
     have c5b0:=zbb.mpr c5
     have c5b1:=zda.mpr c5
     obtain rfl:=Option.some.inj H
     have p228:0≤(x5_1:Int):=zac jab
     have q228:x5_1<(l0.length:Int):=zac jab
     obtain⟨ad228,e228,hx228_0⟩:=Kd.at_int HR0.out x5_1 p228 q228
     cases e228
     replace p228:=zbd p228
     replace q228:=zbd q228
     go_wp2
     go_ret
     exact⟨by first | rfl | (simp;done) | (simp [*];done),by repeat(first | exact Drawn0.refl _ | apply Drawn0.step)⟩
    rw[if_neg c4] at H
    exact absurd H (by simp)
   rw[if_neg c3] at H
   have c3b0:=zaw c3
   clear c3
   obtain rfl:=Option.some.inj H
   go_wp2
   go_ret
   exact⟨by first | rfl | (simp;done) | (simp [*];done),by repeat(first | exact Drawn0.refl _ | apply Drawn0.step)⟩
end Go.Proofs.Ytlalkldjpniakaa.P
/- What the laws' own helpers over bytes compute: copies, comparisons, marks; for lists of at most 2^40 numbers. -/
namespace Go.Proofs.Ytlalkldjpniakaa.B
open Go.RowKit Go.Proofs.YtlalkldjpniakaaW.PrintWords Go.Proofs.YtlalkldjpniakaaW.PrintLast Go.Proofs.YtlalkldjpniakaaW.PrintMore Go.Proofs.Ytlalkldjpniakaa.P

theorem toByteS_l0:∀ (rest rest' pre:List Int) (k:Nat),rest'.length=rest.length→pre.length+rest.length≤1099511627776→rest.length<k→
    laws_toByteS.l0 k (pre++rest) (pre++rest') (pre.length:Int)=some (pre++rest)
  | [],rest',pre,k,hl,hb,hk=>by
    obtain⟨k,rfl⟩:∃ m,k=m+1:=⟨k - 1,by omega⟩
    obtain rfl:rest'=[]:=List.eq_nil_of_length_eq_zero (by simpa using hl)
    simp only[laws_toByteS.l0];rw[if_neg (nlt_end pre)]
  | a :: rest,rest',pre,k,hl,hb,hk=>by
    obtain⟨k,rfl⟩:∃ m,k=m+1:=⟨k - 1,by simp at hk;omega⟩
    cases rest' with
    | nil=>simp at hl
    | cons b rest'=>
      simp only[List.length_cons] at hl hb hk
      have ih:=toByteS_l0 rest rest' (pre++[a]) k (by omega) (by simp;omega) (by omega)
      simp only[laws_toByteS.l0]
      rw[if_pos (lt_mid pre a rest),if_pos (pre_nonneg pre),if_pos (lt_mid pre b rest'),rd_mid,set_mid,wrap_step pre a (by omega),snoc_app pre a rest,snoc_app pre a rest']
      exact ih
theorem toByteS (l:List Int) (hn:l.length≤1099511627776) (k:Nat) (hk:l.length<k):laws_toByteS.f k l=some l:=by
  unfold laws_toByteS.f
  rw[if_pos (by omega),if_pos (by simp;omega)]
  have h:=toByteS_l0 l (List.replicate l.length 0) [] k (by simp) (by simpa using hn) hk
  simpa using h

theorem eqByteS_l0:∀ (a b pre:List Int) (k:Nat),a.length=b.length→pre.length+a.length≤1099511627776→a.length<k→
    laws_eqByteS.l0 k (pre++a) (pre++b) (pre.length:Int)=some (decide (a=b))
  | [],b,pre,k,hl,hb,hk=>by
    obtain⟨k,rfl⟩:∃ m,k=m+1:=⟨k - 1,by omega⟩
    obtain rfl:b=[]:=List.eq_nil_of_length_eq_zero (by simpa using hl.symm)
    simp only[laws_eqByteS.l0];rw[if_neg (nlt_end pre)];simp
  | x :: a,b,pre,k,hl,hb,hk=>by
    obtain⟨k,rfl⟩:∃ m,k=m+1:=⟨k - 1,by simp at hk;omega⟩
    cases b with
    | nil=>simp at hl
    | cons y b=>
      simp only[List.length_cons] at hl hb hk
      simp only[laws_eqByteS.l0]
      rw[if_pos (lt_mid pre x a),if_pos (pre_nonneg pre),if_pos (lt_mid pre y b),rd_mid,rd_mid]
      by_cases e:x=y
      · subst e
        rw[if_pos rfl,wrap_step pre x (by omega),snoc_app pre x a,snoc_app pre x b,eqByteS_l0 a b (pre++[x]) k (by omega) (by simp;omega) (by omega)]
        simp
      · rw[if_neg e];simp [e]
theorem eqByteS (a b:List Int) (hn:a.length≤1099511627776) (k:Nat) (hk:a.length<k):laws_eqByteS.f k a b=some (decide (a=b)):=by
  unfold laws_eqByteS.f
  by_cases e:a.length=b.length
  · rw[if_pos (by omega)]
    have h:=eqByteS_l0 a b [] k e (by simpa using hn) hk
    simpa using h
  · rw[if_neg (by omega)]
    have:a≠b:=fun h=>e (by rw[h])
    simp [this]
theorem eqByteS_same (a:List Int) (hn:a.length≤1099511627776) (k:Nat) (hk:a.length<k):laws_eqByteS.f k a a=some true:=by
  rw[eqByteS a a hn k hk];simp

theorem markByteS_l0:∀ (rest pre:List Int) (m:Int) (k:Nat),0≤m→m+rest.length≤4611686018427387904→pre.length+rest.length≤1099511627776→rest.length<k→
    laws_markByteS.l0 k (pre++rest) m (pre.length:Int)=some (m+rest.length,pre++marks rest.length m)
  | [],pre,m,k,h0,hm,hb,hk=>by
    obtain⟨k,rfl⟩:∃ m,k=m+1:=⟨k - 1,by omega⟩
    simp only[laws_markByteS.l0];rw[if_neg (nlt_end pre)];simp [marks]
  | a :: rest,pre,m,k,h0,hm,hb,hk=>by
    obtain⟨k,rfl⟩:∃ m,k=m+1:=⟨k - 1,by simp at hk;omega⟩
    simp only[List.length_cons] at hm hb hk
    have ih:=markByteS_l0 rest (pre++[m % 256]) (m+1) k (by omega) (by omega) (by simp;omega) (by omega)
    simp only[laws_markByteS.l0]
    rw[if_pos (lt_mid pre a rest),if_pos (pre_nonneg pre),set_mid,wrap_step pre (m % 256) (by omega),wrap_eq (m+1) (by omega) (by omega),snoc_app pre (m % 256) rest,ih]
    simp only[List.length_cons,marks,List.append_assoc,List.singleton_append]
    congr 2
    omega
theorem markByteS (l:List Int) (m:Int) (h0:0≤m) (hm:m≤1152921504606846976) (hn:l.length≤1099511627776) (k:Nat) (hk:l.length<k):
    laws_markByteS.f k l m=some (m+l.length,marks l.length m):=by
  unfold laws_markByteS.f
  have h:=markByteS_l0 l [] m k h0 (by omega) (by simpa using hn) hk
  simpa using h

theorem heldByteS_l0:∀ (n:Nat) (pre:List Int) (m:Int) (k:Nat),0≤m→m+n≤4611686018427387904→pre.length+n≤1099511627776→n<k→
    laws_heldByteS.l0 k (pre++marks n m) m (pre.length:Int)=some (m+n)
  | 0,pre,m,k,h0,hm,hb,hk=>by
    obtain⟨k,rfl⟩:∃ m,k=m+1:=⟨k - 1,by omega⟩
    rw[show marks 0 m=[] from rfl];simp only[laws_heldByteS.l0];rw[if_neg (nlt_end pre)];simp
  | n+1,pre,m,k,h0,hm,hb,hk=>by
    obtain⟨k,rfl⟩:∃ m,k=m+1:=⟨k - 1,by omega⟩
    have ih:=heldByteS_l0 n (pre++[m % 256]) (m+1) k (by omega) (by omega) (by simp;omega) (by omega)
    rw[show marks (n+1) m=m % 256 :: marks n (m+1) from rfl]
    simp only[laws_heldByteS.l0]
    rw[if_pos (lt_mid pre _ _),if_pos (pre_nonneg pre),rd_mid,if_pos rfl,wrap_step pre (m % 256) (by omega),wrap_eq (m+1) (by omega) (by omega),snoc_app pre (m % 256) (marks n (m+1)),ih]
    congr 1
    omega
theorem heldByteS (n:Nat) (m:Int) (h0:0≤m) (hm:m≤1152921504606846976) (hn:n≤1099511627776) (k:Nat) (hk:n<k):
    laws_heldByteS.f k (marks n m) m=some (m+n):=by
  unfold laws_heldByteS.f
  have h:=heldByteS_l0 n [] m k h0 (by omega) (by simpa using hn) hk
  simpa using h
end Go.Proofs.Ytlalkldjpniakaa.B
/- What masks and shifts of whole numbers are, as remainders; each for the numbers that it names. -/
namespace Go.Proofs.Ytlalkldjpniakaa.B
open Go.RowKit Go.Proofs.YtlalkldjpniakaaW.PrintWords Go.Proofs.YtlalkldjpniakaaW.PrintLast Go.Proofs.YtlalkldjpniakaaW.PrintMore

theorem i64_and_nat (x:Int) (m:Nat) (hm:m<9223372036854775808):Go.bits .and .i64 x (m:Int)=(((x % 18446744073709551616).toNat &&& m:Nat):Int):=by
  have h1:(BitVec.ofInt 64 x).toNat=(x % 18446744073709551616).toNat:=by
    rw[BitVec.toNat_ofInt];rfl
  have h2:(BitVec.ofInt 64 (m:Int)).toNat=m:=ofInt_u64 m (by omega)
  have hx:(x % 18446744073709551616).toNat &&& m≤m:=Nat.and_le_right
  show IntKind.i64.wrap ((BitVec.ofInt 64 x &&& BitVec.ofInt 64 (m:Int)).toNat:Int)=_
  rw[BitVec.toNat_and,h1,h2,IntKind.wrap_i64]
  omega
theorem i64_and31 (x:Int):Go.bits .and .i64 x 31=x % 32:=by
  rw[show(31:Int)=((31:Nat):Int) from rfl,i64_and_nat x 31 (by omega),show(31:Nat)=2 ^ 5 - 1 from rfl,Nat.and_two_pow_sub_one_eq_mod]
  omega
theorem i64_and255 (x:Int):Go.bits .and .i64 x 255=x % 256:=by
  rw[show(255:Int)=((255:Nat):Int) from rfl,i64_and_nat x 255 (by omega),show(255:Nat)=2 ^ 8 - 1 from rfl,Nat.and_two_pow_sub_one_eq_mod]
  omega
theorem i64_and32 (x:Int):Go.bits .and .i64 x 4294967295=x % 4294967296:=by
  rw[show(4294967295:Int)=((4294967295:Nat):Int) from rfl,i64_and_nat x 4294967295 (by omega),show(4294967295:Nat)=2 ^ 32 - 1 from rfl,Nat.and_two_pow_sub_one_eq_mod]
  omega
theorem wf8 {l:List Int} (h:∀ x∈l,(Lit.int .u8 x).wf=true):∀ x∈l,0≤x∧x<256:=by
  intro x hx
  have:=h x hx
  have m1:IntKind.u8.min=0:=by decide
  have m2:IntKind.u8.max=255:=by decide
  simp only[Lit.wf,m1,m2,Bool.and_eq_true,decide_eq_true_eq] at this
  omega
theorem wf64 {x:Int} (h:(Lit.int .i64 x).wf=true): -9223372036854775808≤x∧x≤9223372036854775807:=by
  have m1:IntKind.i64.min= -9223372036854775808:=by decide
  have m2:IntKind.i64.max=9223372036854775807:=by decide
  simp only[Lit.wf,m1,m2,Bool.and_eq_true,decide_eq_true_eq] at h
  omega
end Go.Proofs.Ytlalkldjpniakaa.B
namespace Go.Proofs.Ytlalkldjpniakaa.P
open Go.RowKit Go.Proofs.YtlalkldjpniakaaW.PrintWords Go.Proofs.YtlalkldjpniakaaW.PrintLast Go.Proofs.YtlalkldjpniakaaW.PrintMore
attribute [local go_sem] zbr zbs zch zci zbk zbl zbt zbu -- for this text's walks alone
set_option linter.unusedVariables false
set_option linter.unusedSimpArgs false
set_option maxHeartbeats 8000000
set_option maxRecDepth 100000

def laws_szByteS.f (l0:List Int) (a1:Int):Option (Int):=if(wrap64 (a1 - (l0.length:Int)))<0 then(some (-1)) else(some (wrap64 (a1 - (l0.length:Int))))
theorem laws_szByteS.wk {P:Prop} (h:P:=by
 go_enter Try.func87,Try.ntmps87
 go_wp2
 go_ret
 exact⟨by first | rfl | (simp;done) | (simp [*];done),by repeat(first | exact Drawn0.refl _ | apply Drawn0.step)⟩):P:=h
theorem laws_szByteS.calls (A0:Option Addr) (c0:Nat) (l0:List Int) (a1:Int) (r:Int) (w:World) (hr0:Kd.C (Kd.int .u8) w A0 l0.length l0) (hc0:l0.length≤c0) (h:laws_szByteS.f l0 a1=some r):
  Calls Try.prog 87 #[.slice A0 l0.length c0, .int .i64 a1] w fun e w'=>e= .returned (.int .i64 r)∧Drawn0 w w':=by
 have HR0:=Aside0.mk hr0
 have HC0:=Aside0.mk hc0
 clear hr0 hc0
 have H:(if(wrap64 (a1 - (l0.length:Int)))<0 then(some (-1)) else(some (wrap64 (a1 - (l0.length:Int)))))=some r:=h
 clear h
 by_cases c3:(wrap64 (a1 - (l0.length:Int)))<0
 ·rw[if_pos c3] at H
  have c3b0:=zag c3
  clear c3
  obtain rfl:=Option.some.inj H
  exact laws_szByteS.wk
 rw[if_neg c3] at H
 have c3b0:=zaw c3
 clear c3
 obtain rfl:=Option.some.inj H
 exact laws_szByteS.wk
def laws_szItem.f (a0_0:ByteArray) (a0_1:Int) (a0_2:Int) (l0_3:List Int) (a1:Int):Option (Int):=if(wrap64 (a1 - (a0_0.size:Int)))<0 then(some (-1)) else((laws_szByteS.f l0_3 (wrap64 (a1 - (a0_0.size:Int)))).bind fun t102=>(if t102<0 then(some (-1)) else(some t102)))
theorem laws_szItem.wk {P:Prop} (h:P:=by
 go_enter Try.func23,Try.ntmps23
 go_wp2_with (first | (refine jgd 2 ?_;refine bx 2 (#[.string a0_0, .int .i64 a0_1, .int .i64 a0_2, .slice A0_3 l0_3.length c0_3]) 31 ?_;intro gb101 hg w_ hbox hb;have xb_:=below_ofs bq hb;have n_:=jA4 (zah xb_ hb) (hbox) (ge0 hg xb_:w.heap.size≤gb101) (ge0 hg xb_:w.heap.size≤gb101);clear HB;obtain⟨HB,BK101,GW101,GE101⟩:=n_;clear xb_ hb hbox hg;obtain⟨c0,c1,c2,c3,z0,z1,z2,z3⟩:=cz4 BK101.out) | (refine jgc 87 ?_;refine jgs 15 Try.func87 #[.slice A0_3 l0_3.length c0_3, .int .i64 (wrap64 (a1 - (a0_0.size:Int)))] ?_;(with_reducible refine(laws_szByteS.calls _ _ l0_3 (wrap64 (a1 - (a0_0.size:Int))) t102 _ ?side1 ?side2 A6.out).mono ?_);(case side1=>exact jcs HR0_3.out);(case side2=>exact HC0_3.out);rintro e w' ⟨rfl,⟨nd,rfl⟩⟩;refine⟨_,rfl,?_⟩))
 go_ret
 exact⟨jex,(bs1 GE101.out)⟩):P:=h
theorem laws_szItem.calls (a0_0:ByteArray) (a0_1:Int) (a0_2:Int) (A0_3:Option Addr) (c0_3:Nat) (l0_3:List Int) (a1:Int) (r:Int) (w:World) (hr0_3:Kd.C (Kd.int .u8) w A0_3 l0_3.length l0_3) (hc0_3:l0_3.length≤c0_3) (h:laws_szItem.f a0_0 a0_1 a0_2 l0_3 a1=some r):
  Calls Try.prog 23 #[.agg #[.string a0_0, .int .i64 a0_1, .int .i64 a0_2, .slice A0_3 l0_3.length c0_3], .int .i64 a1] w fun e w'=>e= .returned (.int .i64 r)∧Below w.heap.size w w':=by
 have hu31:=Try.underlying31
 have HR0_3:=Aside0.mk hr0_3
 have HC0_3:=Aside0.mk hc0_3
 clear hr0_3 hc0_3
 have HB:=Aside0.mk (zbe w.heap.size w)
 have H:(if(wrap64 (a1 - (a0_0.size:Int)))<0 then(some (-1)) else((laws_szByteS.f l0_3 (wrap64 (a1 - (a0_0.size:Int)))).bind fun t102=>(if t102<0 then(some (-1)) else(some t102))))=some r:=h
 clear h
 by_cases c3:(wrap64 (a1 - (a0_0.size:Int)))<0
 ·rw[if_pos c3] at H
  have c3b0:=zag c3
  clear c3
  obtain rfl:=Option.some.inj H
  exact laws_szItem.wk
 rw[if_neg c3] at H
 have c3b0:=zaw c3
 clear c3
 obtain⟨t102,A6,H⟩:=bnd H
 by_cases c7:t102<0
 ·rw[if_pos c7] at H
  have c7b0:=zag c7
  clear c7
  obtain rfl:=Option.some.inj H
  exact laws_szItem.wk
 rw[if_neg c7] at H
 have c7b0:=zaw c7
 clear c7
 obtain rfl:=Option.some.inj H
 exact laws_szItem.wk
end Go.Proofs.Ytlalkldjpniakaa.P
