import Derived.Test.Ytlalkldjpniakaabk6
namespace Go.Proofs.Ytlalkldjpniakaa.P
open Go.RowKit Go.Proofs.YtlalkldjpniakaaW.PrintWords Go.Proofs.YtlalkldjpniakaaW.PrintLast Go.Proofs.YtlalkldjpniakaaW.PrintMore
attribute [local go_sem] zck zcl zdl zdm zbz zca zcm zcn -- for this text's walks alone
set_option linter.unusedVariables false
set_option linter.unusedSimpArgs false
set_option maxHeartbeats 8000000
set_option maxRecDepth 100000

def IsS132 (w0 W:World) (g:Nat) (f0:List Int) (f1:Int) (f2:Int):Prop:=∃ A0 c0,W.heap[g]? =some (.cells #[.slice A0 f0.length c0, .int .i64 f1, .int .i64 f2] 132 (0,0))∧w0.heap.size≤g∧Kd.C (Kd.int .u8) w0 A0 f0.length f0
theorem IsS132.grown {w0 W:World} {g:Nat} {f0:List Int} {f1:Int} {f2:Int} {W1:World} {row:Option Nat} (h:IsS132 w0 W g f0 f1 f2) (hw:W.grownBy W1 row) (hne:some g≠row):IsS132 w0 W1 g f0 f1 f2:=by
 obtain⟨A0,c0,hb,hg,hr0⟩:=h
 exact⟨A0,c0,zeq hb hw hne,hg,hr0⟩
theorem IsS132.own_neN {w0 W:World} {g:Nat} {f0:List Int} {f1:Int} {f2:Int} {α:Type} {d:Kd α} {e:Nat} {base:Nat} {ok:Nat→Prop} {v:Value} {xs:List α} (h:IsS132 w0 W g f0 f1 f2) (ho:Kd.N d e W base ok v xs) (ht:e≠132):some g≠v.ownBlock:=by
 obtain⟨A0,c0,hb,hg,hr0⟩:=h
 exact Kd.N_ne ho hb ht
theorem IsS132.fresh {w0 W:World} {g:Nat} {f0:List Int} {f1:Int} {f2:Int} (h:IsS132 w0 W g f0 f1 f2):∀ k,W.heap.size≤k→k≠g:=by
 obtain⟨A0,c0,hb,hg,hr0⟩:=h
 exact zfw hb
theorem IsS132.kept {w0 W:World} {g:Nat} {f0:List Int} {f1:Int} {f2:Int} {W1:World} {S:Nat→Prop} (h:IsS132 w0 W g f0 f1 f2) (hk:Kept W W1 S) (hne:¬S g):IsS132 w0 W1 g f0 f1 f2:=by
 obtain⟨A0,c0,hb,hg,hr0⟩:=h
 exact⟨A0,c0,blk_kept hb hk hne,hg,hr0⟩
theorem IsS132.below {w0 W:World} {g:Nat} {f0:List Int} {f1:Int} {f2:Int} {W1:World} (h:IsS132 w0 W g f0 f1 f2) (hw:Below W.heap.size W W1):IsS132 w0 W1 g f0 f1 f2:=h.grown (grown_of_below hw none) (by simp)
theorem IsS132.alloc {w0 W:World} {g:Nat} {f0:List Int} {f1:Int} {f2:Int} (h:IsS132 w0 W g f0 f1 f2) (o:Obj):IsS132 w0 (W.alloc o) g f0 f1 f2:=h.below (zbe (zbo _ _) o)
theorem IsS132.drewN {w0 W:World} {g:Nat} {f0:List Int} {f1:Int} {f2:Int} (h:IsS132 w0 W g f0 f1 f2) (m:Nat):IsS132 w0 (W.drewN m) g f0 f1 f2:=h
theorem IsS132.drew {w0 W:World} {g:Nat} {f0:List Int} {f1:Int} {f2:Int} (h:IsS132 w0 W g f0 f1 f2):IsS132 w0 W.drew g f0 f1 f2:=h
theorem IsS132.at_ {w0 W:World} {g:Nat} {f0:List Int} {f1:Int} {f2:Int} {w':World} {m:Nat} (hq:W.drewN m=w') (h:IsS132 w0 W g f0 f1 f2):IsS132 w0 w' g f0 f1 f2:=by subst hq;exact IsS132.drewN h m
theorem IsS132.apart {w0 W:World} {g:Nat} {f0:List Int} {f1:Int} {f2:Int} {α:Type} {d:Kd α} {e:Nat} {base:Nat} {ok:Nat→Prop} {v:Value} {xs:List α} (h:IsS132 w0 W g f0 f1 f2) (ho:d.R e W base ok v xs) (ht:∀ q,q∈e :: d.E→q≠132):d.R e W base (fun k=>ok k∧k≠g) v xs:=by
 obtain⟨A0,c0,hb,hg,hr0⟩:=h
 exact zdc ho hb ht
theorem IsS132.own_ne {w0 W:World} {g:Nat} {f0:List Int} {f1:Int} {f2:Int} {α:Type} {d:Kd α} {e:Nat} {base:Nat} {ok:Nat→Prop} {v:Value} {xs:List α} (h:IsS132 w0 W g f0 f1 f2) (ho:d.R e W base ok v xs) (ht:e≠132):some g≠v.ownBlock:=by
 obtain⟨A0,c0,hb,hg,hr0⟩:=h
 exact zgk ho hb ht
theorem IsS132.apartQ {w0 W:World} {g:Nat} {f0:List Int} {f1:Int} {f2:Int} {α:Type} {d:Kd α} {e:Nat} {base:Nat} {ok:Nat→Prop} {v:Value} {xs:List α} (h:IsS132 w0 W g f0 f1 f2) (ho:d.Q e W base ok v xs) (ht:∀ q,q∈e :: d.E→q≠132):d.Q e W base (fun k=>ok k∧k≠g) v xs:=by
 obtain⟨A0,c0,hb,hg,hr0⟩:=h
 exact Kd.Q_types ho hb ht
theorem IsS132.own_neQ {w0 W:World} {g:Nat} {f0:List Int} {f1:Int} {f2:Int} {α:Type} {d:Kd α} {e:Nat} {base:Nat} {ok:Nat→Prop} {v:Value} {xs:List α} (h:IsS132 w0 W g f0 f1 f2) (ho:d.Q e W base ok v xs) (ht:e≠132):some g≠v.ownBlock:=by
 obtain⟨A0,c0,hb,hg,hr0⟩:=h
 exact Kd.Q_ne ho hb ht
theorem IsS132.apartS {w0 W:World} {g:Nat} {f0:List Int} {f1:Int} {f2:Int} {α:Type} {d:Kd α} {e:Nat} {base:Nat} {ok:Nat→Prop} {v:Value} {xs:List α} (h:IsS132 w0 W g f0 f1 f2) (ho:d.S e W base ok v xs) (ht:∀ q,q∈e :: d.E→q≠132):d.S e W base (fun k=>ok k∧k≠g) v xs:=by
 obtain⟨A0,c0,hb,hg,hr0⟩:=h
 exact Kd.S_types ho hb ht
theorem IsS132.own_neS {w0 W:World} {g:Nat} {f0:List Int} {f1:Int} {f2:Int} {α:Type} {d:Kd α} {e:Nat} {base:Nat} {ok:Nat→Prop} {v:Value} {xs:List α} (h:IsS132 w0 W g f0 f1 f2) (ho:d.S e W base ok v xs) (ht:e≠132):some g≠v.ownBlock:=by
 obtain⟨A0,c0,hb,hg,hr0⟩:=h
 exact Kd.S_ne ho hb ht
theorem IsS132.lt {w0 W:World} {g:Nat} {f0:List Int} {f1:Int} {f2:Int} (h:IsS132 w0 W g f0 f1 f2):g<W.heap.size:=by
 obtain⟨A0,c0,hb,hg,hr0⟩:=h
 exact blk_lt hb
theorem IsS132.ge {w0 W:World} {g:Nat} {f0:List Int} {f1:Int} {f2:Int} (h:IsS132 w0 W g f0 f1 f2):w0.heap.size≤g:=by
 obtain⟨A0,c0,hb,hg,hr0⟩:=h
 exact hg
theorem IsS132.ne_blk {w0 W:World} {g:Nat} {f0:List Int} {f1:Int} {f2:Int} {a:Nat} {cs:Array Value} {t:TypeId} {fr:Nat×Nat} (h:IsS132 w0 W g f0 f1 f2) (hb2:W.heap[a]? =some (.cells cs t fr)) (ht:t≠132):g≠a:=by
 obtain⟨A0,c0,hb,hg,hr0⟩:=h
 rintro rfl
 rw[hb] at hb2
 injection hb2 with hb2
 injection hb2 with _ ht2
 exact ht ht2.symm
theorem IsS132.far {w0 W:World} {g:Nat} {f0:List Int} {f1:Int} {f2:Int} {p:Addr} (h:IsS132 w0 W g f0 f1 f2) (hne:g≠p.block) (u:Value):IsS132 w0 (W.setCell p u) g f0 f1 f2:=by
 obtain⟨A0,c0,hb,hg,hr0⟩:=h
 exact⟨A0,c0,zff hb hne u,hg,hr0⟩
theorem cellS132_0 {W:World} {g:Nat} {A0:Option Addr} {c0:Nat} {f0:List Int} {f1:Int} {f2:Int} (h:W.heap[g]? =some (.cells #[.slice A0 f0.length c0, .int .i64 f1, .int .i64 f2] 132 (0,0))):W.cell? ⟨g,0,none⟩=some (.slice A0 f0.length c0):=(zbi h 0).trans rfl
theorem cellS132_1 {W:World} {g:Nat} {A0:Option Addr} {c0:Nat} {f0:List Int} {f1:Int} {f2:Int} (h:W.heap[g]? =some (.cells #[.slice A0 f0.length c0, .int .i64 f1, .int .i64 f2] 132 (0,0))):W.cell? ⟨g,1,none⟩=some (.int .i64 f1):=(zbi h 1).trans rfl
theorem IsS132.set_1 {w0 W:World} {g:Nat} {f0:List Int} {f1:Int} {f2:Int} (h:IsS132 w0 W g f0 f1 f2) (x:Int):IsS132 w0 (W.setCell ⟨g,1,none⟩ (.int .i64 x)) g f0 x f2:=by
 obtain⟨A0,c0,hb,hg,hr0⟩:=h
 exact⟨A0,c0,by simpa using blk_set hb 1 (.int .i64 x),hg,hr0⟩
theorem cellS132_2 {W:World} {g:Nat} {A0:Option Addr} {c0:Nat} {f0:List Int} {f1:Int} {f2:Int} (h:W.heap[g]? =some (.cells #[.slice A0 f0.length c0, .int .i64 f1, .int .i64 f2] 132 (0,0))):W.cell? ⟨g,2,none⟩=some (.int .i64 f2):=(zbi h 2).trans rfl
theorem IsS132.set_2 {w0 W:World} {g:Nat} {f0:List Int} {f1:Int} {f2:Int} (h:IsS132 w0 W g f0 f1 f2) (x:Int):IsS132 w0 (W.setCell ⟨g,2,none⟩ (.int .i64 x)) g f0 f1 x:=by
 obtain⟨A0,c0,hb,hg,hr0⟩:=h
 exact⟨A0,c0,by simpa using blk_set hb 2 (.int .i64 x),hg,hr0⟩
theorem IsS132.new (w0 W:World) (A0:Option Addr) (c0:Nat) (f0:List Int) (f1:Int) (f2:Int) (hB:Below w0.heap.size w0 W) (hr0:Kd.C (Kd.int .u8) w0 A0 f0.length f0):IsS132 w0 (W.alloc (.cells #[.slice A0 f0.length c0, .int .i64 f1, .int .i64 f2] 132)) W.heap.size f0 f1 f2:=⟨A0,c0,by simpa using zgp W _,hB.size,hr0⟩

def spec_l1New.l0:Nat→List Int→Int→Int→Option (List Int×Int×Int)
 | 0,_,_,_=>none
 | k+1,x0,x3,x4=>if x4<(x0.length:Int) then(if x4<4000 then(if 0≤x4 then(spec_l1New.l0 k x0 (Go.bits .and .i64 (wrap64 ((wrap64 ((wrap64 (x3*131))+(wrap64 (rd x0 x4))))+7)) 1073741823) (wrap64 (x4+1))) else(none)) else(some (x0,0,x3))) else(some (x0,0,x3))
def spec_l1New.f (k:Nat) (l0:List Int):Option (List Int×Int×Int):=spec_l1New.l0 k l0 (wrap64 (27508+(l0.length:Int))) 0
theorem spec_l1New.mono_l:∀ k,(∀ y0 y1 y2,LeO (spec_l1New.l0 k y0 y1 y2) (spec_l1New.l0 (k+1) y0 y1 y2))
 | 0=>fun _ _ _ r h=>by simp [spec_l1New.l0] at h
 | k+1=>by
  have ih0:=spec_l1New.mono_l k
  intro y0 y1 y2
  unfold spec_l1New.l0
  exact mt
theorem spec_l1New.mono:∀ a0 k,LeO (spec_l1New.f k a0) (spec_l1New.f (k+1) a0):=by
 intro a0 k
 have ih0:=spec_l1New.mono_l k
 unfold spec_l1New.f
 exact mt
theorem spec_l1New.calls (k:Nat) (A0:Option Addr) (c0:Nat) (l0:List Int) (r1:List Int) (r2:Int) (r3:Int) (w0 w:World) (hB:Below w0.heap.size w0 w) (hr0:Kd.C (Kd.int .u8) w0 A0 l0.length l0) (hc0:l0.length≤c0) (h:spec_l1New.f k l0=some (r1,r2,r3)):
  Calls Try.prog 117 #[.slice A0 l0.length c0] w fun e w'=>∃ g_:Nat,e= .returned (.pointer (some ⟨g_,0,none⟩))∧IsS132 w0 w' g_ r1 r2 r3∧Below w0.heap.size w0 w'∧Below w.heap.size w w':=by
 have hu132:=Try.underlying132
 have HR0:=Aside0.mk hr0
 have T0:=Aside0.mk hc0
 clear hr0 hc0
 have HBW:=Aside0.mk (zbo w.heap.size w)
 have HW0:=Aside0.mk hB.size
 have HB:=Aside0.mk hB
 clear hB
 have H:(spec_l1New.l0 k l0 (wrap64 (27508+(l0.length:Int))) 0)=some (r1,r2,r3):=h
 clear h
 have H':=Aside0.mk H
 clear H
 go_enter Try.func117,Try.ntmps117
 go_wp2
 go_loopg [3,4] k (fun kq v3 v4 w'=>∃ (B0:Int) (o0:Int),v3= .int .i64 B0∧v4= .int .i64 o0∧Aside0 (spec_l1New.l0 kq l0 B0 o0=some (r1,r2,r3))∧Aside0 (kq≤k)∧Aside0 (Below w0.heap.size w0 w')∧Aside0 (Below w.heap.size w w'))
 case atStart=>exact⟨(wrap64 (27508+(l0.length:Int))),(0),jer,jer,H',⟨zaf _⟩,⟨bq⟩,⟨by repeat(first | (with_reducible first | exact HBW.out | apply zbe | apply zat | apply zba) | exact HBW.out)⟩⟩
 case round=>
  clear H'
  try clear c1
  obtain⟨B0,o0,rfl,rfl,HA,Q0,HB,HBW⟩:=hrel
  cases gk with
  | zero=>exact absurd HA.out (by simp [spec_l1New.l0])
  | succ k1=>
   have H:=HA.out
   clear HA
   simp only[spec_l1New.l0] at H
   by_cases c2:o0<(l0.length:Int)
   ·rw[if_pos c2] at H
    have N0:=zae c2
    clear c2
    by_cases c3:o0<4000
    ·rw[if_pos c3] at H
     have O0:=zae c3
     clear c3
     by_cases c4:0≤o0
     ·rw[if_pos c4] at H
      have S0:=zae c4
      clear c4
      have H':=Aside0.mk H
      clear H
      have H0:0≤(o0:Int):=zad jab
      have I0:o0<(l0.length:Int):=zad jab
      obtain⟨R0,P0,C0⟩:=zfk HR0.out o0 H0 I0
      cases P0
      replace C0:=zbv HB.out C0
      replace H0:=zbr H0
      replace I0:=zbr I0
      go_wp2
      go_roundg k1
      case measure=>have:=Q0.out;omega
      case rel=>exact⟨(Go.bits .and .i64 (wrap64 ((wrap64 ((wrap64 (B0*131))+(wrap64 (rd l0 o0))))+7)) 1073741823),(wrap64 (o0+1)),jer,jer,H',⟨by have:=Q0.out;omega⟩,⟨bq⟩,⟨by repeat(first | (with_reducible first | exact HBW.out | apply zbe | apply zat | apply zba) | exact HBW.out)⟩⟩
     rw[if_neg c4] at H
     exact absurd H (by simp)
    rw[if_neg c3] at H
    have O0:=zbf c3
    clear c3
    simp only[zaz,zbn] at H
    obtain⟨rfl,rfl,rfl⟩:=H
    go_wp2_with (first | (refine jgd 31 ?_;refine bx 31 (#[.slice A0 l0.length c0, .int .i64 0, .int .i64 B0]) 132 ?_;intro D0 hg w5 hbox hb;have n_:=jA5 (zac HBW.out hb) (zac bq hb) (hbox) (by rw[hg];exact(zal (by repeat(first | (with_reducible first | exact HBW.out | apply zbe | apply zat | apply zba) | exact HBW.out))):w.heap.size≤D0) (zcv HW0.out (by rw[hg];exact(zal (by repeat(first | (with_reducible first | exact HBW.out | apply zbe | apply zat | apply zba) | exact HBW.out))):w.heap.size≤D0):w0.heap.size≤D0);clear HBW HB;obtain⟨HBW,HB,J0,K0,F0⟩:=n_;clear hb hbox hg))
    go_ret
    exact⟨_,rfl,(show IsS132 w0 _ D0 l0 0 B0 from⟨_,_,by(with_reducible repeat(first | refine zaj ?_ _ | refine zan ?_ | refine zak ?_ _));exact J0.out,F0.out,HR0.out⟩),by repeat(first | (with_reducible first | exact HB.out | apply zbe | apply zat | apply zba | refine zav ?_ F0.out) | exact HB.out),by repeat(first | (with_reducible first | exact HBW.out | apply zbe | apply zat | apply zba | refine zav ?_ K0.out) | exact HBW.out)⟩
   rw[if_neg c2] at H
   have N0:=zbf c2
   clear c2
   simp only[zaz,zbn] at H
   obtain⟨rfl,rfl,rfl⟩:=H
   go_wp2_with (first | (refine jgd 31 ?_;refine bx 31 (#[.slice A0 l0.length c0, .int .i64 0, .int .i64 B0]) 132 ?_;intro E0 hg w6 hbox hb;have n_:=jA5 (zac HBW.out hb) (zac bq hb) (hbox) (by rw[hg];exact(zal (by repeat(first | (with_reducible first | exact HBW.out | apply zbe | apply zat | apply zba) | exact HBW.out))):w.heap.size≤E0) (zcv HW0.out (by rw[hg];exact(zal (by repeat(first | (with_reducible first | exact HBW.out | apply zbe | apply zat | apply zba) | exact HBW.out))):w.heap.size≤E0):w0.heap.size≤E0);clear HBW HB;obtain⟨HBW,HB,L0,M0,G0⟩:=n_;clear hb hbox hg))
   go_ret
   exact⟨_,rfl,(show IsS132 w0 _ E0 l0 0 B0 from⟨_,_,by(with_reducible repeat(first | refine zaj ?_ _ | refine zan ?_ | refine zak ?_ _));exact L0.out,G0.out,HR0.out⟩),by repeat(first | (with_reducible first | exact HB.out | apply zbe | apply zat | apply zba | refine zav ?_ G0.out) | exact HB.out),by repeat(first | (with_reducible first | exact HBW.out | apply zbe | apply zat | apply zba | refine zav ?_ M0.out) | exact HBW.out)⟩
def spec_l1Byte.f (s0_0:List Int) (s0_1:Int) (s0_2:Int):Option (Int×Int×Int):=if s0_1<(s0_0.length:Int) then(if 0≤s0_1 then(some (Go.bits .and .i64 (wrap64 ((Go.bits .and .i64 (Go.bits .xor .i64 ((wrap64 ((wrap64 (s0_2*6364136223846793005))+1442695040888963407)) / 8589934592) ((wrap64 ((wrap64 (s0_2*6364136223846793005))+1442695040888963407)) / 35184372088832)) 255)+(wrap64 (rd s0_0 s0_1)))) 255,wrap64 (s0_1+1),wrap64 ((wrap64 (s0_2*6364136223846793005))+1442695040888963407))) else(none)) else(some (Go.bits .and .i64 (Go.bits .xor .i64 ((wrap64 ((wrap64 (s0_2*6364136223846793005))+1442695040888963407)) / 8589934592) ((wrap64 ((wrap64 (s0_2*6364136223846793005))+1442695040888963407)) / 35184372088832)) 255,s0_1,wrap64 ((wrap64 (s0_2*6364136223846793005))+1442695040888963407)))
theorem spec_l1Byte.calls (g:Nat) (s0_0:List Int) (s0_1:Int) (s0_2:Int) (r1:Int) (r2:Int) (r3:Int) (w0 w:World) (hI:IsS132 w0 w g s0_0 s0_1 s0_2) (hB:Below w0.heap.size w0 w) (h:spec_l1Byte.f s0_0 s0_1 s0_2=some (r1,r2,r3)):
  Calls Try.prog 151 #[.pointer (some ⟨g,0,none⟩)] w fun e w'=>e= .returned (.int .i64 r1)∧IsS132 w0 w' g s0_0 r2 r3∧Below w0.heap.size w0 w'∧KeepBut w w' g none:=by
 have HI0:=Aside0.mk hI
 have HK:=Aside0.mk (zhc w g none)
 have HL:=Aside0.mk hB.size
 clear hI
 have HW0:=Aside0.mk hB.size
 have HB:=Aside0.mk hB
 clear hB
 have H:(if s0_1<(s0_0.length:Int) then(if 0≤s0_1 then(some (Go.bits .and .i64 (wrap64 ((Go.bits .and .i64 (Go.bits .xor .i64 ((wrap64 ((wrap64 (s0_2*6364136223846793005))+1442695040888963407)) / 8589934592) ((wrap64 ((wrap64 (s0_2*6364136223846793005))+1442695040888963407)) / 35184372088832)) 255)+(wrap64 (rd s0_0 s0_1)))) 255,wrap64 (s0_1+1),wrap64 ((wrap64 (s0_2*6364136223846793005))+1442695040888963407))) else(none)) else(some (Go.bits .and .i64 (Go.bits .xor .i64 ((wrap64 ((wrap64 (s0_2*6364136223846793005))+1442695040888963407)) / 8589934592) ((wrap64 ((wrap64 (s0_2*6364136223846793005))+1442695040888963407)) / 35184372088832)) 255,s0_1,wrap64 ((wrap64 (s0_2*6364136223846793005))+1442695040888963407))))=some (r1,r2,r3):=h
 clear h
 by_cases c2:s0_1<(s0_0.length:Int)
 ·rw[if_pos c2] at H
  have H0:=zae c2
  clear c2
  by_cases c3:0≤s0_1
  ·rw[if_pos c3] at H
   have T0:=zae c3
   clear c3
   simp only[zaz,zbn] at H
   obtain⟨rfl,rfl,rfl⟩:=H
   obtain⟨ASz4_0,cSz4_0,B0,hgz4,HSz4_0⟩:=HI0.out
   have I0:=cellS132_0 B0
   have J0:=cellS132_1 B0
   have K0:=cellS132_2 B0
   have L0:=zgi B0 1
   have M0:=zgi B0 2
   clear B0 hgz4
   have D0:0≤(s0_1:Int):=zad jab
   have E0:s0_1<(s0_0.length:Int):=zad jab
   obtain⟨F0,N0,o0⟩:=zfk HSz4_0 s0_1 D0 E0
   cases N0
   have hn745_0:F0.block≠g:=zfe (zch (by have:=World.block_lt_of_cell? _ _ o0;first | rwa [add_block] at this | exact this) (IsS132.ge HI0.out))
   replace o0:=zbv HB.out o0
   replace o0:=(zde (p:=⟨g,2,none⟩) (by first | (rw[add_block];exact hn745_0) | (show(Addr.add _ _).block≠_;rw[add_block];exact hn745_0) | exact hn745_0) (.int .i64 (wrap64 ((wrap64 (s0_2*6364136223846793005))+1442695040888963407)))).trans o0
   (try have G0:=fun(n_:Nat)=>(show(((w.drewN n_).setCell ⟨g,2,none⟩ (.int .i64 (wrap64 ((wrap64 (s0_2*6364136223846793005))+1442695040888963407))))).cell? _=some _ from o0))
   clear hn745_0
   replace D0:=zbr D0
   replace E0:=zbr E0
   go_enter Try.func151,Try.ntmps151
   go_wp2
   repeat(go_quiet (fail);try go_wp2)
   go_ret
   exact⟨jex,by repeat(first | (with_reducible first | exact HI0.out | apply IsS132.alloc | apply IsS132.drewN | apply IsS132.drew | apply IsS132.set_1 | apply IsS132.set_2) | exact HI0.out),by repeat(first | (with_reducible first | exact HB.out | apply zbe | apply zat | apply zba | refine zav ?_ (IsS132.ge HI0.out)) | exact HB.out),by repeat(first | (with_reducible first | exact HK.out | apply zep | apply zfi | apply zfx | apply zfj) | exact HK.out)⟩
  rw[if_neg c3] at H
  exact absurd H (by simp)
 rw[if_neg c2] at H
 have H0:=zbf c2
 clear c2
 simp only[zaz,zbn] at H
 obtain⟨rfl,rfl,rfl⟩:=H
 obtain⟨ASz5_0,cSz5_0,C0,hgz5,HSz5_0⟩:=HI0.out
 have O0:=cellS132_0 C0
 have P0:=cellS132_1 C0
 have Q0:=cellS132_2 C0
 have R0:=zgi C0 1
 have S0:=zgi C0 2
 clear C0 hgz5
 go_enter Try.func151,Try.ntmps151
 go_wp2
 repeat(go_quiet (fail);try go_wp2)
 go_ret
 exact⟨jex,by repeat(first | (with_reducible first | exact HI0.out | apply IsS132.alloc | apply IsS132.drewN | apply IsS132.drew | apply IsS132.set_1 | apply IsS132.set_2) | exact HI0.out),by repeat(first | (with_reducible first | exact HB.out | apply zbe | apply zat | apply zba | refine zav ?_ (IsS132.ge HI0.out)) | exact HB.out),by repeat(first | (with_reducible first | exact HK.out | apply zep | apply zfi | apply zfx | apply zfj) | exact HK.out)⟩
def spec_l1Below.f (s0_0:List Int) (s0_1:Int) (s0_2:Int) (a1:Int):Option (Int×Int×Int):=if a1≤0 then(some (0,s0_1,s0_2)) else(if a1≤256 then((spec_l1Byte.f s0_0 s0_1 s0_2).bind fun bt746=>(if a1=0 then(none) else(some (Int.tmod bt746.1 a1,bt746.2.1,bt746.2.2)))) else((spec_l1Byte.f s0_0 s0_1 s0_2).bind fun bt749=>((spec_l1Byte.f s0_0 bt749.2.1 bt749.2.2).bind fun bt752=>((spec_l1Byte.f s0_0 bt752.2.1 bt752.2.2).bind fun bt755=>((spec_l1Byte.f s0_0 bt755.2.1 bt755.2.2).bind fun bt758=>(if a1=0 then(none) else(some (Int.tmod (wrap64 ((wrap64 ((wrap64 ((wrap64 (bt749.1*16777216))+(wrap64 (bt752.1*65536))))+(wrap64 (bt755.1*256))))+bt758.1)) a1,bt758.2.1,bt758.2.2))))))))
theorem spec_l1Below.wk {P:Prop} (h:P:=by
 go_enter Try.func143,Try.ntmps143
 go_wp2_with (first | (refine jgc 151 ?_;refine jgs 18 Try.func151 #[.pointer (some ⟨g,0,none⟩)] ?_;(with_reducible refine(spec_l1Byte.calls g s0_0 s0_1 s0_2 t749 t750 t751 w0 _ ?side1 ?side2 A8.out).mono ?_);(case side1=>repeat(first | (with_reducible first | exact HI0.out | apply IsS132.alloc | apply IsS132.drewN | apply IsS132.drew | apply IsS132.set_1 | apply IsS132.set_2) | exact HI0.out));(case side2=>repeat(first | (with_reducible first | exact HB.out | apply zbe | apply zat | apply zba | refine zav ?_ (IsS132.ge HI0.out)) | exact HB.out));rintro e w13 ⟨rfl,hi,hb,hk⟩;refine⟨_,rfl,?_⟩;have n_:=jA3 (zay jk hk (.inl rfl)) (hb) (hi);clear HK HB HI0;obtain⟨HK,HB,HI0⟩:=n_;(try clear hb);(try clear hb2);(try clear hk);(try clear hi)) | (refine jgc 151 ?_;refine jgs 20 Try.func151 #[.pointer (some ⟨g,0,none⟩)] ?_;(with_reducible refine(spec_l1Byte.calls g s0_0 t750 t751 t752 t753 t754 w0 _ ?side1 ?side2 A9.out).mono ?_);(case side1=>repeat(first | (with_reducible first | exact HI0.out | apply IsS132.alloc | apply IsS132.drewN | apply IsS132.drew | apply IsS132.set_1 | apply IsS132.set_2) | exact HI0.out));(case side2=>repeat(first | (with_reducible first | exact HB.out | apply zbe | apply zat | apply zba | refine zav ?_ (IsS132.ge HI0.out)) | exact HB.out));rintro e w14 ⟨rfl,hi,hb,hk⟩;refine⟨_,rfl,?_⟩;have n_:=jA3 (zay jk hk (.inl rfl)) (hb) (hi);clear HK HB HI0;obtain⟨HK,HB,HI0⟩:=n_;(try clear hb);(try clear hb2);(try clear hk);(try clear hi)) | (refine jgc 151 ?_;refine jgs 22 Try.func151 #[.pointer (some ⟨g,0,none⟩)] ?_;(with_reducible refine(spec_l1Byte.calls g s0_0 t753 t754 t755 t756 t757 w0 _ ?side1 ?side2 A10.out).mono ?_);(case side1=>repeat(first | (with_reducible first | exact HI0.out | apply IsS132.alloc | apply IsS132.drewN | apply IsS132.drew | apply IsS132.set_1 | apply IsS132.set_2) | exact HI0.out));(case side2=>repeat(first | (with_reducible first | exact HB.out | apply zbe | apply zat | apply zba | refine zav ?_ (IsS132.ge HI0.out)) | exact HB.out));rintro e w15 ⟨rfl,hi,hb,hk⟩;refine⟨_,rfl,?_⟩;have n_:=jA3 (zay jk hk (.inl rfl)) (hb) (hi);clear HK HB HI0;obtain⟨HK,HB,HI0⟩:=n_;(try clear hb);(try clear hb2);(try clear hk);(try clear hi)) | (refine jgc 151 ?_;refine jgs 24 Try.func151 #[.pointer (some ⟨g,0,none⟩)] ?_;(with_reducible refine(spec_l1Byte.calls g s0_0 t756 t757 t758 t759 t760 w0 _ ?side1 ?side2 A11.out).mono ?_);(case side1=>repeat(first | (with_reducible first | exact HI0.out | apply IsS132.alloc | apply IsS132.drewN | apply IsS132.drew | apply IsS132.set_1 | apply IsS132.set_2) | exact HI0.out));(case side2=>repeat(first | (with_reducible first | exact HB.out | apply zbe | apply zat | apply zba | refine zav ?_ (IsS132.ge HI0.out)) | exact HB.out));rintro e w16 ⟨rfl,hi,hb,hk⟩;refine⟨_,rfl,?_⟩;have n_:=jA3 (zay jk hk (.inl rfl)) (hb) (hi);clear HK HB HI0;obtain⟨HK,HB,HI0⟩:=n_;(try clear hb);(try clear hb2);(try clear hk);(try clear hi)) | (refine jgc 151 ?_;refine jgs 14 Try.func151 #[.pointer (some ⟨g,0,none⟩)] ?_;(with_reducible refine(spec_l1Byte.calls g s0_0 s0_1 s0_2 t746 t747 t748 w0 _ ?side1 ?side2 A5.out).mono ?_);(case side1=>repeat(first | (with_reducible first | exact HI0.out | apply IsS132.alloc | apply IsS132.drewN | apply IsS132.drew | apply IsS132.set_1 | apply IsS132.set_2) | exact HI0.out));(case side2=>repeat(first | (with_reducible first | exact HB.out | apply zbe | apply zat | apply zba | refine zav ?_ (IsS132.ge HI0.out)) | exact HB.out));rintro e w7 ⟨rfl,hi,hb,hk⟩;refine⟨_,rfl,?_⟩;have n_:=jA3 (zay jk hk (.inl rfl)) (hb) (hi);clear HK HB HI0;obtain⟨HK,HB,HI0⟩:=n_;(try clear hb);(try clear hb2);(try clear hk);(try clear hi)))
 go_ret
 exact⟨jex,by repeat(first | (with_reducible first | exact HI0.out | apply IsS132.alloc | apply IsS132.drewN | apply IsS132.drew | apply IsS132.set_1 | apply IsS132.set_2) | exact HI0.out),by repeat(first | (with_reducible first | exact HB.out | apply zbe | apply zat | apply zba | refine zav ?_ (IsS132.ge HI0.out)) | exact HB.out),by repeat(first | (with_reducible first | exact HK.out | apply zep | apply zfi | apply zfx | apply zfj) | exact HK.out)⟩):P:=h
theorem spec_l1Below.calls (g:Nat) (s0_0:List Int) (s0_1:Int) (s0_2:Int) (a1:Int) (r1:Int) (r2:Int) (r3:Int) (w0 w:World) (hI:IsS132 w0 w g s0_0 s0_1 s0_2) (hB:Below w0.heap.size w0 w) (h:spec_l1Below.f s0_0 s0_1 s0_2 a1=some (r1,r2,r3)):
  Calls Try.prog 143 #[.pointer (some ⟨g,0,none⟩), .int .i64 a1] w fun e w'=>e= .returned (.int .i64 r1)∧IsS132 w0 w' g s0_0 r2 r3∧Below w0.heap.size w0 w'∧KeepBut w w' g none:=by
 have HI0:=Aside0.mk hI
 have HK:=Aside0.mk (zhc w g none)
 have HL:=Aside0.mk hB.size
 clear hI
 have HW0:=Aside0.mk hB.size
 have HB:=Aside0.mk hB
 clear hB
 have H:(if a1≤0 then(some (0,s0_1,s0_2)) else(if a1≤256 then((spec_l1Byte.f s0_0 s0_1 s0_2).bind fun bt746=>(if a1=0 then(none) else(some (Int.tmod bt746.1 a1,bt746.2.1,bt746.2.2)))) else((spec_l1Byte.f s0_0 s0_1 s0_2).bind fun bt749=>((spec_l1Byte.f s0_0 bt749.2.1 bt749.2.2).bind fun bt752=>((spec_l1Byte.f s0_0 bt752.2.1 bt752.2.2).bind fun bt755=>((spec_l1Byte.f s0_0 bt755.2.1 bt755.2.2).bind fun bt758=>(if a1=0 then(none) else(some (Int.tmod (wrap64 ((wrap64 ((wrap64 ((wrap64 (bt749.1*16777216))+(wrap64 (bt752.1*65536))))+(wrap64 (bt755.1*256))))+bt758.1)) a1,bt758.2.1,bt758.2.2)))))))))=some (r1,r2,r3):=h
 clear h
 by_cases c3:a1≤0
 ·rw[if_pos c3] at H
  have o0:=zae c3
  clear c3
  simp only[zaz,zbn] at H
  obtain⟨rfl,rfl,rfl⟩:=H
  exact spec_l1Below.wk
 rw[if_neg c3] at H
 have o0:=zbf c3
 clear c3
 by_cases c4:a1≤256
 ·rw[if_pos c4] at H
  have B0:=zae c4
  clear c4
  obtain⟨⟨t746,t747,t748⟩,A5,H⟩:=bnd H
  try dsimp only at H
  by_cases c6:a1=0
  ·rw[if_pos c6] at H
   exact absurd H (by simp)
  rw[if_neg c6] at H
  have E0:=zau.mpr c6
  have F0:=zcz.mpr c6
  simp only[zaz,zbn] at H
  obtain⟨rfl,rfl,rfl⟩:=H
  exact spec_l1Below.wk
 rw[if_neg c4] at H
 have B0:=zbf c4
 clear c4
 obtain⟨⟨t749,t750,t751⟩,A8,H⟩:=bnd H
 try dsimp only at H
 obtain⟨⟨t752,t753,t754⟩,A9,H⟩:=bnd H
 try dsimp only at H
 obtain⟨⟨t755,t756,t757⟩,A10,H⟩:=bnd H
 try dsimp only at H
 obtain⟨⟨t758,t759,t760⟩,A11,H⟩:=bnd H
 try dsimp only at H
 by_cases c12:a1=0
 ·rw[if_pos c12] at H
  exact absurd H (by simp)
 rw[if_neg c12] at H
 have C0:=zau.mpr c12
 have D0:=zcz.mpr c12
 simp only[zaz,zbn] at H
 obtain⟨rfl,rfl,rfl⟩:=H
 exact spec_l1Below.wk
def spec_l1Pick.f (s0_0:List Int) (s0_1:Int) (s0_2:Int) (l1:List ByteArray):Option (ByteArray×Int×Int):=(spec_l1Below.f s0_0 s0_1 s0_2 (l1.length:Int)).bind fun bt761=>(if 0≤bt761.1 then(if bt761.1<(l1.length:Int) then(some (rdOf ByteArray.empty l1 bt761.1,bt761.2.1,bt761.2.2)) else(none)) else(none))
theorem spec_l1Pick.calls (g:Nat) (s0_0:List Int) (s0_1:Int) (s0_2:Int) (A1:Option Addr) (c1:Nat) (l1:List ByteArray) (r1:ByteArray) (r2:Int) (r3:Int) (w0 w:World) (hI:IsS132 w0 w g s0_0 s0_1 s0_2) (hB:Below w0.heap.size w0 w) (hr1:Kd.C Kd.string w A1 l1.length l1) (hc1:l1.length≤c1) (hf1:∀ ad,A1=some ad→0<l1.length→ad.block≠g) (h:spec_l1Pick.f s0_0 s0_1 s0_2 l1=some (r1,r2,r3)):
  Calls Try.prog 145 #[.pointer (some ⟨g,0,none⟩), .slice A1 l1.length c1] w fun e w'=>e= .returned (.string r1)∧IsS132 w0 w' g s0_0 r2 r3∧Below w0.heap.size w0 w'∧KeepBut w w' g none:=by
 have I0:=Aside0.mk hr1
 have L0:=Aside0.mk hc1
 clear hr1 hc1
 have HI0:=Aside0.mk hI
 have HK:=Aside0.mk (zhc w g none)
 have HL:=Aside0.mk hB.size
 clear hI
 have HW0:=Aside0.mk hB.size
 have HB:=Aside0.mk hB
 clear hB
 have H:((spec_l1Below.f s0_0 s0_1 s0_2 (l1.length:Int)).bind fun bt761=>(if 0≤bt761.1 then(if bt761.1<(l1.length:Int) then(some (rdOf ByteArray.empty l1 bt761.1,bt761.2.1,bt761.2.2)) else(none)) else(none)))=some (r1,r2,r3):=h
 clear h
 obtain⟨⟨B0,F0,G0⟩,A3,H⟩:=bnd H
 try dsimp only at H
 by_cases c4:0≤B0
 ·rw[if_pos c4] at H
  have J0:=zae c4
  clear c4
  by_cases c5:B0<(l1.length:Int)
  ·rw[if_pos c5] at H
   have K0:=zae c5
   clear c5
   simp only[zaz,zbn] at H
   obtain⟨rfl,rfl,rfl⟩:=H
   go_enter Try.func145,Try.ntmps145
   go_wp2_with (first | (refine jgc 143 ?_;refine jgs 9 Try.func143 #[.pointer (some ⟨g,0,none⟩), .int .i64 (l1.length:Int)] ?_;(with_reducible refine(spec_l1Below.calls g s0_0 s0_1 s0_2 (l1.length:Int) B0 F0 G0 w0 _ ?side1 ?side2 A3.out).mono ?_);(case side1=>repeat(first | (with_reducible first | exact HI0.out | apply IsS132.alloc | apply IsS132.drewN | apply IsS132.drew | apply IsS132.set_1 | apply IsS132.set_2) | exact HI0.out));(case side2=>repeat(first | (with_reducible first | exact HB.out | apply zbe | apply zat | apply zba | refine zav ?_ (IsS132.ge HI0.out)) | exact HB.out));rintro e w6 ⟨rfl,hi,hb,hk⟩;refine⟨_,rfl,?_⟩;have n_:=jA3 (zay jk hk (.inl rfl)) (hb) (hi);clear HK HB HI0;obtain⟨HK,HB,HI0⟩:=n_;(try clear hb);(try clear hb2);(try clear hk);(try clear hi);have C0:0≤(B0:Int):=zad jab;have D0:B0<(l1.length:Int):=zad jab;obtain⟨E0,H0,o0⟩:=Kd.at_string I0.out B0 C0 D0;cases H0;replace o0:=keep_cell HK.out o0 (by first | (rw[add_block];exact hf1 _ rfl (by omega)) | exact hf1 _ rfl (by omega) | exact hf1 E0 rfl (by omega));replace C0:=zbr C0;replace D0:=zbr D0))
   go_ret
   exact⟨jex,by repeat(first | (with_reducible first | exact HI0.out | apply IsS132.alloc | apply IsS132.drewN | apply IsS132.drew | apply IsS132.set_1 | apply IsS132.set_2) | exact HI0.out),by repeat(first | (with_reducible first | exact HB.out | apply zbe | apply zat | apply zba | refine zav ?_ (IsS132.ge HI0.out)) | exact HB.out),by repeat(first | (with_reducible first | exact HK.out | apply zep | apply zfi | apply zfx | apply zfj) | exact HK.out)⟩
  rw[if_neg c5] at H
  exact absurd H (by simp)
 rw[if_neg c4] at H
 exact absurd H (by simp)
def spec_l13DrawRoute.f (s0_0:List Int) (s0_1:Int) (s0_2:Int):Option (ByteArray×Int×Int):=(spec_l1Pick.f s0_0 s0_1 s0_2 (([(⟨#[48,48,48,48,48,48,48,48,48,48,48,48,48,48,48,48]⟩:ByteArray),(⟨#[48,48,48,48,48,48,48,48,48,48,48,48,48,48,102,102]⟩:ByteArray),(⟨#[97,98,99,100,101,102,48,49,50,51,52,53,54,55,56,57]⟩:ByteArray)]:List ByteArray))).bind fun bt768=>(some (bt768.1,bt768.2.1,bt768.2.2))
theorem spec_l13DrawRoute.calls (g:Nat) (s0_0:List Int) (s0_1:Int) (s0_2:Int) (r1:ByteArray) (r2:Int) (r3:Int) (w0 w:World) (hI:IsS132 w0 w g s0_0 s0_1 s0_2) (hB:Below w0.heap.size w0 w) (h:spec_l13DrawRoute.f s0_0 s0_1 s0_2=some (r1,r2,r3)):
  Calls Try.prog 121 #[.pointer (some ⟨g,0,none⟩)] w fun e w'=>e= .returned (.string r1)∧IsS132 w0 w' g s0_0 r2 r3∧Below w0.heap.size w0 w'∧KeepBut w w' g none:=by
 have HI0:=Aside0.mk hI
 have HK:=Aside0.mk (zhc w g none)
 have HL:=Aside0.mk hB.size
 clear hI
 have HW0:=Aside0.mk hB.size
 have HB:=Aside0.mk hB
 clear hB
 have H:((spec_l1Pick.f s0_0 s0_1 s0_2 (([(⟨#[48,48,48,48,48,48,48,48,48,48,48,48,48,48,48,48]⟩:ByteArray),(⟨#[48,48,48,48,48,48,48,48,48,48,48,48,48,48,102,102]⟩:ByteArray),(⟨#[97,98,99,100,101,102,48,49,50,51,52,53,54,55,56,57]⟩:ByteArray)]:List ByteArray))).bind fun bt768=>(some (bt768.1,bt768.2.1,bt768.2.2)))=some (r1,r2,r3):=h
 clear h
 obtain⟨D0,B0⟩:∃ y_:List ByteArray,y_=(([(⟨#[48,48,48,48,48,48,48,48,48,48,48,48,48,48,48,48]⟩:ByteArray),(⟨#[48,48,48,48,48,48,48,48,48,48,48,48,48,48,102,102]⟩:ByteArray),(⟨#[97,98,99,100,101,102,48,49,50,51,52,53,54,55,56,57]⟩:ByteArray)]:List ByteArray)):=⟨_,rfl⟩
 replace H:((spec_l1Pick.f s0_0 s0_1 s0_2 D0).bind fun bt768=>(some (bt768.1,bt768.2.1,bt768.2.2)))=some (r1,r2,r3):=jrw B0 H
 have C0:=Aside0.mk B0
 clear B0
 obtain⟨⟨F0,G0,H0⟩,A2,H⟩:=bnd H
 try dsimp only at H
 simp only[zaz,zbn] at H
 obtain⟨rfl,rfl,rfl⟩:=H
 go_enter Try.func121,Try.ntmps121
 go_wp2_with (first | (refine jgd 4 ?_;refine Kd.R_lit Kd.string _ 9 ?hg (N:=4) ?hd (xs:=([(⟨#[48,48,48,48,48,48,48,48,48,48,48,48,48,48,48,48]⟩:ByteArray),(⟨#[48,48,48,48,48,48,48,48,48,48,48,48,48,48,102,102]⟩:ByteArray),(⟨#[97,98,99,100,101,102,48,49,50,51,52,53,54,55,56,57]⟩:ByteArray)]:List ByteArray)) (inner:=[.string (⟨#[48,48,48,48,48,48,48,48,48,48,48,48,48,48,48,48]⟩:ByteArray), .string (⟨#[48,48,48,48,48,48,48,48,48,48,48,48,48,48,102,102]⟩:ByteArray), .string (⟨#[97,98,99,100,101,102,48,49,50,51,52,53,54,55,56,57]⟩:ByteArray)]) (ok:=fun _=>True) (okp:=fun _=>True) ?hr ?hp (fun _ hk=>hk) trivial (zbo _ _) (zaf _) (by simp) ?_;(case hd=>rfl);(case hg=>rfl);(case hr=>first | (go_simp;done) | (go_simp;rfl));(case hp=>exact(zdx (show Kd.M Kd.string _ _ _ (⟨#[48,48,48,48,48,48,48,48,48,48,48,48,48,48,48,48]⟩:ByteArray) [.string (⟨#[48,48,48,48,48,48,48,48,48,48,48,48,48,48,48,48]⟩:ByteArray)] from rfl) (zdx (show Kd.M Kd.string _ _ _ (⟨#[48,48,48,48,48,48,48,48,48,48,48,48,48,48,102,102]⟩:ByteArray) [.string (⟨#[48,48,48,48,48,48,48,48,48,48,48,48,48,48,102,102]⟩:ByteArray)] from rfl) (zdx (show Kd.M Kd.string _ _ _ (⟨#[97,98,99,100,101,102,48,49,50,51,52,53,54,55,56,57]⟩:ByteArray) [.string (⟨#[97,98,99,100,101,102,48,49,50,51,52,53,54,55,56,57]⟩:ByteArray)] from rfl) (zfq _ _)))));intro v766 w3 E0 hb hg_ hnew_;clear hg_ hnew_;(first | rw[← C0.out] at E0 | (simp only[Int.reduceToNat] at E0;rw[← C0.out] at E0));have n_:=jA4 (zax E0 (zcy (w:=w) (g:=g) (row:=none) jk)) (IsS132.below (by repeat(first | (with_reducible first | exact HI0.out | apply IsS132.alloc | apply IsS132.drewN | apply IsS132.drew | apply IsS132.set_1 | apply IsS132.set_2) | exact HI0.out)) hb) (zay jk (zcu hb g none) (.inl rfl)) (zac (bs1 (IsS132.ge HI0.out)) hb);clear HI0 HK HB;obtain⟨o0,HI0,HK,HB⟩:=n_;clear hb E0;obtain⟨Ao5,co5,eo5⟩:=zbd o0.out;subst eo5) | (refine jgc 145 ?_;refine jgs 5 Try.func145 #[.pointer (some ⟨g,0,none⟩), .slice Ao5 D0.length co5] ?_;(with_reducible refine(spec_l1Pick.calls g s0_0 s0_1 s0_2 _ _ D0 F0 G0 H0 w0 _ ?side1 ?side2 ?side3 ?side4 ?side5 A2.out).mono ?_);(case side1=>repeat(first | (with_reducible first | exact HI0.out | apply IsS132.alloc | apply IsS132.drewN | apply IsS132.drew | apply IsS132.set_1 | apply IsS132.set_2) | exact HI0.out));(case side2=>repeat(first | (with_reducible first | exact HB.out | apply zbe | apply zat | apply zba | refine zav ?_ (IsS132.ge HI0.out)) | exact HB.out));(case side3=>repeat(first | exact(zbp o0.out).2.2 | (with_reducible first | apply zdd | apply zdq | apply zeb)));(case side4=>exact(zbp o0.out).2.1);(case side5=>exact far_slice (IsS132.own_ne HI0.out o0.out (by decide)));rintro e w6 ⟨rfl,hi,hb,hk⟩;refine⟨_,rfl,?_⟩;have n_:=jA4 (zam (zef (IsS132.apart (show IsS132 w0 _ g s0_0 s0_1 s0_2 from by repeat(first | (with_reducible first | exact HI0.out | apply IsS132.alloc | apply IsS132.drewN | apply IsS132.drew | apply IsS132.set_1 | apply IsS132.set_2) | exact HI0.out)) (pR o0.out) (by decide)) hk (fun _ h=>h.2)) (fun _ h=>h.1)) (zay jk hk (.inl rfl)) (hb) (hi);clear o0 HK HB HI0;obtain⟨o0,HK,HB,HI0⟩:=n_;(try clear hb);(try clear hb2);(try clear hk);(try clear hi)))
 go_ret
 exact⟨jex,by repeat(first | (with_reducible first | exact HI0.out | apply IsS132.alloc | apply IsS132.drewN | apply IsS132.drew | apply IsS132.set_1 | apply IsS132.set_2) | exact HI0.out),by repeat(first | (with_reducible first | exact HB.out | apply zbe | apply zat | apply zba | refine zav ?_ (IsS132.ge HI0.out)) | exact HB.out),by repeat(first | (with_reducible first | exact HK.out | apply zep | apply zfi | apply zfx | apply zfj) | exact HK.out)⟩
end Go.Proofs.Ytlalkldjpniakaa.P
