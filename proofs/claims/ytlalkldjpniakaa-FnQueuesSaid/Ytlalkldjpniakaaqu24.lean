import Derived.Test.Ytlalkldjpniakaaqu7
namespace Go.Proofs.Ytlalkldjpniakaa.P
open Go.RowKit Go.Proofs.YtlalkldjpniakaaW.PrintWords Go.Proofs.YtlalkldjpniakaaW.PrintLast Go.Proofs.YtlalkldjpniakaaW.PrintMore
attribute [local go_sem] zbr zbs zch zci zbk zbl zbt zbu -- for this text's walks alone
set_option linter.unusedVariables false
set_option linter.unusedSimpArgs false
set_option maxHeartbeats 8000000
set_option maxRecDepth 100000

def IsS132 (w0 W:World) (g:Nat) (f0:List Int) (f1:Int) (f2:Int):Prop:=∃ A0 c0,W.heap[g]? =some (.cells #[.slice A0 f0.length c0, .int .i64 f1, .int .i64 f2] 132 (0,0))∧w0.heap.size≤g∧Kd.C (Kd.int .u8) w0 A0 f0.length f0
theorem IsS132.grown {w0 W:World} {g:Nat} {f0:List Int} {f1:Int} {f2:Int} {W1:World} {row:Option Nat} (h:IsS132 w0 W g f0 f1 f2) (hw:W.grownBy W1 row) (hne:some g≠row):IsS132 w0 W1 g f0 f1 f2:=by
 obtain⟨A0,c0,hb,hg,hr0⟩:=h
 exact⟨A0,c0,zen hb hw hne,hg,hr0⟩
theorem IsS132.own_neN {w0 W:World} {g:Nat} {f0:List Int} {f1:Int} {f2:Int} {α:Type} {d:Kd α} {e:Nat} {base:Nat} {ok:Nat→Prop} {v:Value} {xs:List α} (h:IsS132 w0 W g f0 f1 f2) (ho:Kd.N d e W base ok v xs) (ht:e≠132):some g≠v.ownBlock:=by
 obtain⟨A0,c0,hb,hg,hr0⟩:=h
 exact Kd.N_ne ho hb ht
theorem IsS132.fresh {w0 W:World} {g:Nat} {f0:List Int} {f1:Int} {f2:Int} (h:IsS132 w0 W g f0 f1 f2):∀ k,W.heap.size≤k→k≠g:=by
 obtain⟨A0,c0,hb,hg,hr0⟩:=h
 exact zek hb
theorem IsS132.kept {w0 W:World} {g:Nat} {f0:List Int} {f1:Int} {f2:Int} {W1:World} {S:Nat→Prop} (h:IsS132 w0 W g f0 f1 f2) (hk:Kept W W1 S) (hne:¬S g):IsS132 w0 W1 g f0 f1 f2:=by
 obtain⟨A0,c0,hb,hg,hr0⟩:=h
 exact⟨A0,c0,blk_kept hb hk hne,hg,hr0⟩
theorem IsS132.below {w0 W:World} {g:Nat} {f0:List Int} {f1:Int} {f2:Int} {W1:World} (h:IsS132 w0 W g f0 f1 f2) (hw:Below W.heap.size W W1):IsS132 w0 W1 g f0 f1 f2:=h.grown (grown_of_below hw none) (by simp)
theorem IsS132.alloc {w0 W:World} {g:Nat} {f0:List Int} {f1:Int} {f2:Int} (h:IsS132 w0 W g f0 f1 f2) (o:Obj):IsS132 w0 (W.alloc o) g f0 f1 f2:=h.below (zap (zbe _ _) o)
theorem IsS132.drewN {w0 W:World} {g:Nat} {f0:List Int} {f1:Int} {f2:Int} (h:IsS132 w0 W g f0 f1 f2) (m:Nat):IsS132 w0 (W.drewN m) g f0 f1 f2:=h
theorem IsS132.drew {w0 W:World} {g:Nat} {f0:List Int} {f1:Int} {f2:Int} (h:IsS132 w0 W g f0 f1 f2):IsS132 w0 W.drew g f0 f1 f2:=h
theorem IsS132.at_ {w0 W:World} {g:Nat} {f0:List Int} {f1:Int} {f2:Int} {w':World} {m:Nat} (hq:W.drewN m=w') (h:IsS132 w0 W g f0 f1 f2):IsS132 w0 w' g f0 f1 f2:=by subst hq;exact IsS132.drewN h m
theorem IsS132.apart {w0 W:World} {g:Nat} {f0:List Int} {f1:Int} {f2:Int} {α:Type} {d:Kd α} {e:Nat} {base:Nat} {ok:Nat→Prop} {v:Value} {xs:List α} (h:IsS132 w0 W g f0 f1 f2) (ho:d.R e W base ok v xs) (ht:∀ q,q∈e :: d.E→q≠132):d.R e W base (fun k=>ok k∧k≠g) v xs:=by
 obtain⟨A0,c0,hb,hg,hr0⟩:=h
 exact zby ho hb ht
theorem IsS132.own_ne {w0 W:World} {g:Nat} {f0:List Int} {f1:Int} {f2:Int} {α:Type} {d:Kd α} {e:Nat} {base:Nat} {ok:Nat→Prop} {v:Value} {xs:List α} (h:IsS132 w0 W g f0 f1 f2) (ho:d.R e W base ok v xs) (ht:e≠132):some g≠v.ownBlock:=by
 obtain⟨A0,c0,hb,hg,hr0⟩:=h
 exact Kd.R_ne ho hb ht
theorem IsS132.apartQ {w0 W:World} {g:Nat} {f0:List Int} {f1:Int} {f2:Int} {α:Type} {d:Kd α} {e:Nat} {base:Nat} {ok:Nat→Prop} {v:Value} {xs:List α} (h:IsS132 w0 W g f0 f1 f2) (ho:d.Q e W base ok v xs) (ht:∀ q,q∈e :: d.E→q≠132):d.Q e W base (fun k=>ok k∧k≠g) v xs:=by
 obtain⟨A0,c0,hb,hg,hr0⟩:=h
 exact Kd.Q_types ho hb ht
theorem IsS132.own_neQ {w0 W:World} {g:Nat} {f0:List Int} {f1:Int} {f2:Int} {α:Type} {d:Kd α} {e:Nat} {base:Nat} {ok:Nat→Prop} {v:Value} {xs:List α} (h:IsS132 w0 W g f0 f1 f2) (ho:d.Q e W base ok v xs) (ht:e≠132):some g≠v.ownBlock:=by
 obtain⟨A0,c0,hb,hg,hr0⟩:=h
 exact Kd.Q_ne ho hb ht
theorem IsS132.apartS {w0 W:World} {g:Nat} {f0:List Int} {f1:Int} {f2:Int} {α:Type} {d:Kd α} {e:Nat} {base:Nat} {ok:Nat→Prop} {v:Value} {xs:List α} (h:IsS132 w0 W g f0 f1 f2) (ho:d.S e W base ok v xs) (ht:∀ q,q∈e :: d.E→q≠132):d.S e W base (fun k=>ok k∧k≠g) v xs:=by
 obtain⟨A0,c0,hb,hg,hr0⟩:=h
 exact Kd.S_types ho hb ht
theorem IsS132.own_neS {w0 W:World} {g:Nat} {f0:List Int} {f1:Int} {f2:Int} {α:Type} {d:Kd α} {e:Nat} {base:Nat} {ok:Nat→Prop} {v:Value} {xs:List α} (h:IsS132 w0 W g f0 f1 f2) (ho:d.S e W base ok v xs) (ht:e≠132):some g≠v.ownBlock:=by
 obtain⟨A0,c0,hb,hg,hr0⟩:=h
 exact Kd.S_ne ho hb ht
theorem IsS132.lt {w0 W:World} {g:Nat} {f0:List Int} {f1:Int} {f2:Int} (h:IsS132 w0 W g f0 f1 f2):g<W.heap.size:=by
 obtain⟨A0,c0,hb,hg,hr0⟩:=h
 exact blk_lt hb
theorem IsS132.ge {w0 W:World} {g:Nat} {f0:List Int} {f1:Int} {f2:Int} (h:IsS132 w0 W g f0 f1 f2):w0.heap.size≤g:=by
 obtain⟨A0,c0,hb,hg,hr0⟩:=h
 exact hg
theorem IsS132.ne_blk {w0 W:World} {g:Nat} {f0:List Int} {f1:Int} {f2:Int} {a:Nat} {cs:Array Value} {t:TypeId} {fr:Nat×Nat} (h:IsS132 w0 W g f0 f1 f2) (hb2:W.heap[a]? =some (.cells cs t fr)) (ht:t≠132):g≠a:=by
 obtain⟨A0,c0,hb,hg,hr0⟩:=h
 rintro rfl
 rw[hb] at hb2
 injection hb2 with hb2
 injection hb2 with _ ht2
 exact ht ht2.symm
theorem IsS132.far {w0 W:World} {g:Nat} {f0:List Int} {f1:Int} {f2:Int} {p:Addr} (h:IsS132 w0 W g f0 f1 f2) (hne:g≠p.block) (u:Value):IsS132 w0 (W.setCell p u) g f0 f1 f2:=by
 obtain⟨A0,c0,hb,hg,hr0⟩:=h
 exact⟨A0,c0,zed hb hne u,hg,hr0⟩
theorem cellS132_0 {W:World} {g:Nat} {A0:Option Addr} {c0:Nat} {f0:List Int} {f1:Int} {f2:Int} (h:W.heap[g]? =some (.cells #[.slice A0 f0.length c0, .int .i64 f1, .int .i64 f2] 132 (0,0))):W.cell? ⟨g,0,none⟩=some (.slice A0 f0.length c0):=(blk_cell h 0).trans rfl
theorem cellS132_1 {W:World} {g:Nat} {A0:Option Addr} {c0:Nat} {f0:List Int} {f1:Int} {f2:Int} (h:W.heap[g]? =some (.cells #[.slice A0 f0.length c0, .int .i64 f1, .int .i64 f2] 132 (0,0))):W.cell? ⟨g,1,none⟩=some (.int .i64 f1):=(blk_cell h 1).trans rfl
theorem IsS132.set_1 {w0 W:World} {g:Nat} {f0:List Int} {f1:Int} {f2:Int} (h:IsS132 w0 W g f0 f1 f2) (x:Int):IsS132 w0 (W.setCell ⟨g,1,none⟩ (.int .i64 x)) g f0 x f2:=by
 obtain⟨A0,c0,hb,hg,hr0⟩:=h
 exact⟨A0,c0,by simpa using blk_set hb 1 (.int .i64 x),hg,hr0⟩
theorem cellS132_2 {W:World} {g:Nat} {A0:Option Addr} {c0:Nat} {f0:List Int} {f1:Int} {f2:Int} (h:W.heap[g]? =some (.cells #[.slice A0 f0.length c0, .int .i64 f1, .int .i64 f2] 132 (0,0))):W.cell? ⟨g,2,none⟩=some (.int .i64 f2):=(blk_cell h 2).trans rfl
theorem IsS132.set_2 {w0 W:World} {g:Nat} {f0:List Int} {f1:Int} {f2:Int} (h:IsS132 w0 W g f0 f1 f2) (x:Int):IsS132 w0 (W.setCell ⟨g,2,none⟩ (.int .i64 x)) g f0 f1 x:=by
 obtain⟨A0,c0,hb,hg,hr0⟩:=h
 exact⟨A0,c0,by simpa using blk_set hb 2 (.int .i64 x),hg,hr0⟩
theorem IsS132.new (w0 W:World) (A0:Option Addr) (c0:Nat) (f0:List Int) (f1:Int) (f2:Int) (hB:Below w0.heap.size w0 W) (hr0:Kd.C (Kd.int .u8) w0 A0 f0.length f0):IsS132 w0 (W.alloc (.cells #[.slice A0 f0.length c0, .int .i64 f1, .int .i64 f2] 132)) W.heap.size f0 f1 f2:=⟨A0,c0,by simpa using heap_alloc_new W _,hB.size,hr0⟩

def spec_l1New.l0:Nat→List Int→Int→Int→Option (List Int×Int×Int)
 | 0,_,_,_=>none
 | k+1,x0,x3,x4=>if x4<(x0.length:Int) then(if x4<4000 then(if 0≤x4 then(spec_l1New.l0 k x0 (Go.bits .and .i64 (wrap64 ((wrap64 ((wrap64 (x3*131))+(wrap64 (rd x0 x4))))+7)) 1073741823) (wrap64 (x4+1))) else(none)) else(some (x0,0,x3))) else(some (x0,0,x3))
def spec_l1New.f (k:Nat) (l0:List Int):Option (List Int×Int×Int):=spec_l1New.l0 k l0 (wrap64 (27508+(l0.length:Int))) 0
theorem spec_l1New.mono_l:∀ k,(∀ y0 y1 y2,LeO (spec_l1New.l0 k y0 y1 y2) (spec_l1New.l0 (k+1) y0 y1 y2))
 | 0=>fun _ _ _ r h=>by simp [spec_l1New.l0] at h
 | k+1=>by
  have ih0:=spec_l1New.mono_l k
  intro y0 y1 y2
  unfold spec_l1New.l0
  exact mt
theorem spec_l1New.mono:∀ a0 k,LeO (spec_l1New.f k a0) (spec_l1New.f (k+1) a0):=by
 intro a0 k
 have ih0:=spec_l1New.mono_l k
 unfold spec_l1New.f
 exact mt
theorem spec_l1New.calls (k:Nat) (A0:Option Addr) (c0:Nat) (l0:List Int) (r1:List Int) (r2:Int) (r3:Int) (w0 w:World) (hB:Below w0.heap.size w0 w) (hr0:Kd.C (Kd.int .u8) w0 A0 l0.length l0) (hc0:l0.length≤c0) (h:spec_l1New.f k l0=some (r1,r2,r3)):
  Calls Try.prog 117 #[.slice A0 l0.length c0] w fun e w'=>∃ g_:Nat,e= .returned (.pointer (some ⟨g_,0,none⟩))∧IsS132 w0 w' g_ r1 r2 r3∧Below w0.heap.size w0 w'∧Below w.heap.size w w':=by
 have hu132:=Try.underlying132
 have HR0:=Aside0.mk hr0
 have HC0:=Aside0.mk hc0
 clear hr0 hc0
 have HBW:=Aside0.mk (zbe w.heap.size w)
 have HW0:=Aside0.mk hB.size
 have HB:=Aside0.mk hB
 clear hB
 have H:(spec_l1New.l0 k l0 (wrap64 (27508+(l0.length:Int))) 0)=some (r1,r2,r3):=h
 clear h
 have H':=Aside0.mk H
 clear H
 go_enter Try.func117,Try.ntmps117
 go_wp2
 go_loopg [3,4] k (fun kq v3 v4 w'=>∃ (x3_1:Int) (x4_1:Int),v3= .int .i64 x3_1∧v4= .int .i64 x4_1∧Aside0 (spec_l1New.l0 kq l0 x3_1 x4_1=some (r1,r2,r3))∧Aside0 (kq≤k)∧Aside0 (Below w0.heap.size w0 w')∧Aside0 (Below w.heap.size w w'))
 case atStart=>exact⟨(wrap64 (27508+(l0.length:Int))),(0),jer,jer,H',⟨zbc _⟩,⟨bq⟩,⟨by repeat(first | (with_reducible first | exact HBW.out | apply zap | apply zai | apply zan) | exact HBW.out)⟩⟩
 case round=>
  clear H'
  try clear c1
  obtain⟨x3_1,x4_1,rfl,rfl,HA,HK1,HB,HBW⟩:=hrel
  cases gk with
  | zero=>exact absurd HA.out (by simp [spec_l1New.l0])
  | succ k1=>
   have H:=HA.out
   clear HA
   simp only[spec_l1New.l0] at H
   by_cases c2:x4_1<(l0.length:Int)
   ·rw[if_pos c2] at H
    have c2b0:=zag c2
    clear c2
    by_cases c3:x4_1<4000
    ·rw[if_pos c3] at H
     have c3b0:=zag c3
     clear c3
     by_cases c4:0≤x4_1
     ·rw[if_pos c4] at H
      have c4b0:=zag c4
      clear c4
      have H':=Aside0.mk H
      clear H
      have p742:0≤(x4_1:Int):=zac jab
      have q742:x4_1<(l0.length:Int):=zac jab
      obtain⟨ad742,e742,hx742_0⟩:=Kd.at_int HR0.out x4_1 p742 q742
      cases e742
      replace hx742_0:=zaz HB.out hx742_0
      replace p742:=zbd p742
      replace q742:=zbd q742
      go_wp2
      go_roundg k1
      case measure=>have:=HK1.out;omega
      case rel=>exact⟨(Go.bits .and .i64 (wrap64 ((wrap64 ((wrap64 (x3_1*131))+(wrap64 (rd l0 x4_1))))+7)) 1073741823),(wrap64 (x4_1+1)),jer,jer,H',⟨by have:=HK1.out;omega⟩,⟨bq⟩,⟨by repeat(first | (with_reducible first | exact HBW.out | apply zap | apply zai | apply zan) | exact HBW.out)⟩⟩
     rw[if_neg c4] at H
     exact absurd H (by simp)
    rw[if_neg c3] at H
    have c3b0:=zaw c3
    clear c3
    simp only[zax,zay] at H
    obtain⟨rfl,rfl,rfl⟩:=H
    go_wp2_with (first | (refine jgd 31 ?_;refine bx 31 (#[.slice A0 l0.length c0, .int .i64 0, .int .i64 x3_1]) 132 ?_;intro gb743 hg w5 hbox hb;have n_:=jA5 (zah HBW.out hb) (zah bq hb) (hbox) (by rw[hg];exact(zav (by repeat(first | (with_reducible first | exact HBW.out | apply zap | apply zai | apply zan) | exact HBW.out))):w.heap.size≤gb743) (zcq HW0.out (by rw[hg];exact(zav (by repeat(first | (with_reducible first | exact HBW.out | apply zap | apply zai | apply zan) | exact HBW.out))):w.heap.size≤gb743):w0.heap.size≤gb743);clear HBW HB;obtain⟨HBW,HB,BK743,GW743,GE743⟩:=n_;clear hb hbox hg))
    go_ret
    exact⟨_,rfl,(show IsS132 w0 _ gb743 l0 0 x3_1 from⟨_,_,by(with_reducible repeat(first | refine zal ?_ _ | refine zar ?_ | refine zam ?_ _));exact BK743.out,GE743.out,HR0.out⟩),by repeat(first | (with_reducible first | exact HB.out | apply zap | apply zai | apply zan | refine zao ?_ GE743.out) | exact HB.out),by repeat(first | (with_reducible first | exact HBW.out | apply zap | apply zai | apply zan | refine zao ?_ GW743.out) | exact HBW.out)⟩
   rw[if_neg c2] at H
   have c2b0:=zaw c2
   clear c2
   simp only[zax,zay] at H
   obtain⟨rfl,rfl,rfl⟩:=H
   go_wp2_with (first | (refine jgd 31 ?_;refine bx 31 (#[.slice A0 l0.length c0, .int .i64 0, .int .i64 x3_1]) 132 ?_;intro gb744 hg w6 hbox hb;have n_:=jA5 (zah HBW.out hb) (zah bq hb) (hbox) (by rw[hg];exact(zav (by repeat(first | (with_reducible first | exact HBW.out | apply zap | apply zai | apply zan) | exact HBW.out))):w.heap.size≤gb744) (zcq HW0.out (by rw[hg];exact(zav (by repeat(first | (with_reducible first | exact HBW.out | apply zap | apply zai | apply zan) | exact HBW.out))):w.heap.size≤gb744):w0.heap.size≤gb744);clear HBW HB;obtain⟨HBW,HB,BK744,GW744,GE744⟩:=n_;clear hb hbox hg))
   go_ret
   exact⟨_,rfl,(show IsS132 w0 _ gb744 l0 0 x3_1 from⟨_,_,by(with_reducible repeat(first | refine zal ?_ _ | refine zar ?_ | refine zam ?_ _));exact BK744.out,GE744.out,HR0.out⟩),by repeat(first | (with_reducible first | exact HB.out | apply zap | apply zai | apply zan | refine zao ?_ GE744.out) | exact HB.out),by repeat(first | (with_reducible first | exact HBW.out | apply zap | apply zai | apply zan | refine zao ?_ GW744.out) | exact HBW.out)⟩
def spec_l1Byte.f (s0_0:List Int) (s0_1:Int) (s0_2:Int):Option (Int×Int×Int):=if s0_1<(s0_0.length:Int) then(if 0≤s0_1 then(some (Go.bits .and .i64 (wrap64 ((Go.bits .and .i64 (Go.bits .xor .i64 ((wrap64 ((wrap64 (s0_2*6364136223846793005))+1442695040888963407)) / 8589934592) ((wrap64 ((wrap64 (s0_2*6364136223846793005))+1442695040888963407)) / 35184372088832)) 255)+(wrap64 (rd s0_0 s0_1)))) 255,wrap64 (s0_1+1),wrap64 ((wrap64 (s0_2*6364136223846793005))+1442695040888963407))) else(none)) else(some (Go.bits .and .i64 (Go.bits .xor .i64 ((wrap64 ((wrap64 (s0_2*6364136223846793005))+1442695040888963407)) / 8589934592) ((wrap64 ((wrap64 (s0_2*6364136223846793005))+1442695040888963407)) / 35184372088832)) 255,s0_1,wrap64 ((wrap64 (s0_2*6364136223846793005))+1442695040888963407)))
theorem spec_l1Byte.calls (g:Nat) (s0_0:List Int) (s0_1:Int) (s0_2:Int) (r1:Int) (r2:Int) (r3:Int) (w0 w:World) (hI:IsS132 w0 w g s0_0 s0_1 s0_2) (hB:Below w0.heap.size w0 w) (h:spec_l1Byte.f s0_0 s0_1 s0_2=some (r1,r2,r3)):
  Calls Try.prog 151 #[.pointer (some ⟨g,0,none⟩)] w fun e w'=>e= .returned (.int .i64 r1)∧IsS132 w0 w' g s0_0 r2 r3∧Below w0.heap.size w0 w'∧KeepBut w w' g none:=by
 have HI0:=Aside0.mk hI
 have HK:=Aside0.mk (KeepBut.refl w g none)
 have HL:=Aside0.mk hB.size
 clear hI
 have HW0:=Aside0.mk hB.size
 have HB:=Aside0.mk hB
 clear hB
 have H:(if s0_1<(s0_0.length:Int) then(if 0≤s0_1 then(some (Go.bits .and .i64 (wrap64 ((Go.bits .and .i64 (Go.bits .xor .i64 ((wrap64 ((wrap64 (s0_2*6364136223846793005))+1442695040888963407)) / 8589934592) ((wrap64 ((wrap64 (s0_2*6364136223846793005))+1442695040888963407)) / 35184372088832)) 255)+(wrap64 (rd s0_0 s0_1)))) 255,wrap64 (s0_1+1),wrap64 ((wrap64 (s0_2*6364136223846793005))+1442695040888963407))) else(none)) else(some (Go.bits .and .i64 (Go.bits .xor .i64 ((wrap64 ((wrap64 (s0_2*6364136223846793005))+1442695040888963407)) / 8589934592) ((wrap64 ((wrap64 (s0_2*6364136223846793005))+1442695040888963407)) / 35184372088832)) 255,s0_1,wrap64 ((wrap64 (s0_2*6364136223846793005))+1442695040888963407))))=some (r1,r2,r3):=h
 clear h
 by_cases c2:s0_1<(s0_0.length:Int)
 ·rw[if_pos c2] at H
  have c2b0:=zag c2
  clear c2
  by_cases c3:0≤s0_1
  ·rw[if_pos c3] at H
   have c3b0:=zag c3
   clear c3
   simp only[zax,zay] at H
   obtain⟨rfl,rfl,rfl⟩:=H
   obtain⟨ASz4_0,cSz4_0,HGz4,hgz4,HSz4_0⟩:=HI0.out
   have hcz4_0:=cellS132_0 HGz4
   have hcz4_1:=cellS132_1 HGz4
   have hcz4_2:=cellS132_2 HGz4
   have hfz4_1:=blk_frozen HGz4 1
   have hfz4_2:=blk_frozen HGz4 2
   clear HGz4 hgz4
   have p745:0≤(s0_1:Int):=zac jab
   have q745:s0_1<(s0_0.length:Int):=zac jab
   obtain⟨ad745,e745,hx745_0⟩:=Kd.at_int HSz4_0 s0_1 p745 q745
   cases e745
   have hn745_0:ad745.block≠g:=Nat.ne_of_lt (zcm (by have:=World.block_lt_of_cell? _ _ hx745_0;first | rwa [add_block] at this | exact this) (IsS132.ge HI0.out))
   replace hx745_0:=zaz HB.out hx745_0
   replace hx745_0:=(cell_far (p:=⟨g,2,none⟩) (by first | (rw[add_block];exact hn745_0) | (show(Addr.add _ _).block≠_;rw[add_block];exact hn745_0) | exact hn745_0) (.int .i64 (wrap64 ((wrap64 (s0_2*6364136223846793005))+1442695040888963407)))).trans hx745_0
   (try have hy745_0:=fun(n_:Nat)=>(show(((w.drewN n_).setCell ⟨g,2,none⟩ (.int .i64 (wrap64 ((wrap64 (s0_2*6364136223846793005))+1442695040888963407))))).cell? _=some _ from hx745_0))
   clear hn745_0
   replace p745:=zbd p745
   replace q745:=zbd q745
   go_enter Try.func151,Try.ntmps151
   go_wp2
   repeat(go_quiet (fail);try go_wp2)
   go_ret
   exact⟨jex,by repeat(first | (with_reducible first | exact HI0.out | apply IsS132.alloc | apply IsS132.drewN | apply IsS132.drew | apply IsS132.set_1 | apply IsS132.set_2) | exact HI0.out),by repeat(first | (with_reducible first | exact HB.out | apply zap | apply zai | apply zan | refine zao ?_ (IsS132.ge HI0.out)) | exact HB.out),by repeat(first | (with_reducible first | exact HK.out | apply zcy | apply zdp | apply zef | apply zdq) | exact HK.out)⟩
  rw[if_neg c3] at H
  exact absurd H (by simp)
 rw[if_neg c2] at H
 have c2b0:=zaw c2
 clear c2
 simp only[zax,zay] at H
 obtain⟨rfl,rfl,rfl⟩:=H
 obtain⟨ASz5_0,cSz5_0,HGz5,hgz5,HSz5_0⟩:=HI0.out
 have hcz5_0:=cellS132_0 HGz5
 have hcz5_1:=cellS132_1 HGz5
 have hcz5_2:=cellS132_2 HGz5
 have hfz5_1:=blk_frozen HGz5 1
 have hfz5_2:=blk_frozen HGz5 2
 clear HGz5 hgz5
 go_enter Try.func151,Try.ntmps151
 go_wp2
 repeat(go_quiet (fail);try go_wp2)
 go_ret
 exact⟨jex,by repeat(first | (with_reducible first | exact HI0.out | apply IsS132.alloc | apply IsS132.drewN | apply IsS132.drew | apply IsS132.set_1 | apply IsS132.set_2) | exact HI0.out),by repeat(first | (with_reducible first | exact HB.out | apply zap | apply zai | apply zan | refine zao ?_ (IsS132.ge HI0.out)) | exact HB.out),by repeat(first | (with_reducible first | exact HK.out | apply zcy | apply zdp | apply zef | apply zdq) | exact HK.out)⟩
end Go.Proofs.Ytlalkldjpniakaa.P
