import Derived.Test.Ytienlgcjohpphaale35
import Derived.Test.Ytienlgcjohpphaale30
import Derived.Test.Ytienlgcjohpphaale29
namespace Go.Proofs.Ytienlgcjohpphaa.P
open Go.RowKit Go.Proofs.YtienlgcjohpphaaW.PrintWords Go.Proofs.YtienlgcjohpphaaW.PrintLast Go.Proofs.YtienlgcjohpphaaW.PrintMore
attribute [local go_sem] zcn zco zdk zdl zce zcf zcp zcq -- for this text's walks alone
set_option linter.unusedVariables false
set_option linter.unusedSimpArgs false
set_option maxHeartbeats 8000000
set_option maxRecDepth 100000

def spec_l1DrawBytes.l0:Nat→List Int→Int→Int→List Int→Int→Int→Option (List Int×Int×Int)
 | 0,_,_,_,_,_,_=>none
 | k+1,x5,x6,x7,x1000,x1001,x1002=>if x7<x6 then((spec_l1Below.f x1000 x1001 x1002 256).bind fun bt546=>(if x5.length<140737488355328 then(spec_l1DrawBytes.l0 k (x5++[(bt546.1) % 256]) x6 (wrap64 (x7+1)) x1000 bt546.2.1 bt546.2.2) else(none))) else(some (x5,x1001,x1002))
def spec_l1DrawBytes.f (k:Nat) (s0_0:List Int) (s0_1:Int) (s0_2:Int) (a1:Int):Option (List Int×Int×Int):=(spec_l1Below.f s0_0 s0_1 s0_2 (wrap64 (a1+1))).bind fun bt543=>(spec_l1DrawBytes.l0 k (([]:List Int)) bt543.1 0 s0_0 bt543.2.1 bt543.2.2)
theorem spec_l1DrawBytes.mono_l:∀ k,(∀ y0 y1 y2 y3 y4 y5,LeO (spec_l1DrawBytes.l0 k y0 y1 y2 y3 y4 y5) (spec_l1DrawBytes.l0 (k+1) y0 y1 y2 y3 y4 y5))
 | 0=>fun _ _ _ _ _ _ r h=>by simp [spec_l1DrawBytes.l0] at h
 | k+1=>by
  have ih0:=spec_l1DrawBytes.mono_l k
  intro y0 y1 y2 y3 y4 y5
  unfold spec_l1DrawBytes.l0
  exact mt
theorem spec_l1DrawBytes.mono:∀ a0 a1 a2 a3 k,LeO (spec_l1DrawBytes.f k a0 a1 a2 a3) (spec_l1DrawBytes.f (k+1) a0 a1 a2 a3):=by
 intro a0 a1 a2 a3 k
 have ih0:=spec_l1DrawBytes.mono_l k
 unfold spec_l1DrawBytes.f
 exact mt
theorem spec_l1DrawBytes.calls (k:Nat) (g:Nat) (s0_0:List Int) (s0_1:Int) (s0_2:Int) (a1:Int) (r1:List Int) (r2:Int) (r3:Int) (w0 w:World) (hI:IsS85 w0 w g s0_0 s0_1 s0_2) (hB:Below w0.heap.size w0 w) (h:spec_l1DrawBytes.f k s0_0 s0_1 s0_2 a1=some (r1,r2,r3)):
  Calls Try.prog 96 #[.pointer (some ⟨g,0,none⟩), .int .i64 a1] w fun e w'=>∃ v0_:Value,e= .returned (v0_)∧Kd.R (Kd.int .u8) 5 w' w.heap.size (fun _=>True) v0_ r1∧IsS85 w0 w' g s0_0 r2 r3∧Below w0.heap.size w0 w'∧KeepBut w w' g none:=by
 have HI0:=Aside0.mk hI
 have HK:=Aside0.mk (KeepBut.refl w g none)
 have HL:=Aside0.mk hB.size
 clear hI
 have HW0:=Aside0.mk hB.size
 have HB:=Aside0.mk hB
 clear hB
 have H:((spec_l1Below.f s0_0 s0_1 s0_2 (wrap64 (a1+1))).bind fun bt543=>(spec_l1DrawBytes.l0 k (([]:List Int)) bt543.1 0 s0_0 bt543.2.1 bt543.2.2))=some (r1,r2,r3):=h
 clear h
 obtain⟨y540,hy540⟩:∃ y_:List Int,y_=(([]:List Int)):=⟨_,rfl⟩
 replace H:((spec_l1Below.f s0_0 s0_1 s0_2 (wrap64 (a1+1))).bind fun bt543=>(spec_l1DrawBytes.l0 k y540 bt543.1 0 s0_0 bt543.2.1 bt543.2.2))=some (r1,r2,r3):=jrw hy540 H
 have Ny540:=Aside0.mk hy540
 clear hy540
 obtain⟨⟨t543,t544,t545⟩,A3,H⟩:=bnd H
 try dsimp only at H
 have H':=Aside0.mk H
 clear H
 go_enter Try.func96,Try.ntmps96
 go_wp2_with (first | (refine jgd 8 ?_;refine jlt 8 (Kd.int .u8) 5 ?_;intro v541 w4 ho5 hb;(first | rw[← Ny540.out] at ho5 | (simp only[Int.reduceToNat] at ho5;rw[← Ny540.out] at ho5));have n_:=jA4 (zaq ho5 (zef (w:=w) (g:=g) (row:=none) jk)) (IsS85.below (by repeat(first | (with_reducible first | exact HI0.out | apply IsS85.alloc | apply IsS85.drewN | apply IsS85.drew | apply IsS85.set_1 | apply IsS85.set_2) | exact HI0.out)) hb) (zbq jk (zes hb g none) (.inl rfl)) (zal (bs1 (IsS85.ge HI0.out)) hb);clear HI0 HK HB;obtain⟨HO542,HI0,HK,HB⟩:=n_;clear hb ho5) | (refine jgc 83 ?_;refine jgs 12 Try.func83 #[.pointer (some ⟨g,0,none⟩), .int .i64 (wrap64 (a1+1))] ?_;(with_reducible refine(spec_l1Below.calls g s0_0 s0_1 s0_2 (wrap64 (a1+1)) t543 t544 t545 w0 _ ?side1 ?side2 A3.out).mono ?_);(case side1=>repeat(first | (with_reducible first | exact HI0.out | apply IsS85.alloc | apply IsS85.drewN | apply IsS85.drew | apply IsS85.set_1 | apply IsS85.set_2) | exact HI0.out));(case side2=>repeat(first | (with_reducible first | exact HB.out | apply zbe | apply zap | apply zay | refine zbf ?_ (IsS85.ge HI0.out)) | exact HB.out));rintro e w6 ⟨rfl,hi,hb,hk⟩;refine⟨_,rfl,?_⟩;have n_:=jA4 (zao (zec (IsS85.apart (show IsS85 w0 _ g s0_0 s0_1 s0_2 from by repeat(first | (with_reducible first | exact HI0.out | apply IsS85.alloc | apply IsS85.drewN | apply IsS85.drew | apply IsS85.set_1 | apply IsS85.set_2) | exact HI0.out)) (pR HO542.out) (by decide)) hk (fun _ h=>h.2)) (fun _ h=>h.1)) (zbq jk hk (.inl rfl)) (hb) (hi);clear HO542 HK HB HI0;obtain⟨HO542,HK,HB,HI0⟩:=n_;(try clear hb);(try clear hb2);(try clear hk);(try clear hi)))
 go_loopg [5,7] k (fun kq v5 v7 w'=>∃ (x5_1:List Int) (x7_1:Int) (x1001_1:Int) (x1002_1:Int),v7= .int .i64 x7_1∧Aside0 (spec_l1DrawBytes.l0 kq x5_1 t543 x7_1 s0_0 x1001_1 x1002_1=some (r1,r2,r3))∧Aside0 (kq≤k)∧Aside0 (Kd.R (Kd.int .u8) 5 w' w.heap.size (fun _=>True) v5 x5_1)∧Aside0 (IsS85 w0 w' g s0_0 x1001_1 x1002_1)∧Aside0 (KeepBut w w' g none)∧Aside0 (Below w0.heap.size w0 w'))
 case atStart=>exact⟨(y540),(0),(t544),(t545),jer,H',⟨zav _⟩,⟨pR HO542.out⟩,⟨by repeat(first | (with_reducible first | exact HI0.out | apply IsS85.alloc | apply IsS85.drewN | apply IsS85.drew | apply IsS85.set_1 | apply IsS85.set_2) | exact HI0.out)⟩,⟨by repeat(first | (with_reducible first | exact HK.out | apply zeu | apply zfb | apply zft | apply zfc) | exact HK.out)⟩,⟨bs1 (IsS85.ge HI0.out)⟩⟩
 case round=>
  clear H'
  try clear p2
  try clear p6
  obtain⟨x5_1,x7_1,x1001_1,x1002_1,rfl,HA,HK1,HO_5,HI0,HK,HB⟩:=hrel
  cases gk with
  | zero=>exact absurd HA.out (by simp [spec_l1DrawBytes.l0])
  | succ k1=>
   have H:=HA.out
   clear HA
   simp only[spec_l1DrawBytes.l0] at H
   by_cases c7:x7_1<t543
   ·rw[if_pos c7] at H
    have c7b0:=zab c7
    clear c7
    obtain⟨⟨t546,t547,t548⟩,A8,H⟩:=bnd H
    try dsimp only at H
    by_cases c9:x5_1.length<140737488355328
    ·rw[if_pos c9] at H
     have LMc9:=Aside0.mk c9
     clear c9
     obtain⟨y549,hy549⟩:∃ y_:List Int,y_=(x5_1++[(t546) % 256]):=⟨_,rfl⟩
     replace H:(spec_l1DrawBytes.l0 k1 y549 t543 (wrap64 (x7_1+1)) s0_0 t547 t548)=some (r1,r2,r3):=jrw hy549 H
     have Ny549:=Aside0.mk hy549
     clear hy549
     have H':=Aside0.mk H
     clear H
     go_wp2_with (first | (refine jgc 83 ?_;refine jgs 20 Try.func83 #[.pointer (some ⟨g,0,none⟩), .int .i64 256] ?_;(with_reducible refine(spec_l1Below.calls g s0_0 x1001_1 x1002_1 256 t546 t547 t548 w0 _ ?side1 ?side2 A8.out).mono ?_);(case side1=>repeat(first | (with_reducible first | exact HI0.out | apply IsS85.alloc | apply IsS85.drewN | apply IsS85.drew | apply IsS85.set_1 | apply IsS85.set_2) | exact HI0.out));(case side2=>repeat(first | (with_reducible first | exact HB.out | apply zbe | apply zap | apply zay | refine zbf ?_ (IsS85.ge HI0.out)) | exact HB.out));rintro e w10 ⟨rfl,hi,hb,hk⟩;refine⟨_,rfl,?_⟩;have n_:=jA4 (zao (zec (IsS85.apart (show IsS85 w0 _ g s0_0 x1001_1 x1002_1 from by repeat(first | (with_reducible first | exact HI0.out | apply IsS85.alloc | apply IsS85.drewN | apply IsS85.drew | apply IsS85.set_1 | apply IsS85.set_2) | exact HI0.out)) (pR HO_5.out) (by decide)) hk (fun _ h=>h.2)) (fun _ h=>h.1)) (zbq jk hk (.inl rfl)) (hb) (hi);clear HO_5 HK HB HI0;obtain⟨HO_5,HK,HB,HI0⟩:=n_;(try clear hb);(try clear hb2);(try clear hk);(try clear hi)) | ((with_reducible refine zde (b:= .append) (xs:= #[.tmp 18, .tmp 22]) rfl ?_);at_builtin;refine zfr (Kd.int .u8) w.heap.size rfl (.tmp 18) (.tmp 22) 23 5 (.int .u8 0) 1 rfl Try.underlying23 info5 rfl (by decide) (by omega) u5 x5_1 ((t546) % 256) [.int .u8 ((t546) % 256)] (fun _=>True) (fun _=>False) rfl rfl ?aP (fun _ hk=>hk.elim) ?aF ?aO (zbk _ _) ?aS ?aL ?_;(case aP=>exact rfl);(case aF=>exact(fun _ _=>trivial));(case aO=>exact(pR HO_5.out));(case aS=>exact(zef (w:=w) (g:=g) (row:=none) jk));(case aL=>have:=LMc9.out;omega);intro v550 w11 ho hb hg hat;rw[← Ny549.out] at ho;have n_:=jA4 (IsS85.grown (by repeat(first | (with_reducible first | exact HI0.out | apply IsS85.alloc | apply IsS85.drewN | apply IsS85.drew | apply IsS85.set_1 | apply IsS85.set_2) | exact HI0.out)) hg (IsS85.own_ne HI0.out HO_5.out (by decide))) (below_weaken (bs1 (IsS85.ge HI0.out)) HL.out hb) (zbq jk (KeepBut.of_grown hg g) (Kd.R_base2 HO_5.out)) (ho);clear HI0 HB HK HO_5;obtain⟨HI0,HB,HK,HO551⟩:=n_;clear ho hb hg hat))
     go_roundg k1
     case measure=>have:=HK1.out;omega
     case rel=>exact⟨(y549),(wrap64 (x7_1+1)),(t547),(t548),jer,H',⟨by have:=HK1.out;omega⟩,⟨pR HO551.out⟩,⟨by repeat(first | (with_reducible first | exact HI0.out | apply IsS85.alloc | apply IsS85.drewN | apply IsS85.drew | apply IsS85.set_1 | apply IsS85.set_2) | exact HI0.out)⟩,⟨by repeat(first | (with_reducible first | exact HK.out | apply zeu | apply zfb | apply zft | apply zfc) | exact HK.out)⟩,⟨bs1 (IsS85.ge HI0.out)⟩⟩
    rw[if_neg c9] at H
    exact absurd H (by simp)
   rw[if_neg c7] at H
   have c7b0:=zbj c7
   clear c7
   simp only[zcb,zcu] at H
   obtain⟨rfl,rfl,rfl⟩:=H
   go_wp2
   go_ret
   exact⟨_,jex,by(with_reducible repeat(first | apply zat | apply zau | apply zar));exact HO_5.out,by repeat(first | (with_reducible first | exact HI0.out | apply IsS85.alloc | apply IsS85.drewN | apply IsS85.drew | apply IsS85.set_1 | apply IsS85.set_2) | exact HI0.out),by repeat(first | (with_reducible first | exact HB.out | apply zbe | apply zap | apply zay | refine zbf ?_ (IsS85.ge HI0.out)) | exact HB.out),by repeat(first | (with_reducible first | exact HK.out | apply zeu | apply zfb | apply zft | apply zfc) | exact HK.out)⟩
def spec_l1Once.f (s0_0:List Int) (s0_1:Int) (s0_2:Int) (a1:Int):Option (Bool×Int×Int):=(spec_l1Below.f s0_0 s0_1 s0_2 a1).bind fun bt584=>(some ((bt584.1==0),bt584.2.1,bt584.2.2))
theorem spec_l1Once.calls (g:Nat) (s0_0:List Int) (s0_1:Int) (s0_2:Int) (a1:Int) (r1:Bool) (r2:Int) (r3:Int) (w0 w:World) (hI:IsS85 w0 w g s0_0 s0_1 s0_2) (hB:Below w0.heap.size w0 w) (h:spec_l1Once.f s0_0 s0_1 s0_2 a1=some (r1,r2,r3)):
  Calls Try.prog 81 #[.pointer (some ⟨g,0,none⟩), .int .i64 a1] w fun e w'=>e= .returned (.bool r1)∧IsS85 w0 w' g s0_0 r2 r3∧Below w0.heap.size w0 w'∧KeepBut w w' g none:=by
 have HI0:=Aside0.mk hI
 have HK:=Aside0.mk (KeepBut.refl w g none)
 have HL:=Aside0.mk hB.size
 clear hI
 have HW0:=Aside0.mk hB.size
 have HB:=Aside0.mk hB
 clear hB
 have H:((spec_l1Below.f s0_0 s0_1 s0_2 a1).bind fun bt584=>(some ((bt584.1==0),bt584.2.1,bt584.2.2)))=some (r1,r2,r3):=h
 clear h
 obtain⟨⟨t584,t585,t586⟩,A3,H⟩:=bnd H
 try dsimp only at H
 simp only[zcb,zcu] at H
 obtain⟨rfl,rfl,rfl⟩:=H
 go_enter Try.func81,Try.ntmps81
 go_wp2_with (first | (refine jgc 83 ?_;refine jgs 7 Try.func83 #[.pointer (some ⟨g,0,none⟩), .int .i64 a1] ?_;(with_reducible refine(spec_l1Below.calls g s0_0 s0_1 s0_2 a1 t584 t585 t586 w0 _ ?side1 ?side2 A3.out).mono ?_);(case side1=>repeat(first | (with_reducible first | exact HI0.out | apply IsS85.alloc | apply IsS85.drewN | apply IsS85.drew | apply IsS85.set_1 | apply IsS85.set_2) | exact HI0.out));(case side2=>repeat(first | (with_reducible first | exact HB.out | apply zbe | apply zap | apply zay | refine zbf ?_ (IsS85.ge HI0.out)) | exact HB.out));rintro e w4 ⟨rfl,hi,hb,hk⟩;refine⟨_,rfl,?_⟩;have n_:=jA3 (zbq jk hk (.inl rfl)) (hb) (hi);clear HK HB HI0;obtain⟨HK,HB,HI0⟩:=n_;(try clear hb);(try clear hb2);(try clear hk);(try clear hi)))
 go_ret
 exact⟨jex,by repeat(first | (with_reducible first | exact HI0.out | apply IsS85.alloc | apply IsS85.drewN | apply IsS85.drew | apply IsS85.set_1 | apply IsS85.set_2) | exact HI0.out),by repeat(first | (with_reducible first | exact HB.out | apply zbe | apply zap | apply zay | refine zbf ?_ (IsS85.ge HI0.out)) | exact HB.out),by repeat(first | (with_reducible first | exact HK.out | apply zeu | apply zfb | apply zft | apply zfc) | exact HK.out)⟩
end Go.Proofs.Ytienlgcjohpphaa.P
/- What the reference draws out of a list of bytes: there is always an answer, and how large it is; for lists of at most 2^40 bytes. -/
namespace Go.Proofs.Ytienlgcjohpphaa.B
open Go.RowKit Go.Proofs.Ytienlgcjohpphaa.P Go.Proofs.YtienlgcjohpphaaW.PrintWords Go.Proofs.YtienlgcjohpphaaW.PrintLast Go.Proofs.YtienlgcjohpphaaW.PrintMore
theorem byteD (d:List Int) (p s:Int) (hd:d.length≤1099511627776) (hp:0≤p):∃ v p' s',spec_l1Byte.f d p s=some (v,p',s')∧0≤v∧v<256∧0≤p':=by
  unfold spec_l1Byte.f
  simp only[i64_and255]
  by_cases h:p<(d.length:Int)
  · rw[if_pos h,if_pos hp,wrap_eq (p+1) (by omega) (by omega)]
    exact⟨_,_,_,rfl,by omega,by omega,by omega⟩
  · rw[if_neg h]
    exact⟨_,_,_,rfl,by omega,by omega,hp⟩
theorem belowD (d:List Int) (p s a:Int) (hd:d.length≤1099511627776) (hp:0≤p):∃ v p' s',spec_l1Below.f d p s a=some (v,p',s')∧0≤v∧(0<a→v<a)∧0≤p':=by
  unfold spec_l1Below.f
  by_cases h:a≤0
  · rw[if_pos h];exact⟨_,_,_,rfl,by omega,by omega,hp⟩
  · rw[if_neg h]
    by_cases h2:a≤256
    · obtain⟨v,p',s',e,h0,h1,hp'⟩:=byteD d p s hd hp
      rw[if_pos h2,e,Option.bind_some,if_neg (by omega)]
      exact⟨_,_,_,rfl,Int.tmod_nonneg _ h0,fun ha=>Int.tmod_lt_of_pos _ ha,hp'⟩
    · rw[if_neg h2]
      obtain⟨v1,p1,s1,e1,a1,b1,hp1⟩:=byteD d p s hd hp
      obtain⟨v2,p2,s2,e2,a2,b2,hp2⟩:=byteD d p1 s1 hd hp1
      obtain⟨v3,p3,s3,e3,a3,b3,hp3⟩:=byteD d p2 s2 hd hp2
      obtain⟨v4,p4,s4,e4,a4,b4,hp4⟩:=byteD d p3 s3 hd hp3
      rw[e1,Option.bind_some,e2,Option.bind_some,e3,Option.bind_some,e4,Option.bind_some,if_neg (by omega)]
      simp only[]
      rw[wrap_eq (v1*16777216) (by omega) (by omega),wrap_eq (v2*65536) (by omega) (by omega),wrap_eq (v3*256) (by omega) (by omega),wrap_eq (v1*16777216+v2*65536) (by omega) (by omega),wrap_eq (v1*16777216+v2*65536+v3*256) (by omega) (by omega),wrap_eq (v1*16777216+v2*65536+v3*256+v4) (by omega) (by omega)]
      exact⟨_,_,_,rfl,Int.tmod_nonneg _ (by omega),fun ha=>Int.tmod_lt_of_pos _ ha,hp4⟩
theorem newD_l0:∀ (n:Nat) (l:List Int) (s:Int) (i:Nat) (k:Nat),l.length - i=n→l.length≤1099511627776→n<k→∃ s',spec_l1New.l0 k l s (i:Int)=some (l,0,s')
  | 0,l,s,i,k,hn,hl,hk=>by
    obtain⟨k,rfl⟩:∃ m,k=m+1:=⟨k - 1,by omega⟩
    simp only[spec_l1New.l0];rw[if_neg (by omega)];exact⟨_,rfl⟩
  | n+1,l,s,i,k,hn,hl,hk=>by
    obtain⟨k,rfl⟩:∃ m,k=m+1:=⟨k - 1,by omega⟩
    simp only[spec_l1New.l0];rw[if_pos (by omega)]
    by_cases h:(i:Int)<4000
    · rw[if_pos h,if_pos (by omega),wrap_eq ((i:Int)+1) (by omega) (by omega)]
      exact newD_l0 n l _ (i+1) k (by omega) hl (by omega)
    · rw[if_neg h];exact⟨_,rfl⟩
theorem newD (l:List Int) (k:Nat) (hl:l.length≤1099511627776) (hk:l.length<k):∃ s',spec_l1New.f k l=some (l,0,s'):=
  newD_l0 _ l _ 0 k rfl hl (by omega)
theorem pickD (d:List Int) (p s:Int) (l:List Int) (hl:0<l.length) (hd:d.length≤1099511627776) (hp:0≤p):∃ v p' s',spec_l1PickInt.f d p s l=some (v,p',s')∧v∈l∧0≤p':=by
  obtain⟨i,p',s',e,h0,h1,hp'⟩:=belowD d p s (l.length:Int) hd hp
  have h1:=h1 (by omega)
  unfold spec_l1PickInt.f
  rw[e,Option.bind_some,if_pos h0,if_pos h1]
  refine⟨_,_,_,rfl,?_,hp'⟩
  unfold rd
  rw[List.getD_eq_getElem?_getD,List.getElem?_eq_getElem (show i.toNat<l.length by omega)]
  exact List.getElem_mem _
def drawNums:List Int:=[0,1,305419896,4294967295,4294967296, -1,9223372036854775807]
theorem numD (d:List Int) (p s:Int) (hd:d.length≤1099511627776) (hp:0≤p):∃ v p' s',spec_l2DrawNum.f d p s=some (v,p',s')∧v∈drawNums∧0≤p':=by
  obtain⟨v,p',s',e,h,hp'⟩:=pickD d p s drawNums (by decide) hd hp
  unfold spec_l2DrawNum.f
  rw[show([0,1,305419896,4294967295,4294967296,(-1),9223372036854775807]:List Int)=drawNums from rfl,e]
  exact⟨v,p',s',rfl,h,hp'⟩
theorem bytesD_l0 (d:List Int) (hd:d.length≤1099511627776):∀ (n:Nat) (acc:List Int) (m i p s:Int) (k:Nat),0≤i→(m - i).toNat=n→m≤1000000→acc.length≤10000000→(∀ x∈acc,0≤x∧x<256)→n<1000001→acc.length+n≤10000000→0≤p→n<k→
    ∃ r p' s',spec_l1DrawBytes.l0 k acc m i d p s=some (r,p',s')∧(∀ x∈r,0≤x∧x<256)∧r.length=acc.length+n∧0≤p'
  | 0,acc,m,i,p,s,k,hi,hn,hm,ha,hw,hc,hx,hp,hk=>by
    obtain⟨k,rfl⟩:∃ m,k=m+1:=⟨k - 1,by omega⟩
    simp only[spec_l1DrawBytes.l0];rw[if_neg (by omega)];exact⟨_,_,_,rfl,hw,rfl,hp⟩
  | n+1,acc,m,i,p,s,k,hi,hn,hm,ha,hw,hc,hx,hp,hk=>by
    obtain⟨k,rfl⟩:∃ m,k=m+1:=⟨k - 1,by omega⟩
    obtain⟨v,p',s',e,h0,h1,hp'⟩:=belowD d p s 256 hd hp
    simp only[spec_l1DrawBytes.l0];rw[if_pos (by omega),e,Option.bind_some,if_pos (by omega),wrap_eq (i+1) (by omega) (by omega)]
    obtain⟨r,p2,s2,h,hr,hl,hp2⟩:=bytesD_l0 d hd n (acc++[v % 256]) m (i+1) p' s' k (by omega) (by omega) hm (by simp;omega) (by intro x hx;rcases List.mem_append.1 hx with h | h;exact hw x h;simp at h;omega) (by omega) (by simp;omega) hp' (by omega)
    exact⟨r,p2,s2,h,hr,by rw[hl];simp;omega,hp2⟩
theorem bytesD (d:List Int) (p s a:Int) (hd:d.length≤1099511627776) (hp:0≤p) (ha:0≤a) (hb:a≤100000) (k:Nat) (hk:100001<k):∃ r p' s',spec_l1DrawBytes.f k d p s a=some (r,p',s')∧(∀ x∈r,0≤x∧x<256)∧(r.length:Int)≤a∧0≤p':=by
  obtain⟨v,p',s',e,h0,h1,hp'⟩:=belowD d p s (a+1) hd hp
  have h1:=h1 (by omega)
  unfold spec_l1DrawBytes.f
  rw[wrap_eq (a+1) (by omega) (by omega),e,Option.bind_some]
  obtain⟨r,p2,s2,h,hr,hl,hp2⟩:=bytesD_l0 d hd v.toNat [] v 0 p' s' k (by omega) (by omega) (by omega) (by simp) (by simp) (by omega) (by simp;omega) hp' (by omega)
  exact⟨r,p2,s2,h,hr,by rw[hl];simp;omega,hp2⟩
theorem onceD (d:List Int) (p s a:Int) (hd:d.length≤1099511627776) (hp:0≤p):∃ v p' s',spec_l1Once.f d p s a=some (v,p',s')∧0≤p':=by
  obtain⟨v,p',s',e,_,_,hp'⟩:=belowD d p s a hd hp
  unfold spec_l1Once.f
  rw[e]
  exact⟨_,_,_,rfl,hp'⟩
end Go.Proofs.Ytienlgcjohpphaa.B
/- So many bytes, or nearly so many, as the reference draws them: there is always an answer; for lists of at most 2^40 bytes. -/
namespace Go.Proofs.Ytienlgcjohpphaa.B
open Go.RowKit Go.Proofs.Ytienlgcjohpphaa.P Go.Proofs.YtienlgcjohpphaaW.PrintWords Go.Proofs.YtienlgcjohpphaaW.PrintLast Go.Proofs.YtienlgcjohpphaaW.PrintMore
theorem justD_l0 (d:List Int) (hd:d.length≤1099511627776):∀ (n:Nat) (acc:List Int) (m i p s:Int) (k:Nat),0≤i→(m - i).toNat=n→m≤1000000→acc.length+n≤10000000→(∀ x∈acc,0≤x∧x<256)→0≤p→n<k→
    ∃ r p' s',spec_l1DrawJust.l0 k m acc i d p s=some (r,p',s')∧(∀ x∈r,0≤x∧x<256)∧r.length=acc.length+n∧0≤p'
  | 0,acc,m,i,p,s,k,hi,hn,hm,hc,hw,hp,hk=>by
    obtain⟨k,rfl⟩:∃ m,k=m+1:=⟨k - 1,by omega⟩
    simp only[spec_l1DrawJust.l0];rw[if_neg (by omega)];exact⟨_,_,_,rfl,hw,rfl,hp⟩
  | n+1,acc,m,i,p,s,k,hi,hn,hm,hc,hw,hp,hk=>by
    obtain⟨k,rfl⟩:∃ m,k=m+1:=⟨k - 1,by omega⟩
    obtain⟨v,p',s',e,h0,h1,hp'⟩:=belowD d p s 256 hd hp
    simp only[spec_l1DrawJust.l0];rw[if_pos (by omega),e,Option.bind_some,if_pos (by omega),wrap_eq (i+1) (by omega) (by omega)]
    obtain⟨r,p2,s2,h,hr,hl,hp2⟩:=justD_l0 d hd n (acc++[v % 256]) m (i+1) p' s' k (by omega) (by omega) hm (by simp;omega) (by intro x hx;rcases List.mem_append.1 hx with h | h;exact hw x h;simp at h;omega) hp' (by omega)
    exact⟨r,p2,s2,h,hr,by rw[hl];simp;omega,hp2⟩
theorem justD (d:List Int) (p s a:Int) (hd:d.length≤1099511627776) (hp:0≤p) (hb:a≤100000) (k:Nat) (hk:100001<k):∃ r p' s',spec_l1DrawJust.f k d p s a=some (r,p',s')∧(∀ x∈r,0≤x∧x<256)∧r.length≤a.toNat∧0≤p':=by
  obtain⟨r,p2,s2,h,hr,hl,hp2⟩:=justD_l0 d hd a.toNat [] a 0 p s k (by omega) (by omega) (by omega) (by simp;omega) (by simp) hp (by omega)
  exact⟨r,p2,s2,h,hr,by rw[hl];simp,hp2⟩
theorem nearD (d:List Int) (p s a:Int) (hd:d.length≤1099511627776) (hp:0≤p) (ha:0≤a) (hb:a≤10000) (k:Nat) (hk:100001<k):∃ r p' s',spec_l1DrawNear.f k d p s a=some (r,p',s')∧(∀ x∈r,0≤x∧x<256)∧r.length≤10001∧0≤p':=by
  obtain⟨v,p1,s1,e1,h0,h1,hp1⟩:=belowD d p s 16 hd hp
  unfold spec_l1DrawNear.f
  rw[e1,Option.bind_some]
  simp only[]
  by_cases c0:v=0
  · obtain⟨r,p2,s2,e2,w2,l2,hp2⟩:=justD d p1 s1 (a+1) hd hp1 (by omega) k hk
    rw[if_pos c0,wrap_eq (a+1) (by omega) (by omega),e2,Option.bind_some]
    exact⟨r,p2,s2,rfl,w2,by omega,hp2⟩
  · rw[if_neg c0]
    by_cases c1:v=1
    · rw[if_pos c1]
      obtain⟨m,em,hm⟩:∃ m,spec_l1Max.f (wrap64 (a - 1)) 0=some m∧m≤10000:=by
        unfold spec_l1Max.f
        rw[wrap_eq (a - 1) (by omega) (by omega)]
        split
        · exact⟨_,rfl,by omega⟩
        · exact⟨_,rfl,by omega⟩
      obtain⟨r,p2,s2,e2,w2,l2,hp2⟩:=justD d p1 s1 m hd hp1 (by omega) k hk
      rw[em,Option.bind_some,e2,Option.bind_some]
      exact⟨r,p2,s2,rfl,w2,by omega,hp2⟩
    · rw[if_neg c1]
      by_cases c2:v=2
      · rw[if_pos c2];exact⟨[],p1,s1,rfl,by simp,by simp,hp1⟩
      · obtain⟨r,p2,s2,e2,w2,l2,hp2⟩:=justD d p1 s1 a hd hp1 (by omega) k hk
        rw[if_neg c2,e2,Option.bind_some]
        exact⟨r,p2,s2,rfl,w2,by omega,hp2⟩
end Go.Proofs.Ytienlgcjohpphaa.B
/- Little, by the program and by the reference: the low bytes of a number, the lowest first; for every number and every count. -/
namespace Go.Proofs.Ytienlgcjohpphaa.B
open Go.RowKit Go.Proofs.Ytienlgcjohpphaa.P Go.Proofs.YtienlgcjohpphaaW.PrintWords Go.Proofs.YtienlgcjohpphaaW.PrintLast Go.Proofs.YtienlgcjohpphaaW.PrintMore
/-- So many low bytes, the lowest first. -/
def lowL:Nat→Int→List Int
  | 0,_=>[]
  | m+1,n=>n % 256 :: lowL m (n / 256)
/-- What Little answers. -/
def leL (n many:Int):List Int:=if 0≤n∧1≤many∧many≤8 then lowL many.toNat n else []
theorem lowL_length:∀ (m:Nat) (n:Int),(lowL m n).length=m
  | 0,_=>rfl
  | m+1,n=>by simp [lowL,lowL_length m]
theorem leL_length (n many:Int):(leL n many).length≤8:=by
  unfold leL;split
  · rw[lowL_length];omega
  · simp
theorem specLittle_l0:∀ (m:Nat) (n i many:Int) (acc:List Int) (k:Nat),0≤i→many≤8→many - i=m→acc.length≤100 - m→m≤8→m<k→
    spec_Little.l0 k n many acc i=some (acc++lowL m n)
  | 0,n,i,many,acc,k,h0,h8,hd,hc,hm,hk=>by
    obtain⟨k,rfl⟩:∃ m,k=m+1:=⟨k - 1,by omega⟩
    simp only[spec_Little.l0];rw[if_neg (by omega)];simp [lowL]
  | m+1,n,i,many,acc,k,h0,h8,hd,hc,hm,hk=>by
    obtain⟨k,rfl⟩:∃ m,k=m+1:=⟨k - 1,by omega⟩
    have ih:=specLittle_l0 m (n / 256) (i+1) many (acc++[n % 256]) k (by omega) h8 (by omega) (by simp;omega) (by omega) (by omega)
    simp only[spec_Little.l0]
    rw[if_pos (by omega),if_pos (by omega),wrap_eq (i+1) (by omega) (by omega),i64_and255,show n % 256 % 256=n % 256 by omega,ih]
    simp [lowL]
theorem specLittle (n many:Int) (k:Nat) (hk:20<k):spec_Little.f k n many=some (leL n many):=by
  obtain⟨k,rfl⟩:∃ m,k=m+1:=⟨k - 1,by omega⟩
  unfold spec_Little.f leL spec_l1In.f
  simp only[Option.bind_some]
  by_cases h:n<0
  · rw[if_pos h,if_neg (by omega)];simp [spec_Little.j0]
  · rw[if_neg h]
    by_cases h1:many≥1
    · rw[if_pos h1]
      simp only[Option.bind_some]
      by_cases h2:many≤8
      · rw[if_pos ⟨by omega,by omega,h2⟩]
        simp only[spec_Little.j0,h2,decide_true,Bool.not_true,Bool.false_eq_true,if_false]
        have:=specLittle_l0 many.toNat n 0 many [] k (by omega) h2 (by omega) (by simp) (by omega) (by omega)
        simpa using this
      · rw[if_neg (by omega)];simp [spec_Little.j0,h2]
    · rw[if_neg h1,if_neg (by omega)];simp [spec_Little.j0]
theorem implLittle_l0:∀ (m:Nat) (n i many:Int) (acc:List Int) (k:Nat),0≤i→many≤8→many - i=m→acc.length≤100 - m→m≤8→m<k→
    impl_Little.l0 k n acc many i=some (acc++lowL m n)
  | 0,n,i,many,acc,k,h0,h8,hd,hc,hm,hk=>by
    obtain⟨k,rfl⟩:∃ m,k=m+1:=⟨k - 1,by omega⟩
    simp only[impl_Little.l0];rw[if_neg (by omega)];simp [lowL]
  | m+1,n,i,many,acc,k,h0,h8,hd,hc,hm,hk=>by
    obtain⟨k,rfl⟩:∃ m,k=m+1:=⟨k - 1,by omega⟩
    have ih:=implLittle_l0 m (n / 256) (i+1) many (acc++[n % 256]) k (by omega) h8 (by omega) (by simp;omega) (by omega) (by omega)
    simp only[impl_Little.l0]
    rw[if_pos (by omega),if_pos (by omega),wrap_eq (i+1) (by omega) (by omega),ih]
    simp [lowL]
theorem implLittle (n many:Int) (k:Nat) (hk:20<k):impl_Little.f k n many=some (leL n many):=by
  obtain⟨k,rfl⟩:∃ m,k=m+1:=⟨k - 1,by omega⟩
  unfold impl_Little.f leL impl_in.f
  by_cases h:n<0
  · rw[if_pos h,if_neg (by omega)];simp [impl_Little.j0]
  · rw[if_neg h]
    by_cases h1:many≥1
    · rw[if_pos h1]
      simp only[Option.bind_some]
      by_cases h2:many≤8
      · rw[if_pos ⟨by omega,by omega,h2⟩]
        simp only[impl_Little.j0,h2,decide_true,Bool.not_true,Bool.false_eq_true,if_false]
        have:=implLittle_l0 many.toNat n 0 many [] k (by omega) h2 (by omega) (by simp) (by omega) (by omega)
        simpa using this
      · rw[if_neg (by omega)];simp [impl_Little.j0,h2]
    · rw[if_neg h1,if_neg (by omega)];simp [impl_Little.j0]
end Go.Proofs.Ytienlgcjohpphaa.B
/- Great, by the program and by the reference: Little, the other way round; for every number and every count. -/
namespace Go.Proofs.Ytienlgcjohpphaa.B
open Go.RowKit Go.Proofs.Ytienlgcjohpphaa.P Go.Proofs.YtienlgcjohpphaaW.PrintWords Go.Proofs.YtienlgcjohpphaaW.PrintLast Go.Proofs.YtienlgcjohpphaaW.PrintMore
theorem specGreat_l0:∀ (n:Nat) (xs acc:List Int) (k:Nat),n≤xs.length→xs.length≤100→acc.length+n≤200→n<k→
    spec_Great.l0 k xs acc ((n:Int) - 1)=some (acc++(xs.take n).reverse)
  | 0,xs,acc,k,hn,hx,hc,hk=>by
    obtain⟨k,rfl⟩:∃ m,k=m+1:=⟨k - 1,by omega⟩
    simp only[spec_Great.l0];rw[if_neg (by omega)];simp
  | n+1,xs,acc,k,hn,hx,hc,hk=>by
    obtain⟨k,rfl⟩:∃ m,k=m+1:=⟨k - 1,by omega⟩
    have ih:=specGreat_l0 n xs (acc++[xs.getD n 0]) k (by omega) hx (by simp;omega) (by omega)
    have e1:((n+1:Nat):Int) - 1=(n:Int):=by omega
    have e2:rd xs (n:Int)=xs.getD n 0:=by simp [rd]
    simp only[spec_Great.l0]
    rw[e1,if_pos (by omega),if_pos (by omega),if_pos (by omega),if_pos (by omega),e2,wrap_eq ((n:Int) - 1) (by omega) (by omega),ih]
    have h3:xs.take (n+1)=xs.take n++[xs.getD n 0]:=by
      rw[List.take_succ_eq_append_getElem (by omega)]
      simp [List.getD_eq_getElem?_getD,List.getElem?_eq_getElem (show n<xs.length by omega)]
    rw[h3];simp
theorem specGreat (n many:Int) (k:Nat) (hk:40<k):spec_Great.f k n many=some (leL n many).reverse:=by
  have hl:=leL_length n many
  unfold spec_Great.f
  rw[specLittle n many k (by omega)]
  simp only[Option.bind_some]
  rw[wrap_eq _ (by omega) (by omega),specGreat_l0 _ _ [] k (Nat.le_refl _) (by omega) (by simp;omega) (by omega)]
  simp
theorem turned_l0:∀ (rest pre junk b:List Int) (n:Int) (k:Nat),b=pre++rest→n=(b.length:Int)→junk.length=rest.length→b.length≤1099511627776→rest.length<k→
    impl_turned.l0 k b (junk++pre.reverse) b n (pre.length:Int)=some b.reverse
  | [],pre,junk,b,n,k,hb,hn,hj,hc,hk=>by
    obtain⟨k,rfl⟩:∃ m,k=m+1:=⟨k - 1,by omega⟩
    obtain rfl:junk=[]:=List.eq_nil_of_length_eq_zero hj
    subst hb
    simp only[impl_turned.l0];rw[if_neg (by rw[hn];exact nlt_end pre)];simp
  | a :: rest,pre,junk,b,n,k,hb,hn,hj,hc,hk=>by
    obtain⟨k,rfl⟩:∃ m,k=m+1:=⟨k - 1,by omega⟩
    simp only[List.length_cons] at hk hj
    have hne:junk≠[]:=by intro h;rw[h] at hj;simp at hj
    obtain⟨junk1,z,rfl⟩:∃ j z,junk=j++[z]:=⟨junk.dropLast,junk.getLast hne,(List.dropLast_concat_getLast hne).symm⟩
    have hj1:junk1.length=rest.length:=by simp at hj;omega
    have hbl:b.length=pre.length+rest.length+1:=by rw[hb];simp;omega
    have ih:=turned_l0 rest (pre++[a]) junk1 b n k (by rw[hb];simp) hn hj1 hc (by omega)
    simp only[impl_turned.l0]
    have e1:wrap64 ((b.length:Int) - 1)=(b.length:Int) - 1:=wrap_eq _ (by omega) (by omega)
    have e2:wrap64 ((b.length:Int) - 1 - (pre.length:Int))=(junk1.length:Int):=by rw[wrap_eq _ (by omega) (by omega)];omega
    have e3:rd b (pre.length:Int)=a:=by rw[hb];exact rd_mid pre a rest
    have e4:(junk1++[z]++pre.reverse).set ((junk1.length:Int).toNat) a=junk1++(pre++[a]).reverse:=by simp
    rw[e1,e2,e3,e4,if_pos (by omega),if_pos (by omega),if_pos (by omega),if_pos (by omega),if_pos (by simp;omega),wrap_step pre a (by omega)]
    exact ih
theorem turned (b:List Int) (hc:b.length≤1099511627776) (k:Nat) (hk:b.length<k):impl_turned.f k b=some b.reverse:=by
  unfold impl_turned.f
  rw[if_pos (by omega),if_pos (by simp;omega)]
  have h:=turned_l0 b [] (List.replicate b.length 0) b _ k rfl rfl (by simp) hc hk
  simpa using h
theorem implGreat (n many:Int) (k:Nat) (hk:40<k):impl_Great.f k n many=some (leL n many).reverse:=by
  have hl:=leL_length n many
  unfold impl_Great.f
  rw[implLittle n many k (by omega)]
  simp only[Option.bind_some]
  rw[turned _ (by omega) k (by omega)]
  simp
end Go.Proofs.Ytienlgcjohpphaa.B
/- The parts, one behind the other; for at most 2^47 parts and bytes. -/
namespace Go.Proofs.Ytienlgcjohpphaa.B
open Go.RowKit Go.Proofs.Ytienlgcjohpphaa.P Go.Proofs.YtienlgcjohpphaaW.PrintWords Go.Proofs.YtienlgcjohpphaaW.PrintLast Go.Proofs.YtienlgcjohpphaaW.PrintMore
theorem joined (ls:List (List Int)) (h1:ls.flatten.length≤140737488355328) (h2:ls.length≤140737488355328):impl_joined.f ls=some ls.flatten:=by
  unfold impl_joined.f bytes_Join.f
  rw[if_pos ⟨rfl,h1,h2⟩];rfl
theorem joined2 (a b:List Int) (h:a.length+b.length≤140737488355328):impl_joined.f [a,b]=some (a++b):=by
  rw[joined _ (by simp;omega) (by simp)];simp
theorem joined3 (a b c:List Int) (h:a.length+b.length+c.length≤140737488355328):impl_joined.f [a,b,c]=some (a++b++c):=by
  rw[joined _ (by simp;omega) (by simp)];simp
theorem joined4 (a b c d:List Int) (h:a.length+b.length+c.length+d.length≤140737488355328):impl_joined.f [a,b,c,d]=some (a++b++c++d):=by
  rw[joined _ (by simp;omega) (by simp)];simp
end Go.Proofs.Ytienlgcjohpphaa.B
/- 'from lo to hi', by the program and by the reference; for every three numbers. -/
namespace Go.Proofs.Ytienlgcjohpphaa.B
open Go.RowKit Go.Proofs.Ytienlgcjohpphaa.P Go.Proofs.YtienlgcjohpphaaW.PrintWords Go.Proofs.YtienlgcjohpphaaW.PrintLast Go.Proofs.YtienlgcjohpphaaW.PrintMore
theorem specIn (a b c:Int):spec_l1In.f a b c=some (decide (b≤a∧a≤c)):=by
  unfold spec_l1In.f
  by_cases h:a≥b
  · rw[if_pos h];simp [show b≤a from h]
  · rw[if_neg h];simp [show ¬b≤a from h]
theorem implIn (a b c:Int):impl_in.f a b c=some (decide (b≤a∧a≤c)):=specIn a b c
end Go.Proofs.Ytienlgcjohpphaa.B
/- LetterOk, by the program and by the reference: one answer; for every letter. -/
namespace Go.Proofs.Ytienlgcjohpphaa.B
open Go.RowKit Go.Proofs.Ytienlgcjohpphaa.P Go.Proofs.YtienlgcjohpphaaW.PrintWords Go.Proofs.YtienlgcjohpphaaW.PrintLast Go.Proofs.YtienlgcjohpphaaW.PrintMore
def letterOk (e:Int) (l m:List Int):Bool:=decide (0≤e∧e≤65535∧l.length=32∧16≤m.length∧m.length≤1516)
theorem specLetterOk (e:Int) (l m:List Int):spec_LetterOk.f e l m=some (letterOk e l m):=by
  unfold spec_LetterOk.f letterOk
  simp only[specIn,Option.bind_some,decide_eq_true_eq]
  by_cases h1:0≤e∧e≤65535
  · rw[if_pos h1]
    by_cases h2:(l.length:Int)=32
    · rw[if_pos h2];congr 1;apply decide_eq_decide.2;omega
    · rw[if_neg h2];congr 1;symm;apply decide_eq_false;omega
  · rw[if_neg h1];congr 1;symm;apply decide_eq_false;omega
theorem implLetterOk (e:Int) (l m:List Int):impl_LetterOk.f e l m=some (letterOk e l m):=by
  rw[← specLetterOk e l m];rfl
end Go.Proofs.Ytienlgcjohpphaa.B
