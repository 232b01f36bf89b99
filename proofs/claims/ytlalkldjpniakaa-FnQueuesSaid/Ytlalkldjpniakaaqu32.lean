import Derived.Test.Ytlalkldjpniakaaqu31
namespace Go.Proofs.Ytlalkldjpniakaa.P
open Go.RowKit Go.Proofs.YtlalkldjpniakaaW.PrintWords Go.Proofs.YtlalkldjpniakaaW.PrintLast Go.Proofs.YtlalkldjpniakaaW.PrintMore
attribute [local go_sem] zbr zbs zch zci zbk zbl zbt zbu -- for this text's walks alone
set_option linter.unusedVariables false
set_option linter.unusedSimpArgs false

def laws_sameItems.l0:Nat→List (S34)→List (S34)→Int→Option (Bool)
 | 0,_,_,_=>none
 | k+1,x0,x1,x5=>if x5<(x0.length:Int) then(if 0≤x5 then(if x5<(x1.length:Int) then((laws_sameItem.f ((rd_T34 x0 x5).f0) ((rd_T34 x0 x5).f1) ((rd_T34 x0 x5).f2) ((rd_T34 x0 x5).f3) ((rd_T34 x1 x5).f0) ((rd_T34 x1 x5).f1) ((rd_T34 x1 x5).f2) ((rd_T34 x1 x5).f3)).bind fun t991=>(if t991=true then(laws_sameItems.l0 k x0 x1 (wrap64 (x5+1))) else(some false))) else(none)) else(none)) else(some true)
def laws_sameItems.f (k:Nat) (l0:List (S34)) (l1:List (S34)):Option (Bool):=if(l0.length:Int)=(l1.length:Int) then(laws_sameItems.l0 k l0 l1 0) else(some false)
theorem laws_sameItems.mono_l:∀ k,(∀ y0 y1 y2,LeO (laws_sameItems.l0 k y0 y1 y2) (laws_sameItems.l0 (k+1) y0 y1 y2))
 | 0=>fun _ _ _ r h=>by simp [laws_sameItems.l0] at h
 | k+1=>by
  have ih0:=laws_sameItems.mono_l k
  intro y0 y1 y2
  unfold laws_sameItems.l0
  exact mt
theorem laws_sameItems.mono:∀ a0 a1 k,LeO (laws_sameItems.f k a0 a1) (laws_sameItems.f (k+1) a0 a1):=by
 intro a0 a1 k
 have ih0:=laws_sameItems.mono_l k
 unfold laws_sameItems.f
 exact mt
def laws_sameItems.T6:Bool×List (List Nat×List Nat):=(true,[([],[]),([],[]),([0,1],[0,1]),([2],[2]),([],[]),([],[]),([4,5],[4,5]),([6],[6]),([3,7],[3,7]),([8],[8])])
def laws_sameItems.B6:List Nat:=[0,0,3,7,0,0,48,112,255,511]
theorem laws_sameItems.tab6:rtab .any (opsOf Try.f67 6)=laws_sameItems.T6:=by kernel_rfl
theorem laws_sameItems.bits6:waitsOk laws_sameItems.T6.2 laws_sameItems.B6=true:=by kernel_rfl
set_option maxHeartbeats 8000000 in
set_option maxRecDepth 100000 in
theorem laws_sameItems.calls (k:Nat) (A0:Option Addr) (c0:Nat) (l0:List (S34)) (A1:Option Addr) (c1:Nat) (l1:List (S34)) (r:Bool) (w:World) (hr0:Kd.C k34 w A0 l0.length l0) (hc0:l0.length≤c0) (hr1:Kd.C k34 w A1 l1.length l1) (hc1:l1.length≤c1) (h:laws_sameItems.f k l0 l1=some r):
  Calls Try.prog 67 #[.slice A0 l0.length c0, .slice A1 l1.length c1] w fun e w'=>e= .returned (.bool r)∧Below w.heap.size w w':=by
 have hu34:=Try.underlying34
 have HR0:=Aside0.mk hr0
 have HC0:=Aside0.mk hc0
 clear hr0 hc0
 have HR1:=Aside0.mk hr1
 have HC1:=Aside0.mk hc1
 clear hr1 hc1
 have HB:=Aside0.mk (zbe w.heap.size w)
 have H:(if(l0.length:Int)=(l1.length:Int) then(laws_sameItems.l0 k l0 l1 0) else(some false))=some r:=h
 clear h
 by_cases c3:(l0.length:Int)=(l1.length:Int)
 ·rw[if_pos c3] at H
  have c3b0:=beqT c3
  have c3b1:=zbj.mpr c3
  have c3b2:(l0.length==l1.length)=true:=by first | simpa using c3 | (simp at c3 ⊢;omega)
  clear c3
  have H':=Aside0.mk H
  clear H
  go_enter Try.func67,Try.ntmps67
  go_wp2
  go_loopg [5] k (fun kq v5 w'=>∃ (x5_1:Int),v5= .int .i64 x5_1∧Aside0 (laws_sameItems.l0 kq l0 l1 x5_1=some r)∧Aside0 (kq≤k)∧Aside0 (Below w.heap.size w w'))
  case atStart=>exact⟨(0),jer,H',⟨zbc _⟩,⟨bq⟩⟩
  case round=>
   clear H'
   try clear c1
   try clear p2
   try clear c3
   try clear c3b0
   try clear c3b1
   try clear c3b2
   obtain⟨x5_1,rfl,HA,HK1,HB⟩:=hrel
   cases gk with
   | zero=>exact absurd HA.out (by simp [laws_sameItems.l0])
   | succ k1=>
    have H:=HA.out
    clear HA
    simp only[laws_sameItems.l0] at H
    by_cases c4:x5_1<(l0.length:Int)
    ·rw[if_pos c4] at H
     have c4b0:=zag c4
     clear c4
     by_cases c5:0≤x5_1
     ·rw[if_pos c5] at H
      have c5b0:=zag c5
      clear c5
      by_cases c6:x5_1<(l1.length:Int)
      ·rw[if_pos c6] at H
       have c6b0:=zag c6
       clear c6
       obtain⟨t991,A7,H⟩:=bnd H
       by_cases c8:t991=true
       ·subst c8
        rw[if_pos rfl] at H
        have H':=Aside0.mk H
        clear H
        try go_wp2
        replace HB:=Aside0.mk (zan HB.out)
        obtain⟨p989,q989,ad989,A989_3,c989_3,e989,hw989_0,hw989_1,hw989_2,hw989_3,hx989_0,hx989_1,hx989_2,hx989_3,HC989_3,HR989_3⟩:=jelw HR0.out HB.out x5_1
        cases e989
        obtain⟨p990,q990,ad990,A990_3,c990_3,e990,hw990_0,hw990_1,hw990_2,hw990_3,hx990_0,hx990_1,hx990_2,hx990_3,HC990_3,HR990_3⟩:=jelw HR1.out HB.out x5_1
        cases e990
        refine start_ (n:=10) (S:=fun w'=>w'.cell? (ad989.add ((x5_1).toNat*4))=some (.string ((rd_T34 l0 x5_1).f0))∧w'.cell? ⟨(ad989.add ((x5_1).toNat*4)).block,(ad989.add ((x5_1).toNat*4)).off+1,none⟩=some (.int .i64 ((rd_T34 l0 x5_1).f1))∧w'.cell? ⟨(ad989.add ((x5_1).toNat*4)).block,(ad989.add ((x5_1).toNat*4)).off+2,none⟩=some (.int .i64 ((rd_T34 l0 x5_1).f2))∧w'.cell? ⟨(ad989.add ((x5_1).toNat*4)).block,(ad989.add ((x5_1).toNat*4)).off+3,none⟩=some (.slice A989_3 ((rd_T34 l0 x5_1).f3).length c989_3)∧w'.cell? (ad990.add ((x5_1).toNat*4))=some (.string ((rd_T34 l1 x5_1).f0))∧w'.cell? ⟨(ad990.add ((x5_1).toNat*4)).block,(ad990.add ((x5_1).toNat*4)).off+1,none⟩=some (.int .i64 ((rd_T34 l1 x5_1).f1))∧w'.cell? ⟨(ad990.add ((x5_1).toNat*4)).block,(ad990.add ((x5_1).toNat*4)).off+2,none⟩=some (.int .i64 ((rd_T34 l1 x5_1).f2))∧w'.cell? ⟨(ad990.add ((x5_1).toNat*4)).block,(ad990.add ((x5_1).toNat*4)).off+3,none⟩=some (.slice A990_3 ((rd_T34 l1 x5_1).f3).length c990_3)) (ds:=[]) #[false,false,false,false,false,false,false,false,false,false] (by kernel_rfl) rfl rfl ⟨(jcB HB.out hw989_0:),(jcB HB.out hw989_1:),(jcB HB.out hw989_2:),(jcB HB.out hw989_3:),(jcB HB.out hw990_0:),(jcB HB.out hw990_1:),(jcB HB.out hw990_2:),(jcB HB.out hw990_3:)⟩ (fun hHeld=>?_);refine with_tabW laws_sameItems.tab6 laws_sameItems.bits6 (fun HT_ HW_=>?_)
        generalize wr.drew=w9 at HB HR989_3 HR990_3 hx989_0 hx989_1 hx989_2 hx989_3 hx990_0 hx990_1 hx990_2 hx990_3 hHeld ⊢
        refine pu 0 17 HT_.out ?_
        refine pu 1 18 HT_.out ?_
        refine pu 2 19 HT_.out ?_
        refine pu 4 21 HT_.out ?_
        refine pu 5 22 HT_.out ?_
        refine pu 6 23 HT_.out ?_
        refine tk 3 20 HT_.out HW_.out hHeld ?_
        refine tk 7 24 HT_.out HW_.out hHeld ?_
        refine one_ (i:=8) (N:=some 25) #[true,true,true,true,true,true,true,true,true,false] rfl rfl (one_of HT_.out (by kernel_rfl)) (by decide) (fun K hK=>?_)
        refine goes_ Try.func68 (by kernel_rfl) rfl #[.agg #[.string ((rd_T34 l0 x5_1).f0), .int .i64 ((rd_T34 l0 x5_1).f1), .int .i64 ((rd_T34 l0 x5_1).f2), .slice A989_3 ((rd_T34 l0 x5_1).f3).length c989_3], .agg #[.string ((rd_T34 l1 x5_1).f0), .int .i64 ((rd_T34 l1 x5_1).f1), .int .i64 ((rd_T34 l1 x5_1).f2), .slice A990_3 ((rd_T34 l1 x5_1).f3).length c990_3]] (by rfl) rfl rfl jhl ?_
        with_reducible refine(laws_sameItem.calls ((rd_T34 l0 x5_1).f0) ((rd_T34 l0 x5_1).f1) ((rd_T34 l0 x5_1).f2) _ _ ((rd_T34 l0 x5_1).f3) ((rd_T34 l1 x5_1).f0) ((rd_T34 l1 x5_1).f1) ((rd_T34 l1 x5_1).f2) _ _ ((rd_T34 l1 x5_1).f3) true _ ?side1 ?side2 ?side3 ?side4 A7.out).mono ?_
        (case side1=>exact jcs HR989_3.out)
        (case side2=>exact HC989_3.out)
        (case side3=>exact jcs HR990_3.out)
        (case side4=>exact HC990_3.out)
        rintro e w10 ⟨rfl,hb⟩
        refine⟨_,rfl,?_⟩
        replace HB:=Aside0.mk (zah bq hb)
        (try clear hb)
        (try clear hb2)
        (try clear hk)
        (try clear hi)
        refine hK.out _ _ ⟨(jcB HB.out hw989_0:),(jcB HB.out hw989_1:),(jcB HB.out hw989_2:),(jcB HB.out hw989_3:),(jcB HB.out hw990_0:),(jcB HB.out hw990_1:),(jcB HB.out hw990_2:),(jcB HB.out hw990_3:)⟩ (fun hHeld=>?_)
        clear hK K
        refine norm_ (a':=?_) ?_ ?_
        rotate_left
        ·show Act.put _ (some 25) _=_
         simp only[Act.put,zct,zdz,zea,i64_w,i32_w]
         rfl
        refine pu 9 26 HT_.out ?_
        refine done_ (done_of HT_.out (by kernel_rfl)) ?_
        try go_wp2
        go_roundg k1
        case measure=>have:=HK1.out;omega
        case rel=>exact⟨(wrap64 (x5_1+1)),jer,H',⟨by have:=HK1.out;omega⟩,⟨bq⟩⟩
       replace c8:=zcd.mpr c8
       subst c8
       rw[if_neg (show ¬(false=true) by decide)] at H
       obtain rfl:=Option.some.inj H
       try go_wp2
       replace HB:=Aside0.mk (zan HB.out)
       obtain⟨p989,q989,ad989,A989_3,c989_3,e989,hw989_0,hw989_1,hw989_2,hw989_3,hx989_0,hx989_1,hx989_2,hx989_3,HC989_3,HR989_3⟩:=jelw HR0.out HB.out x5_1
       cases e989
       obtain⟨p990,q990,ad990,A990_3,c990_3,e990,hw990_0,hw990_1,hw990_2,hw990_3,hx990_0,hx990_1,hx990_2,hx990_3,HC990_3,HR990_3⟩:=jelw HR1.out HB.out x5_1
       cases e990
       refine start_ (n:=10) (S:=fun w'=>w'.cell? (ad989.add ((x5_1).toNat*4))=some (.string ((rd_T34 l0 x5_1).f0))∧w'.cell? ⟨(ad989.add ((x5_1).toNat*4)).block,(ad989.add ((x5_1).toNat*4)).off+1,none⟩=some (.int .i64 ((rd_T34 l0 x5_1).f1))∧w'.cell? ⟨(ad989.add ((x5_1).toNat*4)).block,(ad989.add ((x5_1).toNat*4)).off+2,none⟩=some (.int .i64 ((rd_T34 l0 x5_1).f2))∧w'.cell? ⟨(ad989.add ((x5_1).toNat*4)).block,(ad989.add ((x5_1).toNat*4)).off+3,none⟩=some (.slice A989_3 ((rd_T34 l0 x5_1).f3).length c989_3)∧w'.cell? (ad990.add ((x5_1).toNat*4))=some (.string ((rd_T34 l1 x5_1).f0))∧w'.cell? ⟨(ad990.add ((x5_1).toNat*4)).block,(ad990.add ((x5_1).toNat*4)).off+1,none⟩=some (.int .i64 ((rd_T34 l1 x5_1).f1))∧w'.cell? ⟨(ad990.add ((x5_1).toNat*4)).block,(ad990.add ((x5_1).toNat*4)).off+2,none⟩=some (.int .i64 ((rd_T34 l1 x5_1).f2))∧w'.cell? ⟨(ad990.add ((x5_1).toNat*4)).block,(ad990.add ((x5_1).toNat*4)).off+3,none⟩=some (.slice A990_3 ((rd_T34 l1 x5_1).f3).length c990_3)) (ds:=[]) #[false,false,false,false,false,false,false,false,false,false] (by kernel_rfl) rfl rfl ⟨(jcB HB.out hw989_0:),(jcB HB.out hw989_1:),(jcB HB.out hw989_2:),(jcB HB.out hw989_3:),(jcB HB.out hw990_0:),(jcB HB.out hw990_1:),(jcB HB.out hw990_2:),(jcB HB.out hw990_3:)⟩ (fun hHeld=>?_);refine with_tabW laws_sameItems.tab6 laws_sameItems.bits6 (fun HT_ HW_=>?_)
       generalize wr.drew=w11 at HB HR989_3 HR990_3 hx989_0 hx989_1 hx989_2 hx989_3 hx990_0 hx990_1 hx990_2 hx990_3 hHeld ⊢
       refine pu 0 17 HT_.out ?_
       refine pu 1 18 HT_.out ?_
       refine pu 2 19 HT_.out ?_
       refine pu 4 21 HT_.out ?_
       refine pu 5 22 HT_.out ?_
       refine pu 6 23 HT_.out ?_
       refine tk 3 20 HT_.out HW_.out hHeld ?_
       refine tk 7 24 HT_.out HW_.out hHeld ?_
       refine one_ (i:=8) (N:=some 25) #[true,true,true,true,true,true,true,true,true,false] rfl rfl (one_of HT_.out (by kernel_rfl)) (by decide) (fun K hK=>?_)
       refine goes_ Try.func68 (by kernel_rfl) rfl #[.agg #[.string ((rd_T34 l0 x5_1).f0), .int .i64 ((rd_T34 l0 x5_1).f1), .int .i64 ((rd_T34 l0 x5_1).f2), .slice A989_3 ((rd_T34 l0 x5_1).f3).length c989_3], .agg #[.string ((rd_T34 l1 x5_1).f0), .int .i64 ((rd_T34 l1 x5_1).f1), .int .i64 ((rd_T34 l1 x5_1).f2), .slice A990_3 ((rd_T34 l1 x5_1).f3).length c990_3]] (by rfl) rfl rfl jhl ?_
       with_reducible refine(laws_sameItem.calls ((rd_T34 l0 x5_1).f0) ((rd_T34 l0 x5_1).f1) ((rd_T34 l0 x5_1).f2) _ _ ((rd_T34 l0 x5_1).f3) ((rd_T34 l1 x5_1).f0) ((rd_T34 l1 x5_1).f1) ((rd_T34 l1 x5_1).f2) _ _ ((rd_T34 l1 x5_1).f3) false _ ?side1 ?side2 ?side3 ?side4 A7.out).mono ?_
       (case side1=>exact jcs HR989_3.out)
       (case side2=>exact HC989_3.out)
       (case side3=>exact jcs HR990_3.out)
       (case side4=>exact HC990_3.out)
       rintro e w12 ⟨rfl,hb⟩
       refine⟨_,rfl,?_⟩
       replace HB:=Aside0.mk (zah bq hb)
       (try clear hb)
       (try clear hb2)
       (try clear hk)
       (try clear hi)
       refine hK.out _ _ ⟨(jcB HB.out hw989_0:),(jcB HB.out hw989_1:),(jcB HB.out hw989_2:),(jcB HB.out hw989_3:),(jcB HB.out hw990_0:),(jcB HB.out hw990_1:),(jcB HB.out hw990_2:),(jcB HB.out hw990_3:)⟩ (fun hHeld=>?_)
       clear hK K
       refine norm_ (a':=?_) ?_ ?_
       rotate_left
       ·show Act.put _ (some 25) _=_
        simp only[Act.put,zct,zdz,zea,i64_w,i32_w]
        rfl
       refine pu 9 26 HT_.out ?_
       refine done_ (done_of HT_.out (by kernel_rfl)) ?_
       try go_wp2
       go_ret
       exact⟨jex,bq⟩
      rw[if_neg c6] at H
      exact absurd H (by simp)
     rw[if_neg c5] at H
     exact absurd H (by simp)
    rw[if_neg c4] at H
    have c4b0:=zaw c4
    clear c4
    obtain rfl:=Option.some.inj H
    go_wp2
    go_ret
    exact⟨jex,bq⟩
 rw[if_neg c3] at H
 have c3b0:=zbb.mpr c3
 have c3b1:=zda.mpr c3
 have c3b2:(l0.length==l1.length)=false:=by first | simpa using c3 | (simp at c3 ⊢;omega)
 obtain rfl:=Option.some.inj H
 go_enter Try.func67,Try.ntmps67
 go_wp2
 go_ret
 exact⟨jex,bq⟩
end Go.Proofs.Ytlalkldjpniakaa.P
/- Plain lemmas on lists and on numbers that do not wrap, used by all pure statements of this seat; no condition but those each lemma names. -/
namespace Go.Proofs.Ytlalkldjpniakaa.B
open Go.RowKit Go.Proofs.YtlalkldjpniakaaW.PrintWords Go.Proofs.YtlalkldjpniakaaW.PrintLast Go.Proofs.YtlalkldjpniakaaW.PrintMore

theorem wrap_eq (x:Int) (h0: -9223372036854775808≤x) (h1:x≤9223372036854775807):wrap64 x=x:=by
  unfold wrap64;omega
theorem rd_mid (pre:List Int) (a:Int) (rest:List Int):rd (pre++a :: rest) (pre.length:Int)=a:=by
  unfold rd;simp [List.getD_eq_getElem?_getD]
theorem set_mid (pre:List Int) (a b:Int) (rest:List Int):(pre++b :: rest).set ((pre.length:Int).toNat) a=pre++a :: rest:=by
  simp
theorem lt_mid {α:Type} (pre:List α) (a:α) (rest:List α):(pre.length:Int)<(((pre++a :: rest).length:Nat):Int):=by
  simp;omega
theorem nlt_end {α:Type} (pre:List α):¬((pre.length:Int)<(((pre++[]).length:Nat):Int)):=by
  simp
theorem wrap_step {α:Type} (pre:List α) (a:α) (h:pre.length≤4611686018427387904):wrap64 ((pre.length:Int)+1)=(((pre++[a]).length:Nat):Int):=by
  rw[wrap_eq _ (by omega) (by omega)];simp
theorem snoc_app {α:Type} (pre:List α) (a:α) (rest:List α):pre++a :: rest=(pre++[a])++rest:=by simp
theorem pre_nonneg {α:Type} (pre:List α):0≤(pre.length:Int):=by omega

theorem rd_mid2 (pa pb:List Int) (a:Int) (rest:List Int) (h:pa.length=pb.length):rd (pb++a :: rest) (pa.length:Int)=a:=by
  rw[h];exact rd_mid pb a rest
theorem lt_mid2 {α:Type} (pa pb:List α) (a:α) (rest:List α) (h:pa.length=pb.length):(pa.length:Int)<(((pb++a :: rest).length:Nat):Int):=by
  rw[h];exact lt_mid pb a rest
theorem nlt_end2 {α:Type} (pa pb:List α) (h:pa.length=pb.length):¬((pa.length:Int)<(((pb++[]).length:Nat):Int)):=by
  rw[h];exact nlt_end pb
/-- n numbers m, m + 1, .. as bytes. -/
def marks:Nat→Int→List Int
  | 0,_=>[]
  | n+1,m=>m % 256 :: marks n (m+1)
theorem marks_length:∀ (n:Nat) (m:Int),(marks n m).length=n
  | 0,_=>rfl
  | n+1,m=>by simp [marks,marks_length n]
theorem marks_snoc:∀ (n:Nat) (m:Int),marks n m++[(m+n) % 256]=marks (n+1) m
  | 0,m=>by simp [marks]
  | n+1,m=>by
    have h:=marks_snoc n (m+1)
    rw[show m+1+(n:Int)=m+((n+1:Nat):Int) from by omega] at h
    rw[marks,marks,List.cons_append,h]
/-- n numbers m, m + 1, .. -/
def counts:Nat→Int→List Int
  | 0,_=>[]
  | n+1,m=>m :: counts n (m+1)
theorem counts_length:∀ (n:Nat) (m:Int),(counts n m).length=n
  | 0,_=>rfl
  | n+1,m=>by simp [counts,counts_length n]
theorem counts_snoc:∀ (n:Nat) (m:Int),counts n m++[m+n]=counts (n+1) m
  | 0,m=>by simp [counts]
  | n+1,m=>by
    have h:=counts_snoc n (m+1)
    rw[show m+1+(n:Int)=m+((n+1:Nat):Int) from by omega] at h
    rw[counts,counts,List.cons_append,h]
end Go.Proofs.Ytlalkldjpniakaa.B
/- What a computation with fuel answers, from some fuel on: more lemmas. -/
namespace Go.Proofs.Ytlalkldjpniakaa.B
open Go.Proofs.YtlalkldjpniakaaW.PrintWords
theorem evConst {α:Type} (r:α):Ev (fun _=>some r) r:=⟨0,fun _ _=>rfl⟩
theorem evUp {α:Type} {f:Nat→Option α} {r:α} (h:Ev (fun k=>f (k+1)) r):Ev f r:=by
  obtain⟨k0,h⟩:=h
  refine⟨k0+1,fun k hk=>?_⟩
  obtain⟨m,rfl⟩:∃ m,k=m+1:=⟨k - 1,by omega⟩
  exact h m (by omega)
theorem evBind {α β:Type} {f:Nat→Option α} {g:Nat→α→Option β} {a:α} {r:β} (h:Ev f a) (h2:Ev (fun k=>g k a) r):Ev (fun k=>(f k).bind fun t=>g k t) r:=by
  obtain⟨k0,h⟩:=h
  obtain⟨k1,h2⟩:=h2
  refine⟨k0+k1,fun k hk=>?_⟩
  show(f k).bind (fun t=>g k t)=some r
  rw[h k (by omega)]
  exact h2 k (by omega)
theorem evPos {α:Type} {c:Prop} [Decidable c] {f g:Nat→Option α} {r:α} (hc:c) (h:Ev f r):Ev (fun k=>if c then f k else g k) r:=by
  obtain⟨k0,h⟩:=h
  exact⟨k0,fun k hk=>by show(if c then f k else g k)=some r;rw[if_pos hc];exact h k hk⟩
theorem evNeg {α:Type} {c:Prop} [Decidable c] {f g:Nat→Option α} {r:α} (hc:¬c) (h:Ev g r):Ev (fun k=>if c then f k else g k) r:=by
  obtain⟨k0,h⟩:=h
  exact⟨k0,fun k hk=>by show(if c then f k else g k)=some r;rw[if_neg hc];exact h k hk⟩
theorem evOf {α:Type} {f:Nat→Option α} {r:α} (n:Nat) (h:∀ k,n<k→f k=some r):Ev f r:=⟨n+1,fun k hk=>h k (by omega)⟩
end Go.Proofs.Ytlalkldjpniakaa.B
