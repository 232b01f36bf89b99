import Derived.Test.Ytlalkldjpniakaaqu36
namespace Go.Proofs.Ytlalkldjpniakaa.P
open Go.RowKit Go.Proofs.YtlalkldjpniakaaW.PrintWords Go.Proofs.YtlalkldjpniakaaW.PrintLast Go.Proofs.YtlalkldjpniakaaW.PrintMore
attribute [local go_sem] zbr zbs zch zci zbk zbl zbt zbu -- for this text's walks alone
set_option linter.unusedVariables false
set_option linter.unusedSimpArgs false

def laws_eqItemS.l0:Nat→List (S34)→List (S34)→Int→Option (Bool)
 | 0,_,_,_=>none
 | k+1,x0,x1,x5=>if x5<(x0.length:Int) then(if 0≤x5 then(if x5<(x1.length:Int) then((laws_eqItem.f k ((rd_T34 x0 x5).f0) ((rd_T34 x0 x5).f1) ((rd_T34 x0 x5).f2) ((rd_T34 x0 x5).f3) ((rd_T34 x1 x5).f0) ((rd_T34 x1 x5).f1) ((rd_T34 x1 x5).f2) ((rd_T34 x1 x5).f3)).bind fun t138=>(if t138=true then(laws_eqItemS.l0 k x0 x1 (wrap64 (x5+1))) else(some false))) else(none)) else(none)) else(some true)
def laws_eqItemS.f (k:Nat) (l0:List (S34)) (l1:List (S34)):Option (Bool):=if(l0.length:Int)=(l1.length:Int) then(laws_eqItemS.l0 k l0 l1 0) else(some false)
theorem laws_eqItemS.mono_l:∀ k,(∀ y0 y1 y2,LeO (laws_eqItemS.l0 k y0 y1 y2) (laws_eqItemS.l0 (k+1) y0 y1 y2))
 | 0=>fun _ _ _ r h=>by simp [laws_eqItemS.l0] at h
 | k+1=>by
  have ih0:=laws_eqItemS.mono_l k
  intro y0 y1 y2
  unfold laws_eqItemS.l0
  have m0:=@laws_eqItem.mono
  exact mt
theorem laws_eqItemS.mono:∀ a0 a1 k,LeO (laws_eqItemS.f k a0 a1) (laws_eqItemS.f (k+1) a0 a1):=by
 intro a0 a1 k
 have ih0:=laws_eqItemS.mono_l k
 unfold laws_eqItemS.f
 have m0:=@laws_eqItem.mono
 exact mt
def laws_eqItemS.T6:Bool×List (List Nat×List Nat):=(true,[([],[]),([],[]),([0,1],[0,1]),([2],[2]),([],[]),([],[]),([4,5],[4,5]),([6],[6]),([3,7],[3,7]),([8],[8])])
def laws_eqItemS.B6:List Nat:=[0,0,3,7,0,0,48,112,255,511]
theorem laws_eqItemS.tab6:rtab .any (opsOf Try.f22 6)=laws_eqItemS.T6:=by kernel_rfl
theorem laws_eqItemS.bits6:waitsOk laws_eqItemS.T6.2 laws_eqItemS.B6=true:=by kernel_rfl
set_option maxHeartbeats 8000000 in
set_option maxRecDepth 100000 in
theorem laws_eqItemS.calls (k:Nat) (A0:Option Addr) (c0:Nat) (l0:List (S34)) (A1:Option Addr) (c1:Nat) (l1:List (S34)) (r:Bool) (w:World) (hr0:Kd.C k34 w A0 l0.length l0) (hc0:l0.length≤c0) (hr1:Kd.C k34 w A1 l1.length l1) (hc1:l1.length≤c1) (h:laws_eqItemS.f k l0 l1=some r):
  Calls Try.prog 22 #[.slice A0 l0.length c0, .slice A1 l1.length c1] w fun e w'=>e= .returned (.bool r)∧Below w.heap.size w w':=by
 have hu34:=Try.underlying34
 have HR0:=Aside0.mk hr0
 have HC0:=Aside0.mk hc0
 clear hr0 hc0
 have HR1:=Aside0.mk hr1
 have HC1:=Aside0.mk hc1
 clear hr1 hc1
 have HB:=Aside0.mk (zbe w.heap.size w)
 have H:(if(l0.length:Int)=(l1.length:Int) then(laws_eqItemS.l0 k l0 l1 0) else(some false))=some r:=h
 clear h
 by_cases c3:(l0.length:Int)=(l1.length:Int)
 ·rw[if_pos c3] at H
  have c3b0:=beqT c3
  have c3b1:=zbj.mpr c3
  have c3b2:(l0.length==l1.length)=true:=by first | simpa using c3 | (simp at c3 ⊢;omega)
  clear c3
  have H':=Aside0.mk H
  clear H
  go_enter Try.func22,Try.ntmps22
  go_wp2
  go_loopg [5] k (fun kq v5 w'=>∃ (x5_1:Int),v5= .int .i64 x5_1∧Aside0 (laws_eqItemS.l0 kq l0 l1 x5_1=some r)∧Aside0 (kq≤k)∧Aside0 (Below w.heap.size w w'))
  case atStart=>exact⟨(0),jer,H',⟨zbc _⟩,⟨bq⟩⟩
  case round=>
   clear H'
   try clear c1
   try clear c2
   try clear p2
   try clear c3
   try clear c3b0
   try clear c3b1
   try clear c3b2
   obtain⟨x5_1,rfl,HA,HK1,HB⟩:=hrel
   cases gk with
   | zero=>exact absurd HA.out (by simp [laws_eqItemS.l0])
   | succ k1=>
    have H:=HA.out
    clear HA
    simp only[laws_eqItemS.l0] at H
    by_cases c4:x5_1<(l0.length:Int)
    ·rw[if_pos c4] at H
     have c4b0:=zag c4
     clear c4
     by_cases c5:0≤x5_1
     ·rw[if_pos c5] at H
      have c5b0:=zag c5
      clear c5
      by_cases c6:x5_1<(l1.length:Int)
      ·rw[if_pos c6] at H
       have c6b0:=zag c6
       clear c6
       obtain⟨t138,A7,H⟩:=bnd H
       by_cases c8:t138=true
       ·subst c8
        rw[if_pos rfl] at H
        have H':=Aside0.mk H
        clear H
        try go_wp2
        replace HB:=Aside0.mk (zan HB.out)
        obtain⟨p136,q136,ad136,A136_3,c136_3,e136,hw136_0,hw136_1,hw136_2,hw136_3,hx136_0,hx136_1,hx136_2,hx136_3,HC136_3,HR136_3⟩:=jelw HR0.out HB.out x5_1
        cases e136
        obtain⟨p137,q137,ad137,A137_3,c137_3,e137,hw137_0,hw137_1,hw137_2,hw137_3,hx137_0,hx137_1,hx137_2,hx137_3,HC137_3,HR137_3⟩:=jelw HR1.out HB.out x5_1
        cases e137
        refine start_ (n:=10) (S:=fun w'=>w'.cell? (ad136.add ((x5_1).toNat*4))=some (.string ((rd_T34 l0 x5_1).f0))∧w'.cell? ⟨(ad136.add ((x5_1).toNat*4)).block,(ad136.add ((x5_1).toNat*4)).off+1,none⟩=some (.int .i64 ((rd_T34 l0 x5_1).f1))∧w'.cell? ⟨(ad136.add ((x5_1).toNat*4)).block,(ad136.add ((x5_1).toNat*4)).off+2,none⟩=some (.int .i64 ((rd_T34 l0 x5_1).f2))∧w'.cell? ⟨(ad136.add ((x5_1).toNat*4)).block,(ad136.add ((x5_1).toNat*4)).off+3,none⟩=some (.slice A136_3 ((rd_T34 l0 x5_1).f3).length c136_3)∧w'.cell? (ad137.add ((x5_1).toNat*4))=some (.string ((rd_T34 l1 x5_1).f0))∧w'.cell? ⟨(ad137.add ((x5_1).toNat*4)).block,(ad137.add ((x5_1).toNat*4)).off+1,none⟩=some (.int .i64 ((rd_T34 l1 x5_1).f1))∧w'.cell? ⟨(ad137.add ((x5_1).toNat*4)).block,(ad137.add ((x5_1).toNat*4)).off+2,none⟩=some (.int .i64 ((rd_T34 l1 x5_1).f2))∧w'.cell? ⟨(ad137.add ((x5_1).toNat*4)).block,(ad137.add ((x5_1).toNat*4)).off+3,none⟩=some (.slice A137_3 ((rd_T34 l1 x5_1).f3).length c137_3)) (ds:=[]) #[false,false,false,false,false,false,false,false,false,false] (by kernel_rfl) rfl rfl ⟨(jcB HB.out hw136_0:),(jcB HB.out hw136_1:),(jcB HB.out hw136_2:),(jcB HB.out hw136_3:),(jcB HB.out hw137_0:),(jcB HB.out hw137_1:),(jcB HB.out hw137_2:),(jcB HB.out hw137_3:)⟩ (fun hHeld=>?_);refine with_tabW laws_eqItemS.tab6 laws_eqItemS.bits6 (fun HT_ HW_=>?_)
        generalize wr.drew=w9 at HB HR136_3 HR137_3 hx136_0 hx136_1 hx136_2 hx136_3 hx137_0 hx137_1 hx137_2 hx137_3 hHeld ⊢
        refine pu 0 17 HT_.out ?_
        refine pu 1 18 HT_.out ?_
        refine pu 2 19 HT_.out ?_
        refine pu 4 21 HT_.out ?_
        refine pu 5 22 HT_.out ?_
        refine pu 6 23 HT_.out ?_
        refine tk 3 20 HT_.out HW_.out hHeld ?_
        refine tk 7 24 HT_.out HW_.out hHeld ?_
        refine one_ (i:=8) (N:=some 25) #[true,true,true,true,true,true,true,true,true,false] rfl rfl (one_of HT_.out (by kernel_rfl)) (by decide) (fun K hK=>?_)
        refine goes_ Try.func27 (by kernel_rfl) rfl #[.agg #[.string ((rd_T34 l0 x5_1).f0), .int .i64 ((rd_T34 l0 x5_1).f1), .int .i64 ((rd_T34 l0 x5_1).f2), .slice A136_3 ((rd_T34 l0 x5_1).f3).length c136_3], .agg #[.string ((rd_T34 l1 x5_1).f0), .int .i64 ((rd_T34 l1 x5_1).f1), .int .i64 ((rd_T34 l1 x5_1).f2), .slice A137_3 ((rd_T34 l1 x5_1).f3).length c137_3]] (by rfl) rfl rfl jhl ?_
        with_reducible refine(laws_eqItem.calls k1 ((rd_T34 l0 x5_1).f0) ((rd_T34 l0 x5_1).f1) ((rd_T34 l0 x5_1).f2) _ _ ((rd_T34 l0 x5_1).f3) ((rd_T34 l1 x5_1).f0) ((rd_T34 l1 x5_1).f1) ((rd_T34 l1 x5_1).f2) _ _ ((rd_T34 l1 x5_1).f3) true _ ?side1 ?side2 ?side3 ?side4 A7.out).mono ?_
        (case side1=>exact jcs HR136_3.out)
        (case side2=>exact HC136_3.out)
        (case side3=>exact jcs HR137_3.out)
        (case side4=>exact HC137_3.out)
        rintro e w10 ⟨rfl,hb⟩
        refine⟨_,rfl,?_⟩
        replace HB:=Aside0.mk (zah bq hb)
        (try clear hb)
        (try clear hb2)
        (try clear hk)
        (try clear hi)
        refine hK.out _ _ ⟨(jcB HB.out hw136_0:),(jcB HB.out hw136_1:),(jcB HB.out hw136_2:),(jcB HB.out hw136_3:),(jcB HB.out hw137_0:),(jcB HB.out hw137_1:),(jcB HB.out hw137_2:),(jcB HB.out hw137_3:)⟩ (fun hHeld=>?_)
        clear hK K
        refine norm_ (a':=?_) ?_ ?_
        rotate_left
        ·show Act.put _ (some 25) _=_
         simp only[Act.put,zct,zdz,zea,i64_w,i32_w]
         rfl
        refine pu 9 26 HT_.out ?_
        refine done_ (done_of HT_.out (by kernel_rfl)) ?_
        try go_wp2
        go_roundg k1
        case measure=>have:=HK1.out;omega
        case rel=>exact⟨(wrap64 (x5_1+1)),jer,H',⟨by have:=HK1.out;omega⟩,⟨bq⟩⟩
       replace c8:=zcd.mpr c8
       subst c8
       rw[if_neg (show ¬(false=true) by decide)] at H
       obtain rfl:=Option.some.inj H
       try go_wp2
       replace HB:=Aside0.mk (zan HB.out)
       obtain⟨p136,q136,ad136,A136_3,c136_3,e136,hw136_0,hw136_1,hw136_2,hw136_3,hx136_0,hx136_1,hx136_2,hx136_3,HC136_3,HR136_3⟩:=jelw HR0.out HB.out x5_1
       cases e136
       obtain⟨p137,q137,ad137,A137_3,c137_3,e137,hw137_0,hw137_1,hw137_2,hw137_3,hx137_0,hx137_1,hx137_2,hx137_3,HC137_3,HR137_3⟩:=jelw HR1.out HB.out x5_1
       cases e137
       refine start_ (n:=10) (S:=fun w'=>w'.cell? (ad136.add ((x5_1).toNat*4))=some (.string ((rd_T34 l0 x5_1).f0))∧w'.cell? ⟨(ad136.add ((x5_1).toNat*4)).block,(ad136.add ((x5_1).toNat*4)).off+1,none⟩=some (.int .i64 ((rd_T34 l0 x5_1).f1))∧w'.cell? ⟨(ad136.add ((x5_1).toNat*4)).block,(ad136.add ((x5_1).toNat*4)).off+2,none⟩=some (.int .i64 ((rd_T34 l0 x5_1).f2))∧w'.cell? ⟨(ad136.add ((x5_1).toNat*4)).block,(ad136.add ((x5_1).toNat*4)).off+3,none⟩=some (.slice A136_3 ((rd_T34 l0 x5_1).f3).length c136_3)∧w'.cell? (ad137.add ((x5_1).toNat*4))=some (.string ((rd_T34 l1 x5_1).f0))∧w'.cell? ⟨(ad137.add ((x5_1).toNat*4)).block,(ad137.add ((x5_1).toNat*4)).off+1,none⟩=some (.int .i64 ((rd_T34 l1 x5_1).f1))∧w'.cell? ⟨(ad137.add ((x5_1).toNat*4)).block,(ad137.add ((x5_1).toNat*4)).off+2,none⟩=some (.int .i64 ((rd_T34 l1 x5_1).f2))∧w'.cell? ⟨(ad137.add ((x5_1).toNat*4)).block,(ad137.add ((x5_1).toNat*4)).off+3,none⟩=some (.slice A137_3 ((rd_T34 l1 x5_1).f3).length c137_3)) (ds:=[]) #[false,false,false,false,false,false,false,false,false,false] (by kernel_rfl) rfl rfl ⟨(jcB HB.out hw136_0:),(jcB HB.out hw136_1:),(jcB HB.out hw136_2:),(jcB HB.out hw136_3:),(jcB HB.out hw137_0:),(jcB HB.out hw137_1:),(jcB HB.out hw137_2:),(jcB HB.out hw137_3:)⟩ (fun hHeld=>?_);refine with_tabW laws_eqItemS.tab6 laws_eqItemS.bits6 (fun HT_ HW_=>?_)
       generalize wr.drew=w11 at HB HR136_3 HR137_3 hx136_0 hx136_1 hx136_2 hx136_3 hx137_0 hx137_1 hx137_2 hx137_3 hHeld ⊢
       refine pu 0 17 HT_.out ?_
       refine pu 1 18 HT_.out ?_
       refine pu 2 19 HT_.out ?_
       refine pu 4 21 HT_.out ?_
       refine pu 5 22 HT_.out ?_
       refine pu 6 23 HT_.out ?_
       refine tk 3 20 HT_.out HW_.out hHeld ?_
       refine tk 7 24 HT_.out HW_.out hHeld ?_
       refine one_ (i:=8) (N:=some 25) #[true,true,true,true,true,true,true,true,true,false] rfl rfl (one_of HT_.out (by kernel_rfl)) (by decide) (fun K hK=>?_)
       refine goes_ Try.func27 (by kernel_rfl) rfl #[.agg #[.string ((rd_T34 l0 x5_1).f0), .int .i64 ((rd_T34 l0 x5_1).f1), .int .i64 ((rd_T34 l0 x5_1).f2), .slice A136_3 ((rd_T34 l0 x5_1).f3).length c136_3], .agg #[.string ((rd_T34 l1 x5_1).f0), .int .i64 ((rd_T34 l1 x5_1).f1), .int .i64 ((rd_T34 l1 x5_1).f2), .slice A137_3 ((rd_T34 l1 x5_1).f3).length c137_3]] (by rfl) rfl rfl jhl ?_
       with_reducible refine(laws_eqItem.calls k1 ((rd_T34 l0 x5_1).f0) ((rd_T34 l0 x5_1).f1) ((rd_T34 l0 x5_1).f2) _ _ ((rd_T34 l0 x5_1).f3) ((rd_T34 l1 x5_1).f0) ((rd_T34 l1 x5_1).f1) ((rd_T34 l1 x5_1).f2) _ _ ((rd_T34 l1 x5_1).f3) false _ ?side1 ?side2 ?side3 ?side4 A7.out).mono ?_
       (case side1=>exact jcs HR136_3.out)
       (case side2=>exact HC136_3.out)
       (case side3=>exact jcs HR137_3.out)
       (case side4=>exact HC137_3.out)
       rintro e w12 ⟨rfl,hb⟩
       refine⟨_,rfl,?_⟩
       replace HB:=Aside0.mk (zah bq hb)
       (try clear hb)
       (try clear hb2)
       (try clear hk)
       (try clear hi)
       refine hK.out _ _ ⟨(jcB HB.out hw136_0:),(jcB HB.out hw136_1:),(jcB HB.out hw136_2:),(jcB HB.out hw136_3:),(jcB HB.out hw137_0:),(jcB HB.out hw137_1:),(jcB HB.out hw137_2:),(jcB HB.out hw137_3:)⟩ (fun hHeld=>?_)
       clear hK K
       refine norm_ (a':=?_) ?_ ?_
       rotate_left
       ·show Act.put _ (some 25) _=_
        simp only[Act.put,zct,zdz,zea,i64_w,i32_w]
        rfl
       refine pu 9 26 HT_.out ?_
       refine done_ (done_of HT_.out (by kernel_rfl)) ?_
       try go_wp2
       go_ret
       exact⟨jex,bq⟩
      rw[if_neg c6] at H
      exact absurd H (by simp)
     rw[if_neg c5] at H
     exact absurd H (by simp)
    rw[if_neg c4] at H
    have c4b0:=zaw c4
    clear c4
    obtain rfl:=Option.some.inj H
    go_wp2
    go_ret
    exact⟨jex,bq⟩
 rw[if_neg c3] at H
 have c3b0:=zbb.mpr c3
 have c3b1:=zda.mpr c3
 have c3b2:(l0.length==l1.length)=false:=by first | simpa using c3 | (simp at c3 ⊢;omega)
 obtain rfl:=Option.some.inj H
 go_enter Try.func22,Try.ntmps22
 go_wp2
 go_ret
 exact⟨jex,bq⟩
end Go.Proofs.Ytlalkldjpniakaa.P
/- What the laws' own helpers over items compute: sizes, copies, comparisons. -/
namespace Go.Proofs.Ytlalkldjpniakaa.B
open Go.RowKit Go.Proofs.Ytlalkldjpniakaa.P Go.Proofs.YtlalkldjpniakaaW.PrintWords Go.Proofs.YtlalkldjpniakaaW.PrintLast Go.Proofs.YtlalkldjpniakaaW.PrintMore
theorem szByteS (l:List Int) (a:Int) (hl:l.length≤maxLen) (h0:0≤a) (h1:a≤1048576):laws_szByteS.f l a=some (if(l.length:Int)>a then -1 else a - l.length):=by
  unfold laws_szByteS.f
  unfold maxLen at hl
  rw[wrap_eq _ (by omega) (by omega)]
  by_cases h:(l.length:Int)>a
  · rw[if_pos (by omega),if_pos h]
  · rw[if_neg (by omega),if_neg h]
/-- The size of an item: what is left, or less than nothing. -/
theorem szItem (s:ByteArray) (n m:Int) (l:List Int) (a:Int) (hs:s.size≤maxLen) (hl:l.length≤maxLen) (h0:0≤a) (h1:a≤1048576):
    laws_szItem.f s n m l a=some (-1)∨(laws_szItem.f s n m l a=some (a - s.size - l.length)∧(s.size:Int)+l.length≤a):=by
  unfold laws_szItem.f
  have hs':=hs
  unfold maxLen at hs'
  rw[wrap_eq _ (by omega) (by omega)]
  by_cases h:a - (s.size:Int)<0
  · rw[if_pos h];exact .inl rfl
  · rw[if_neg h,szByteS l _ hl (by omega) (by omega),Option.bind_some]
    by_cases h2:(l.length:Int)>a - (s.size:Int)
    · rw[if_pos h2,if_pos (by omega)];exact .inl rfl
    · rw[if_neg h2,if_neg (by omega)];exact .inr ⟨rfl,by omega⟩
def okIt (x:S31):Prop:=x.f0.size≤maxLen∧x.f3.length≤maxLen
def fits (x:S31):Prop:=x.f0.size≤1048576∧x.f3.length≤1048576
/-- The item as it is built anew. -/
def it (x:S31):S34:=⟨x.f0,x.f1,x.f2,x.f3⟩
theorem rdT31_mid (pre:List S31) (x:S31) (rest:List S31):rd_T31 (pre++x :: rest) (pre.length:Int)=x:=by
  unfold rd_T31;simp [List.getD_eq_getElem?_getD]
theorem rdT34_mid (pre:List S34) (x:S34) (rest:List S34):rd_T34 (pre++x :: rest) (pre.length:Int)=x:=by
  unfold rd_T34;simp [List.getD_eq_getElem?_getD]
theorem set_midT (pre:List S34) (a b:S34) (rest:List S34):(pre++b :: rest).set ((pre.length:Int).toNat) a=pre++a :: rest:=by simp
theorem szItemS_l0:∀ (rest pre:List S31) (a:Int) (k:Nat),(∀ y∈rest,okIt y)→0≤a→a≤1048576→pre.length+rest.length≤4611686018427387904→rest.length<k→
    ∃ r,laws_szItemS.l0 k (pre++rest) a (pre.length:Int)=some r∧(¬r<0→∀ y∈rest,fits y)
  | [],pre,a,k,hg,h0,h1,hb,hk=>by
    obtain⟨k,rfl⟩:∃ m,k=m+1:=⟨k - 1,by omega⟩
    refine⟨a,?_,by simp⟩
    simp only[laws_szItemS.l0];rw[if_neg (nlt_end pre)]
  | x :: rest,pre,a,k,hg,h0,h1,hb,hk=>by
    obtain⟨k,rfl⟩:∃ m,k=m+1:=⟨k - 1,by simp at hk;omega⟩
    simp only[List.length_cons] at hb hk
    have hx:=hg x List.mem_cons_self
    simp only[laws_szItemS.l0]
    rw[if_pos (lt_mid pre x rest),if_pos (pre_nonneg pre),rdT31_mid]
    rcases szItem x.f0 x.f1 x.f2 x.f3 a hx.1 hx.2 h0 h1 with e | ⟨e,hle⟩
    · rw[e,Option.bind_some,if_pos (by omega)]
      exact⟨-1,rfl,fun h=>absurd (by omega) h⟩
    · rw[e,Option.bind_some,if_neg (by omega),wrap_step pre x (by omega),snoc_app pre x rest]
      obtain⟨r,hr,hf⟩:=szItemS_l0 rest (pre++[x]) (a - x.f0.size - x.f3.length) k (fun y hy=>hg y (List.mem_cons_of_mem _ hy)) (by omega) (by omega) (by simp;omega) (by omega)
      refine⟨r,hr,fun h y hy=>?_⟩
      rcases List.mem_cons.1 hy with rfl | hy
      · unfold fits;omega
      · exact hf h y hy
theorem szItemS (l:List S31) (a:Int) (hl:l.length≤maxLen) (hg:∀ y∈l,okIt y) (h0:0≤a) (h1:a≤1048576) (k:Nat) (hk:l.length<k):
    ∃ r,laws_szItemS.f k l a=some r∧(¬r<0→l.length≤1048576∧∀ y∈l,fits y):=by
  unfold laws_szItemS.f
  have hl':=hl
  unfold maxLen at hl'
  rw[wrap_eq _ (by omega) (by omega)]
  by_cases h:a - (l.length:Int)<0
  · rw[if_pos h];exact⟨-1,rfl,fun h=>absurd (by omega) h⟩
  · rw[if_neg h]
    obtain⟨r,hr,hf⟩:=szItemS_l0 l [] (a - l.length) k hg (by omega) (by omega) (by simp;omega) hk
    exact⟨r,hr,fun h=>⟨by omega,hf h⟩⟩
theorem toItem (s:ByteArray) (n m:Int) (l:List Int) (hl:l.length≤1048576) (k:Nat) (hk:1048576<k):laws_toItem.f k s n m l=some (s,n,m,l):=by
  unfold laws_toItem.f
  rw[toByteS l (by omega) k (by omega)];rfl
theorem toItemS_l0:∀ (rest:List S31) (rest':List S34) (pre:List S31) (k:Nat),(∀ y∈rest,fits y)→rest'.length=rest.length→pre.length+rest.length≤1099511627776→rest.length+1048576<k→
    laws_toItemS.l0 k (pre++rest) (pre.map it++rest') (pre.length:Int)=some ((pre++rest).map it)
  | [],rest',pre,k,hf,hl,hb,hk=>by
    obtain⟨k,rfl⟩:∃ m,k=m+1:=⟨k - 1,by omega⟩
    obtain rfl:rest'=[]:=List.eq_nil_of_length_eq_zero (by simpa using hl)
    simp only[laws_toItemS.l0];rw[if_neg (nlt_end pre)];simp
  | x :: rest,rest',pre,k,hf,hl,hb,hk=>by
    obtain⟨k,rfl⟩:∃ m,k=m+1:=⟨k - 1,by simp at hk;omega⟩
    cases rest' with
    | nil=>simp at hl
    | cons b rest'=>
      simp only[List.length_cons] at hl hb hk
      have hx:=hf x List.mem_cons_self
      have ih:=toItemS_l0 rest rest' (pre++[x]) k (fun y hy=>hf y (List.mem_cons_of_mem _ hy)) (by omega) (by simp;omega) (by omega)
      have hp:pre.length=(pre.map it).length:=by simp
      simp only[laws_toItemS.l0]
      rw[if_pos (lt_mid pre x rest),if_pos (pre_nonneg pre),rdT31_mid,toItem _ _ _ _ hx.2 k (by omega),Option.bind_some,if_pos (by rw[hp];exact lt_mid _ b rest'),wrap_step pre x (by omega)]
      rw[show(pre.map it++b :: rest').set ((pre.length:Int).toNat) (⟨x.f0,x.f1,x.f2,x.f3⟩:S34)=(pre++[x]).map it++rest' from by rw[hp,set_midT,List.map_append,List.append_assoc];rfl,snoc_app pre x rest]
      exact ih
theorem toItemS (l:List S31) (hl:l.length≤1048576) (hf:∀ y∈l,fits y) (k:Nat) (hk:2097152<k):laws_toItemS.f k l=some (l.map it):=by
  unfold laws_toItemS.f
  rw[if_pos (by omega),if_pos (by omega)]
  have h:=toItemS_l0 l (List.replicate l.length z34) [] k hf (by simp) (by simp;omega) (by omega)
  rw[Int.toNat_natCast]
  exact h
theorem eqItem_same (s:ByteArray) (n m:Int) (l:List Int) (hl:l.length≤1048576) (k:Nat) (hk:1048576<k):laws_eqItem.f k s n m l s n m l=some true:=by
  unfold laws_eqItem.f
  rw[if_pos rfl,if_pos rfl,if_pos rfl,eqByteS_same l (by omega) k (by omega)];rfl
theorem eqItemS_l0:∀ (rest pre:List S34) (k:Nat),(∀ y∈rest,y.f3.length≤1048576)→pre.length+rest.length≤1099511627776→rest.length+1048576<k→laws_eqItemS.l0 k (pre++rest) (pre++rest) (pre.length:Int)=some true
  | [],pre,k,hf,hb,hk=>by
    obtain⟨k,rfl⟩:∃ m,k=m+1:=⟨k - 1,by omega⟩
    simp only[laws_eqItemS.l0];rw[if_neg (nlt_end pre)]
  | x :: rest,pre,k,hf,hb,hk=>by
    obtain⟨k,rfl⟩:∃ m,k=m+1:=⟨k - 1,by simp at hk;omega⟩
    simp only[List.length_cons] at hb hk
    have ih:=eqItemS_l0 rest (pre++[x]) k (fun y hy=>hf y (List.mem_cons_of_mem _ hy)) (by simp;omega) (by omega)
    simp only[laws_eqItemS.l0]
    rw[if_pos (lt_mid pre x rest),if_pos (pre_nonneg pre),if_pos (lt_mid pre x rest),rdT34_mid,eqItem_same _ _ _ _ (hf x List.mem_cons_self) k (by omega),Option.bind_some,if_pos rfl,wrap_step pre x (by omega),snoc_app pre x rest]
    exact ih
theorem eqItemS_same (l:List S34) (hl:l.length≤1048576) (hf:∀ y∈l,y.f3.length≤1048576) (k:Nat) (hk:2097152<k):laws_eqItemS.f k l l=some true:=by
  unfold laws_eqItemS.f
  rw[if_pos rfl]
  exact eqItemS_l0 l [] k hf (by simp;omega) (by omega)
end Go.Proofs.Ytlalkldjpniakaa.B
