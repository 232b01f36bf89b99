import Derived.ChangeArms
import Derived.Deep.Slices
import Derived.Lib.SmallJoins
import Derived.Test.Ytlalkldjpniakaabk11
import Derived.Laws.BitsAllLaws
import Derived.Test.Ytlalkldjpniakaabk13
import Derived.Test.Ytlalkldjpniakaabk15
namespace Go.Proofs.Ytlalkldjpniakaa.P
open Go.RowKit Go.Proofs.YtlalkldjpniakaaW.PrintWords Go.Proofs.YtlalkldjpniakaaW.PrintLast Go.Proofs.YtlalkldjpniakaaW.PrintMore
attribute [local go_sem] zck zcl zdl zdm zbz zca zcm zcn -- for this text's walks alone
set_option linter.unusedVariables false
set_option linter.unusedSimpArgs false
set_option maxHeartbeats 8000000
set_option maxRecDepth 100000

def laws_sameLine.f (a0_0:Int) (a0_1:ByteArray) (a0_2:Int) (a0_3:Int) (l0_4:List Int) (a1_0:Int) (a1_1:ByteArray) (a1_2:Int) (a1_3:Int) (l1_4:List Int):Option (Bool):=if a0_0=a1_0 then(if a0_1.toList=a1_1.toList then(if a0_2=a1_2 then(if a0_3=a1_3 then(some ((strOfNums l0_4).toList==(strOfNums l1_4).toList)) else(some false)) else(some false)) else(some false)) else(some false)
theorem laws_sameLine.wk {P:Prop} (h:P:=by
 go_enter Try.func76,Try.ntmps76
 go_wp2_with (first | (refine jgd 2 ?_;refine bx 2 (#[.int .i64 a0_0, .string a0_1, .int .i64 a0_2, .int .i64 a0_3, .slice A0_4 l0_4.length c0_4]) 48 ?_;intro gb1226 hg w_ hbox hb;have xb_:=below_ofs bq hb;have n_:=jA4 (zac xb_ hb) (hbox) (ge0 hg xb_:w.heap.size≤gb1226) (ge0 hg xb_:w.heap.size≤gb1226);clear HB;obtain⟨HB,BK1226,GW1226,GE1226⟩:=n_;clear xb_ hb hbox hg) | (refine jgd 3 ?_;refine bx 3 (#[.int .i64 a1_0, .string a1_1, .int .i64 a1_2, .int .i64 a1_3, .slice A1_4 l1_4.length c1_4]) 48 ?_;intro gb1227 hg w_ hbox hb;have n_:=jA7 (jbb BK1226.out hb) (zac (bs1 GE1226.out) hb) (hbox) (ge0 hg (bs1 GE1226.out):w.heap.size≤gb1227) (ge0 hg (bs1 GE1226.out):w.heap.size≤gb1227) (nl hg (pB BK1226.out):gb1226≠gb1227) (ng hg (pB BK1226.out):gb1227≠gb1226);clear BK1226 HB;obtain⟨BK1226,HB,BK1227,GW1227,GE1227,NB1226_1227,NB1227_1226⟩:=n_;clear hb hbox hg;have hnb_:=NB1226_1227.out;have hnc_:=NB1227_1226.out;obtain⟨c0,c1,c2,c3,c4,z0,z1,z2,z3,z4⟩:=cz5 BK1226.out;obtain⟨c0,c1,c2,c3,c4,z0,z1,z2,z3,z4⟩:=cz5 BK1227.out;have hcv12:=Kd.C_string (P:=Try.prog) (A:=A0_4) (c:=c0_4) Try.underlying29 Try.underlying5 Try.underlying9 (zbc HR0_4.out HB.out);have hcv13:=Kd.C_string (P:=Try.prog) (A:=A1_4) (c:=c1_4) Try.underlying29 Try.underlying5 Try.underlying9 (zbc HR1_4.out HB.out)) | (refine jgd 3 ?_;refine bx 3 (#[.int .i64 a1_0, .string a1_1, .int .i64 a1_2, .int .i64 a1_3, .slice A1_4 l1_4.length c1_4]) 48 ?_;intro gb1227 hg w_ hbox hb;have n_:=jA7 (jbb BK1226.out hb) (zac (bs1 GE1226.out) hb) (hbox) (ge0 hg (bs1 GE1226.out):w.heap.size≤gb1227) (ge0 hg (bs1 GE1226.out):w.heap.size≤gb1227) (nl hg (pB BK1226.out):gb1226≠gb1227) (ng hg (pB BK1226.out):gb1227≠gb1226);clear BK1226 HB;obtain⟨BK1226,HB,BK1227,GW1227,GE1227,NB1226_1227,NB1227_1226⟩:=n_;clear hb hbox hg;have hnb_:=NB1226_1227.out;have hnc_:=NB1227_1226.out;obtain⟨c0,c1,c2,c3,c4,z0,z1,z2,z3,z4⟩:=cz5 BK1226.out;obtain⟨c0,c1,c2,c3,c4,z0,z1,z2,z3,z4⟩:=cz5 BK1227.out))
 go_ret
 exact⟨jex,(bs2 GE1226.out GE1227.out)⟩):P:=h
theorem laws_sameLine.calls (a0_0:Int) (a0_1:ByteArray) (a0_2:Int) (a0_3:Int) (A0_4:Option Addr) (c0_4:Nat) (l0_4:List Int) (a1_0:Int) (a1_1:ByteArray) (a1_2:Int) (a1_3:Int) (A1_4:Option Addr) (c1_4:Nat) (l1_4:List Int) (r:Bool) (w:World) (hr0_4:Kd.C (Kd.int .u8) w A0_4 l0_4.length l0_4) (hc0_4:l0_4.length≤c0_4) (hr1_4:Kd.C (Kd.int .u8) w A1_4 l1_4.length l1_4) (hc1_4:l1_4.length≤c1_4) (h:laws_sameLine.f a0_0 a0_1 a0_2 a0_3 l0_4 a1_0 a1_1 a1_2 a1_3 l1_4=some r):
  Calls Try.prog 76 #[.agg #[.int .i64 a0_0, .string a0_1, .int .i64 a0_2, .int .i64 a0_3, .slice A0_4 l0_4.length c0_4], .agg #[.int .i64 a1_0, .string a1_1, .int .i64 a1_2, .int .i64 a1_3, .slice A1_4 l1_4.length c1_4]] w fun e w'=>e= .returned (.bool r)∧Below w.heap.size w w':=by
 have hu48:=Try.underlying48
 have HR0_4:=Aside0.mk hr0_4
 have HC0_4:=Aside0.mk hc0_4
 clear hr0_4 hc0_4
 have HR1_4:=Aside0.mk hr1_4
 have I0:=Aside0.mk hc1_4
 clear hr1_4 hc1_4
 have HB:=Aside0.mk (zbo w.heap.size w)
 have H:(if a0_0=a1_0 then(if a0_1.toList=a1_1.toList then(if a0_2=a1_2 then(if a0_3=a1_3 then(some ((strOfNums l0_4).toList==(strOfNums l1_4).toList)) else(some false)) else(some false)) else(some false)) else(some false))=some r:=h
 clear h
 by_cases c3:a0_0=a1_0
 ·rw[if_pos c3] at H
  have o0:=beqT c3
  have B0:=zbb.mpr c3
  clear c3
  by_cases c4:a0_1.toList=a1_1.toList
  ·rw[if_pos c4] at H
   have C0:=beqT c4
   have D0:=zbb.mpr c4
   clear c4
   by_cases c5:a0_2=a1_2
   ·rw[if_pos c5] at H
    have E0:=beqT c5
    have F0:=zbb.mpr c5
    clear c5
    by_cases c6:a0_3=a1_3
    ·rw[if_pos c6] at H
     have G0:=beqT c6
     have H0:=zbb.mpr c6
     clear c6
     obtain rfl:=Option.some.inj H
     exact laws_sameLine.wk
    rw[if_neg c6] at H
    have G0:=zau.mpr c6
    have H0:=zcz.mpr c6
    obtain rfl:=Option.some.inj H
    exact laws_sameLine.wk
   rw[if_neg c5] at H
   have E0:=zau.mpr c5
   have F0:=zcz.mpr c5
   obtain rfl:=Option.some.inj H
   exact laws_sameLine.wk
  rw[if_neg c4] at H
  have C0:=zau.mpr c4
  have D0:=zcz.mpr c4
  obtain rfl:=Option.some.inj H
  exact laws_sameLine.wk
 rw[if_neg c3] at H
 have o0:=zau.mpr c3
 have B0:=zcz.mpr c3
 obtain rfl:=Option.some.inj H
 exact laws_sameLine.wk
end Go.Proofs.Ytlalkldjpniakaa.P
/- How what comes in (whole numbers, texts, lists and records of these, in whatever memory) reads as plain values: for the rows of laws; no condition. -/
namespace Go.Proofs.YtlalkldjpniakaaW.PrintWords
open Go.RowKit Go.Joins
/-- Whatever reads as data of type t is a value of the kind d, and a good one. -/
def Opens {α:Type} (P:Program) (W:World) (t:TypeId) (d:Kd α) (good:α→Prop):Prop:=
  ∀ (H:Type) (enc:TypeId×Value→H) (base:Nat) (spare:Nat→Bool) (held:Bool) (fuel:Nat) (cs:List Value) (x:DataW H×List MemPlace),
    DataW.trod enc P W base spare held fuel t cs=some x→∃ y,d.K W y cs∧good y
section
variable {P:Program} {W:World} {t:TypeId}
theorem opens_int {k:IntKind} (ht:P.underlying t=some (.int k)):Opens P W t (Kd.int k) (fun x=>(Lit.int k x).wf=true):=by
  intro H enc base spare held fuel cs x h
  obtain⟨n,rfl,_,hw⟩:=DataW.trod_int ht h
  exact⟨n,rfl,hw⟩
theorem opens_string (ht:P.underlying t=some .string):Opens P W t Kd.string (fun s=>s.size≤maxLen):=by
  intro H enc base spare held fuel cs x h
  obtain⟨s,rfl,_,hw⟩:=DataW.trod_string ht h
  exact⟨s,rfl,hw⟩
theorem list_of {α:Type} {p:Nat→α→Prop}:∀ n:Nat,(∀ i,i<n→∃ y,p i y)→∃ ys:List α,ys.length=n∧∀ i y,ys[i]? =some y→p i y
  | 0,_=>⟨[],rfl,fun i y h=>by simp at h⟩
  | n+1,h=>by
    obtain⟨ys,hl,hy⟩:=list_of n (fun i hi=>h i (by omega))
    obtain⟨z,hz⟩:=h n (by omega)
    refine⟨ys++[z],by simp [hl],fun i y hi=>?_⟩
    by_cases hlt:i<ys.length
    · rw[List.getElem?_append_left hlt] at hi
      exact hy i y hi
    · rw[List.getElem?_append_right (by omega)] at hi
      have h0:i - ys.length=0:=by
        rcases Nat.eq_zero_or_pos (i - ys.length) with h0 | h0
        · exact h0
        · rw[List.getElem?_eq_none (by simp;omega)] at hi
          cases hi
      rw[h0] at hi
      have hin:i=n:=by omega
      rw[hin]
      simp at hi
      rw[← hi]
      exact hz
theorem opens_slice {α:Type} {d:Kd α} {good:α→Prop} {e:TypeId} (e1:Nat) (ht:P.underlying t=some (.slice e)) (hc:P.cellsOf e=d.sz) (hd:Opens P W e d good):
    Opens P W t (Kd.slice e1 d) (fun xs=>xs.length≤maxLen∧∀ x∈xs,good x):=by
  intro H enc base spare held fuel cs x h
  rcases Deep.open_slice ht h with ⟨rfl,_⟩ | ⟨a,len,cap,m,n,D,Pl,rfl,_,hl,hm,hmm,_,hel⟩
  · exact⟨[],⟨none,0,rfl,Nat.le_refl _,rfl,Nat.zero_le _,fun h=>absurd h (by simp)⟩,Nat.zero_le _,fun x hx=>by simp at hx⟩
  · have hlm:len≤m:=by rw[hmm];split <;> omega
    obtain⟨ys,hyl,hy⟩:=list_of (p:=fun i y=>good y∧∃ c,c.length=d.sz∧d.K W y c∧∀ j u,c[j]? =some u→W.cell? (a.add (i*d.sz+j))=some u) len (fun i hi=>by
      obtain⟨cs1,h1,h2⟩:=hel i (by omega)
      obtain⟨y,hK,hg⟩:=hd H enc base spare held n cs1 _ h2
      obtain⟨hb1,hlen,hcell⟩:=World.cells?_some h1
      refine⟨y,hg,cs1,by rw[hlen,hc],hK,fun j u hu=>?_⟩
      have hj:j<cs1.length:=(List.getElem?_eq_some_iff.1 hu).1
      have h3:=hcell j (by omega)
      rw[hc,Addr.add_add] at h3
      rw[h3,hu])
    refine⟨ys,⟨some a,cap,by rw[hyl],by rw[hyl];exact hl,rfl,?_,fun _=>⟨a,rfl,fun j p hp=>(hy j p hp).2⟩⟩,?_,fun x hx=>?_⟩
    · have:=hm;unfold maxLen at this;omega
    · have:=hm;omega
    · obtain⟨i,hi,rfl⟩:=List.mem_iff_getElem.1 hx
      exact(hy i _ (List.getElem?_eq_getElem hi)).1
/-- A record's cells, one by one, where each field has one cell. -/
theorem opens_fields {fs:Array Field} {H:Type} {enc:TypeId×Value→H} {base:Nat} {spare:Nat→Bool} {held:Bool} {fuel:Nat} {cs:List Value} {x:DataW H×List MemPlace}
    (ht:P.underlying t=some (.struct fs)) (hn:P.cellsOf t=fs.size) (hone:∀ (i:Nat) (f:Field),fs[i]? =some f→f.offset=i∧P.cellsOf f.type=1) (h:DataW.trod enc P W base spare held fuel t cs=some x):
    cs.length=fs.size∧∃ n,∀ (i:Nat) (f:Field),fs[i]? =some f→∃ u y,cs[i]? =some u∧DataW.trod enc P W base spare held n f.type [u]=some y:=by
  obtain⟨xs,n,_,_,hl,hlen,hf⟩:=DataW.trod_struct ht h
  have hcl:cs.length=fs.size:=by rw[hl,hn]
  refine⟨hcl,n,fun i f hi=>?_⟩
  have hlt:i<fs.size:=(Array.getElem?_eq_some_iff.1 hi).1
  obtain⟨h1,h2⟩:=hone i f hi
  have h3:=hf i f hi
  rw[h1,h2,List.drop_eq_getElem_cons (show i<cs.length by omega),List.take_succ_cons,List.take_zero,List.getElem?_eq_getElem (show i<xs.length by omega)] at h3
  exact⟨cs[i],_,List.getElem?_eq_getElem (by omega),h3⟩
end
end Go.Proofs.YtlalkldjpniakaaW.PrintWords
/- Plain lemmas on lists and on numbers that do not wrap, used by all pure statements of this seat; no condition but those each lemma names. -/
namespace Go.Proofs.Ytlalkldjpniakaa.B
open Go.RowKit Go.Proofs.YtlalkldjpniakaaW.PrintWords Go.Proofs.YtlalkldjpniakaaW.PrintLast Go.Proofs.YtlalkldjpniakaaW.PrintMore

theorem wrap_eq (x:Int) (h0: -9223372036854775808≤x) (h1:x≤9223372036854775807):wrap64 x=x:=by
  unfold wrap64;omega
theorem rd_mid (pre:List Int) (a:Int) (rest:List Int):rd (pre++a :: rest) (pre.length:Int)=a:=by
  unfold rd;simp [List.getD_eq_getElem?_getD]
theorem set_mid (pre:List Int) (a b:Int) (rest:List Int):(pre++b :: rest).set ((pre.length:Int).toNat) a=pre++a :: rest:=by
  simp
theorem lt_mid {α:Type} (pre:List α) (a:α) (rest:List α):(pre.length:Int)<(((pre++a :: rest).length:Nat):Int):=by
  simp;omega
theorem nlt_end {α:Type} (pre:List α):¬((pre.length:Int)<(((pre++[]).length:Nat):Int)):=by
  simp
theorem wrap_step {α:Type} (pre:List α) (a:α) (h:pre.length≤4611686018427387904):wrap64 ((pre.length:Int)+1)=(((pre++[a]).length:Nat):Int):=by
  rw[wrap_eq _ (by omega) (by omega)];simp
theorem snoc_app {α:Type} (pre:List α) (a:α) (rest:List α):pre++a :: rest=(pre++[a])++rest:=by simp
theorem pre_nonneg {α:Type} (pre:List α):0≤(pre.length:Int):=by omega

theorem rd_mid2 (pa pb:List Int) (a:Int) (rest:List Int) (h:pa.length=pb.length):rd (pb++a :: rest) (pa.length:Int)=a:=by
  rw[h];exact rd_mid pb a rest
theorem lt_mid2 {α:Type} (pa pb:List α) (a:α) (rest:List α) (h:pa.length=pb.length):(pa.length:Int)<(((pb++a :: rest).length:Nat):Int):=by
  rw[h];exact lt_mid pb a rest
theorem nlt_end2 {α:Type} (pa pb:List α) (h:pa.length=pb.length):¬((pa.length:Int)<(((pb++[]).length:Nat):Int)):=by
  rw[h];exact nlt_end pb
/-- n numbers m, m + 1, .. as bytes. -/
def marks:Nat→Int→List Int
  | 0,_=>[]
  | n+1,m=>m % 256 :: marks n (m+1)
theorem marks_length:∀ (n:Nat) (m:Int),(marks n m).length=n
  | 0,_=>rfl
  | n+1,m=>by simp [marks,marks_length n]
theorem marks_snoc:∀ (n:Nat) (m:Int),marks n m++[(m+n) % 256]=marks (n+1) m
  | 0,m=>by simp [marks]
  | n+1,m=>by
    have h:=marks_snoc n (m+1)
    rw[show m+1+(n:Int)=m+((n+1:Nat):Int) from by omega] at h
    rw[marks,marks,List.cons_append,h]
/-- n numbers m, m + 1, .. -/
def counts:Nat→Int→List Int
  | 0,_=>[]
  | n+1,m=>m :: counts n (m+1)
theorem counts_length:∀ (n:Nat) (m:Int),(counts n m).length=n
  | 0,_=>rfl
  | n+1,m=>by simp [counts,counts_length n]
theorem counts_snoc:∀ (n:Nat) (m:Int),counts n m++[m+n]=counts (n+1) m
  | 0,m=>by simp [counts]
  | n+1,m=>by
    have h:=counts_snoc n (m+1)
    rw[show m+1+(n:Int)=m+((n+1:Nat):Int) from by omega] at h
    rw[counts,counts,List.cons_append,h]
end Go.Proofs.Ytlalkldjpniakaa.B
/- Unhex, by the program and by the reference; for texts of at most 2^40 bytes. -/
namespace Go.Proofs.Ytlalkldjpniakaa.B
open Go.RowKit Go.Proofs.Ytlalkldjpniakaa.P Go.Proofs.YtlalkldjpniakaaW.PrintWords Go.Proofs.YtlalkldjpniakaaW.PrintLast Go.Proofs.YtlalkldjpniakaaW.PrintMore
def sgn (c:Int):Int:=if 48≤c∧c≤57 then c - 48 else if 97≤c∧c≤102 then c - 87 else -1
theorem sgn_range (c:Int): -1≤sgn c∧sgn c<16:=by
  unfold sgn
  split
  · omega
  · split <;> omega
theorem bt_rng (s:ByteArray) (i:Int):0≤bt s i∧bt s i<256:=by
  unfold bt;split
  · have:=(s[i.toNat]'(by assumption)).toNat_lt;omega
  · omega
theorem specSign (c:Int) (h0:0≤c) (h1:c<256) (k:Nat):spec_l1Sign.f (k+1) c=some (sgn c):=by
  have e0:wrap64 c=c:=wrap_eq _ (by omega) (by omega)
  unfold spec_l1Sign.f sgn
  simp only[spec_l1Sign.j0,e0,decide_eq_true_eq]
  repeat' split
  all_goals first | rfl | contradiction | (exfalso;omega) | (rw[wrap_eq _ (by omega) (by omega)])
theorem implSign256:∀ n:Fin 256,Lib.indexByte [48,49,50,51,52,53,54,55,56,57,97,98,99,100,101,102] n.val.toUInt8=sgn (n.val:Int):=by
  decide+kernel
theorem implSign (c:Int) (h0:0≤c) (h1:c<256):strings_IndexByte.f (⟨#[48,49,50,51,52,53,54,55,56,57,97,98,99,100,101,102]⟩:ByteArray) c=some (sgn c):=by
  have h:=implSign256 ⟨c.toNat,by omega⟩
  simp only[strings_IndexByte.f,stringslite_IndexByte.f,Option.bind_some]
  rw[show((c.toNat:Nat):Int)=c from by omega] at h
  exact congrArg some h
theorem two16:∀ a b:Fin 16,(wrap64 ((wrap64 (16*(a.val:Int)))+(b.val:Int))) % 256=(Go.bits .or .i64 (wrap64 ((a.val:Int)*16)) (b.val:Int)) % 256:=by
  decide+kernel
theorem two (a b:Int) (ha:0≤a∧a<16) (hb:0≤b∧b<16):(Go.bits .or .i64 (wrap64 (a*16)) b) % 256=(wrap64 ((wrap64 (16*a))+b)) % 256:=by
  have h:=two16 ⟨a.toNat,by omega⟩ ⟨b.toNat,by omega⟩
  simp only[] at h
  rw[show((a.toNat:Nat):Int)=a from by omega,show((b.toNat:Nat):Int)=b from by omega] at h
  exact h.symm
theorem unhex_l0 (s:ByteArray) (hs:s.size≤1099511627776):∀ (n i:Nat) (acc:List Int),s.size - i≤n→i≤s.size→i % 2=0→acc.length+(s.size - i)≤4398046511104→
    ∃ r:List Int×Bool,r.1.length≤acc.length+(s.size - i)∧(s.size % 2=1→r=([],false))∧(∀ k,n+2<k→spec_Unhex.l0 k s acc (i:Int)=some r)∧(∀ k,n+2<k→s.size % 2=0→impl_Unhex.l0 k s acc (i:Int)=some r)∧(r.2=true→2*r.1.length=2*acc.length+(s.size - i))
  | 0,i,acc,hn,hi,h2,hc=>by
    have he:i=s.size:=by omega
    subst he
    refine⟨(acc,true),by simp,fun h=>by omega,fun k hk=>?_,fun k hk _=>?_,fun _=>by simp⟩
    · obtain⟨k,rfl⟩:∃ m,k=m+1:=⟨k - 1,by omega⟩
      simp only[spec_Unhex.l0];rw[wrap_eq _ (by omega) (by omega),if_neg (by omega),if_pos (by omega)]
    · obtain⟨k,rfl⟩:∃ m,k=m+1:=⟨k - 1,by omega⟩
      simp only[impl_Unhex.l0];rw[if_neg (by omega)]
  | n+1,i,acc,hn,hi,h2,hc=>by
    by_cases hd:i+1<s.size
    · have e1:wrap64 ((i:Int)+1)=i+1:=wrap_eq _ (by omega) (by omega)
      have e2:wrap64 ((i:Int)+2)=((i+2:Nat):Int):=by rw[wrap_eq _ (by omega) (by omega)];rfl
      obtain⟨a0,a1⟩:=bt_rng s i
      obtain⟨b0,b1⟩:=bt_rng s ((i:Int)+1)
      obtain⟨sa0,sa1⟩:=sgn_range (bt s i)
      obtain⟨sb0,sb1⟩:=sgn_range (bt s ((i:Int)+1))
      by_cases bad:sgn (bt s i)<0∨sgn (bt s ((i:Int)+1))<0
      · refine⟨([],false),by simp,fun _=>rfl,fun k hk=>?_,fun k hk _=>?_,fun h=>by cases h⟩
        · obtain⟨k,rfl⟩:∃ m,k=m+2:=⟨k - 2,by omega⟩
          simp only[spec_Unhex.l0,e1,specSign _ a0 a1,specSign _ b0 b1,Option.bind_some]
          rw[if_pos (by omega),if_pos (by omega),if_pos (by omega),if_pos (by omega)]
          by_cases hx:sgn (bt s i)<0
          · rw[if_pos hx]
          · rw[if_neg hx,if_pos (by omega)]
        · obtain⟨k,rfl⟩:∃ m,k=m+1:=⟨k - 1,by omega⟩
          simp only[impl_Unhex.l0,e1,implSign _ a0 a1,implSign _ b0 b1,Option.bind_some]
          rw[if_pos (by omega),if_pos (by omega),if_pos (by omega),if_pos (by omega)]
          by_cases hx:sgn (bt s i)<0
          · rw[if_pos hx]
          · rw[if_neg hx,if_pos (by omega)]
      · obtain⟨r,hr0,hr1,hr2,hr3,hr4⟩:=unhex_l0 s hs n (i+2) (acc++[(wrap64 ((wrap64 (16*sgn (bt s i)))+sgn (bt s ((i:Int)+1)))) % 256]) (by omega) (by omega) (by omega) (by simp;omega)
        refine⟨r,by simp at hr0;omega,hr1,fun k hk=>?_,fun k hk h=>?_,fun h=>by have h4:=hr4 h;rw[List.length_append,List.length_singleton] at h4;omega⟩
        · obtain⟨k,rfl⟩:∃ m,k=m+2:=⟨k - 2,by omega⟩
          simp only[spec_Unhex.l0.eq_2,e1,e2,specSign _ a0 a1,specSign _ b0 b1,Option.bind_some]
          rw[if_pos (by omega),if_pos (by omega),if_pos (by omega),if_pos (by omega),if_neg (by omega),if_neg (by omega),if_pos (by omega)]
          exact hr2 (k+1) (by omega)
        · obtain⟨k,rfl⟩:∃ m,k=m+1:=⟨k - 1,by omega⟩
          simp only[impl_Unhex.l0,e1,e2,implSign _ a0 a1,implSign _ b0 b1,Option.bind_some]
          rw[if_pos (by omega),if_pos (by omega),if_pos (by omega),if_pos (by omega),if_neg (by omega),if_neg (by omega),if_pos (by omega),two _ _ (by omega) (by omega)]
          exact hr3 k (by omega) h
    · by_cases ho:i=s.size
      · subst ho
        refine⟨(acc,true),by simp,fun h=>by omega,fun k hk=>?_,fun k hk _=>?_,fun _=>by simp⟩
        · obtain⟨k,rfl⟩:∃ m,k=m+1:=⟨k - 1,by omega⟩
          simp only[spec_Unhex.l0];rw[wrap_eq _ (by omega) (by omega),if_neg (by omega),if_pos (by omega)]
        · obtain⟨k,rfl⟩:∃ m,k=m+1:=⟨k - 1,by omega⟩
          simp only[impl_Unhex.l0];rw[if_neg (by omega)]
      · refine⟨([],false),by simp,fun _=>rfl,fun k hk=>?_,fun k hk h=>by omega,fun h=>by cases h⟩
        obtain⟨k,rfl⟩:∃ m,k=m+1:=⟨k - 1,by omega⟩
        simp only[spec_Unhex.l0];rw[wrap_eq _ (by omega) (by omega),if_neg (by omega),if_neg (by omega)]
theorem unhex (s:ByteArray) (hs:s.size≤1099511627776):∃ r:List Int×Bool,r.1.length≤s.size∧(r.2=true→2*r.1.length=s.size)∧∀ k,s.size+3<k→spec_Unhex.f k s=some r∧impl_Unhex.f k s=some r:=by
  obtain⟨r,h0,h1,h2,h3,h4⟩:=unhex_l0 s hs s.size 0 [] (by omega) (by omega) rfl (by simp;omega)
  refine⟨r,by simpa using h0,fun h=>by simpa using h4 h,fun k hk=>⟨h2 k (by omega),?_⟩⟩
  unfold impl_Unhex.f
  by_cases he:s.size % 2=0
  · rw[if_pos (by omega)];exact h3 k (by omega) he
  · rw[if_neg (by omega),h1 (by omega)]
end Go.Proofs.Ytlalkldjpniakaa.B
/- 'from lo to hi', by the program and by the reference; for every three numbers. -/
namespace Go.Proofs.Ytlalkldjpniakaa.B
open Go.RowKit Go.Proofs.Ytlalkldjpniakaa.P Go.Proofs.YtlalkldjpniakaaW.PrintWords Go.Proofs.YtlalkldjpniakaaW.PrintLast Go.Proofs.YtlalkldjpniakaaW.PrintMore
theorem specIn (a b c:Int):spec_l1In.f a b c=some (decide (b≤a∧a≤c)):=by
  unfold spec_l1In.f
  by_cases h:a≥b
  · rw[if_pos h];simp [show b≤a from h]
  · rw[if_neg h];simp [show ¬b≤a from h]
theorem implIn (a b c:Int):impl_in.f a b c=some (decide (b≤a∧a≤c)):=specIn a b c
end Go.Proofs.Ytlalkldjpniakaa.B
/- ItemOk, by the program and by the reference: one answer; for every item. -/
namespace Go.Proofs.Ytlalkldjpniakaa.B
open Go.RowKit Go.Proofs.Ytlalkldjpniakaa.P Go.Proofs.YtlalkldjpniakaaW.PrintWords Go.Proofs.YtlalkldjpniakaaW.PrintLast Go.Proofs.YtlalkldjpniakaaW.PrintMore
theorem route (s:ByteArray) (hs:s.size≤1099511627776):∃ b:Bool,∀ k,s.size+3<k→spec_l13Route.f k s=some b∧impl_isRoute.f k s=some b:=by
  obtain⟨r,h1,h2,h3⟩:=unhex s hs
  refine⟨if r.2=true then((s.size:Int)==16) else false,fun k hk=>⟨?_,?_⟩⟩
  · unfold spec_l13Route.f
    rw[(h3 k hk).1,Option.bind_some]
    by_cases c:r.2=true
    · have h:=h2 c
      rw[if_pos c,if_pos c]
      congr 1
      rw[Bool.eq_iff_iff,beq_iff_eq,beq_iff_eq]
      omega
    · rw[if_neg c,if_neg c]
  · unfold impl_isRoute.f
    rw[(h3 k hk).2,Option.bind_some]
    by_cases c:r.2=true
    · rw[if_pos c,if_pos c]
    · rw[if_neg c,if_neg c]
theorem itemOk (s:ByteArray) (n m:Int) (l:List Int) (hs:s.size≤1099511627776):∃ b:Bool,∀ k,s.size+3<k→spec_ItemOk.f k s n m l=some b∧impl_ItemOk.f k s n m l=some b:=by
  obtain⟨b,hb⟩:=route s hs
  refine⟨if b=true then(if decide (0≤n∧n≤9)=true then(if decide (0≤m∧m≤100000)=true then decide ((l.length:Int)≤1560) else false) else false) else false,fun k hk=>⟨?_,?_⟩⟩
  · unfold spec_ItemOk.f
    rw[(hb k hk).1,Option.bind_some,specIn,specIn]
    simp only[Option.bind_some]
    split <;> (try split) <;> (try split) <;> rfl
  · unfold impl_ItemOk.f
    rw[(hb k hk).2,Option.bind_some,implIn,implIn]
    simp only[Option.bind_some]
    split <;> (try split) <;> (try split) <;> rfl
end Go.Proofs.Ytlalkldjpniakaa.B
/- LineOk, by the program and by the reference: one answer; for lines whose lists are of at most 2^40 bytes. -/
namespace Go.Proofs.Ytlalkldjpniakaa.B
open Go.RowKit Go.Proofs.Ytlalkldjpniakaa.P Go.Proofs.YtlalkldjpniakaaW.PrintWords Go.Proofs.YtlalkldjpniakaaW.PrintLast Go.Proofs.YtlalkldjpniakaaW.PrintMore
theorem lineOk (q:Int) (s:ByteArray) (n m:Int) (l:List Int) (hs:s.size≤1099511627776) (hl:l.length≤1099511627776):∃ b:Bool,∀ k,s.size+3<k→spec_LineOk.f k q s n m l=some b∧impl_LineOk.f k q s n m l=some b:=by
  obtain⟨b1,h1⟩:=itemOk s n m l hs
  obtain⟨b2,h2⟩:=route s hs
  by_cases c1:q=1
  · refine⟨b1,fun k hk=>⟨?_,?_⟩⟩
    · unfold spec_LineOk.f spec_l14Item.f
      rw[if_pos c1,Option.bind_some,if_pos (by simp;omega),Option.bind_some]
      simp only[List.nil_append]
      rw[(h1 k hk).1];rfl
    · unfold impl_LineOk.f impl_itemOf.f slices_Clone_byte_byte.f
      rw[if_pos c1,if_pos (by omega),Option.bind_some,Option.bind_some,(h1 k hk).2];rfl
  · by_cases c2:q=2
    · refine⟨if b2=true then(if n=0 then(if m=0 then((l.length:Int)==0) else false) else false) else false,fun k hk=>⟨?_,?_⟩⟩
      · unfold spec_LineOk.f
        rw[if_neg c1,if_pos c2,(h2 k hk).1,Option.bind_some]
        split <;> (try split) <;> (try split) <;> rfl
      · unfold impl_LineOk.f
        rw[if_neg c1,if_pos c2,(h2 k hk).2,Option.bind_some]
        split <;> (try split) <;> (try split) <;> rfl
    · by_cases c3:q=3
      · refine⟨if s.toList=[] then(if n=0 then(if decide (0≤m∧m≤100000)=true then((l.length:Int)==0) else false) else false) else false,fun k hk=>⟨?_,?_⟩⟩
        · unfold spec_LineOk.f
          rw[if_neg c1,if_neg c2,if_pos c3,specIn]
          simp only[Option.bind_some]
          split <;> (try split) <;> (try split) <;> rfl
        · unfold impl_LineOk.f
          rw[if_neg c1,if_neg c2,if_pos c3,implIn,Option.bind_some]
          by_cases d:decide (0≤m∧m≤100000)=true
          · rw[if_pos d,if_pos d]
            split <;> (try split) <;> rfl
          · rw[if_neg d,if_neg d]
            split <;> (try split) <;> rfl
      · refine⟨false,fun k hk=>⟨?_,?_⟩⟩
        · unfold spec_LineOk.f;rw[if_neg c1,if_neg c2,if_neg c3]
        · unfold impl_LineOk.f;rw[if_neg c1,if_neg c2,if_neg c3]
end Go.Proofs.Ytlalkldjpniakaa.B
/- What masks and shifts of whole numbers are, as remainders; each for the numbers that it names. -/
namespace Go.Proofs.Ytlalkldjpniakaa.B
open Go.RowKit Go.Proofs.YtlalkldjpniakaaW.PrintWords Go.Proofs.YtlalkldjpniakaaW.PrintLast Go.Proofs.YtlalkldjpniakaaW.PrintMore

theorem i64_and_nat (x:Int) (m:Nat) (hm:m<9223372036854775808):Go.bits .and .i64 x (m:Int)=(((x % 18446744073709551616).toNat &&& m:Nat):Int):=by
  have h1:(BitVec.ofInt 64 x).toNat=(x % 18446744073709551616).toNat:=by
    rw[BitVec.toNat_ofInt];rfl
  have h2:(BitVec.ofInt 64 (m:Int)).toNat=m:=ofInt_u64 m (by omega)
  have hx:(x % 18446744073709551616).toNat &&& m≤m:=Nat.and_le_right
  show IntKind.i64.wrap ((BitVec.ofInt 64 x &&& BitVec.ofInt 64 (m:Int)).toNat:Int)=_
  rw[BitVec.toNat_and,h1,h2,IntKind.wrap_i64]
  omega
theorem i64_and31 (x:Int):Go.bits .and .i64 x 31=x % 32:=by
  rw[show(31:Int)=((31:Nat):Int) from rfl,i64_and_nat x 31 (by omega),show(31:Nat)=2 ^ 5 - 1 from rfl,Nat.and_two_pow_sub_one_eq_mod]
  omega
theorem i64_and255 (x:Int):Go.bits .and .i64 x 255=x % 256:=by
  rw[show(255:Int)=((255:Nat):Int) from rfl,i64_and_nat x 255 (by omega),show(255:Nat)=2 ^ 8 - 1 from rfl,Nat.and_two_pow_sub_one_eq_mod]
  omega
theorem i64_and32 (x:Int):Go.bits .and .i64 x 4294967295=x % 4294967296:=by
  rw[show(4294967295:Int)=((4294967295:Nat):Int) from rfl,i64_and_nat x 4294967295 (by omega),show(4294967295:Nat)=2 ^ 32 - 1 from rfl,Nat.and_two_pow_sub_one_eq_mod]
  omega
theorem wf8 {l:List Int} (h:∀ x∈l,(Lit.int .u8 x).wf=true):∀ x∈l,0≤x∧x<256:=by
  intro x hx
  have:=h x hx
  have m1:IntKind.u8.min=0:=by decide
  have m2:IntKind.u8.max=255:=by decide
  simp only[Lit.wf,m1,m2,Bool.and_eq_true,decide_eq_true_eq] at this
  omega
theorem wf64 {x:Int} (h:(Lit.int .i64 x).wf=true): -9223372036854775808≤x∧x≤9223372036854775807:=by
  have m1:IntKind.i64.min= -9223372036854775808:=by decide
  have m2:IntKind.i64.max=9223372036854775807:=by decide
  simp only[Lit.wf,m1,m2,Bool.and_eq_true,decide_eq_true_eq] at h
  omega
end Go.Proofs.Ytlalkldjpniakaa.B
/- Little, by the program and by the reference: the low bytes of a number, the lowest first; for every number and every count. -/
namespace Go.Proofs.Ytlalkldjpniakaa.B
open Go.RowKit Go.Proofs.Ytlalkldjpniakaa.P Go.Proofs.YtlalkldjpniakaaW.PrintWords Go.Proofs.YtlalkldjpniakaaW.PrintLast Go.Proofs.YtlalkldjpniakaaW.PrintMore
/-- So many low bytes, the lowest first. -/
def lowL:Nat→Int→List Int
  | 0,_=>[]
  | m+1,n=>n % 256 :: lowL m (n / 256)
/-- What Little answers. -/
def leL (n many:Int):List Int:=if 0≤n∧1≤many∧many≤8 then lowL many.toNat n else []
theorem lowL_length:∀ (m:Nat) (n:Int),(lowL m n).length=m
  | 0,_=>rfl
  | m+1,n=>by simp [lowL,lowL_length m]
theorem leL_length (n many:Int):(leL n many).length≤8:=by
  unfold leL;split
  · rw[lowL_length];omega
  · simp
theorem specLittle_l0:∀ (m:Nat) (n i many:Int) (acc:List Int) (k:Nat),0≤i→many≤8→many - i=m→acc.length≤100 - m→m≤8→m<k→
    spec_Little.l0 k n many acc i=some (acc++lowL m n)
  | 0,n,i,many,acc,k,h0,h8,hd,hc,hm,hk=>by
    obtain⟨k,rfl⟩:∃ m,k=m+1:=⟨k - 1,by omega⟩
    simp only[spec_Little.l0];rw[if_neg (by omega)];simp [lowL]
  | m+1,n,i,many,acc,k,h0,h8,hd,hc,hm,hk=>by
    obtain⟨k,rfl⟩:∃ m,k=m+1:=⟨k - 1,by omega⟩
    have ih:=specLittle_l0 m (n / 256) (i+1) many (acc++[n % 256]) k (by omega) h8 (by omega) (by simp;omega) (by omega) (by omega)
    simp only[spec_Little.l0]
    rw[if_pos (by omega),if_pos (by omega),wrap_eq (i+1) (by omega) (by omega),i64_and255,show n % 256 % 256=n % 256 by omega,ih]
    simp [lowL]
theorem specLittle (n many:Int) (k:Nat) (hk:20<k):spec_Little.f k n many=some (leL n many):=by
  obtain⟨k,rfl⟩:∃ m,k=m+1:=⟨k - 1,by omega⟩
  unfold spec_Little.f leL spec_l1In.f
  simp only[Option.bind_some]
  by_cases h:n<0
  · rw[if_pos h,if_neg (by omega)];simp [spec_Little.j0]
  · rw[if_neg h]
    by_cases h1:many≥1
    · rw[if_pos h1]
      simp only[Option.bind_some]
      by_cases h2:many≤8
      · rw[if_pos ⟨by omega,by omega,h2⟩]
        simp only[spec_Little.j0,h2,decide_true,Bool.not_true,Bool.false_eq_true,if_false]
        have:=specLittle_l0 many.toNat n 0 many [] k (by omega) h2 (by omega) (by simp) (by omega) (by omega)
        simpa using this
      · rw[if_neg (by omega)];simp [spec_Little.j0,h2]
    · rw[if_neg h1,if_neg (by omega)];simp [spec_Little.j0]
theorem implLittle_l0:∀ (m:Nat) (n i many:Int) (acc:List Int) (k:Nat),0≤i→many≤8→many - i=m→acc.length≤100 - m→m≤8→m<k→
    impl_Little.l0 k n acc many i=some (acc++lowL m n)
  | 0,n,i,many,acc,k,h0,h8,hd,hc,hm,hk=>by
    obtain⟨k,rfl⟩:∃ m,k=m+1:=⟨k - 1,by omega⟩
    simp only[impl_Little.l0];rw[if_neg (by omega)];simp [lowL]
  | m+1,n,i,many,acc,k,h0,h8,hd,hc,hm,hk=>by
    obtain⟨k,rfl⟩:∃ m,k=m+1:=⟨k - 1,by omega⟩
    have ih:=implLittle_l0 m (n / 256) (i+1) many (acc++[n % 256]) k (by omega) h8 (by omega) (by simp;omega) (by omega) (by omega)
    simp only[impl_Little.l0]
    rw[if_pos (by omega),if_pos (by omega),wrap_eq (i+1) (by omega) (by omega),ih]
    simp [lowL]
theorem implLittle (n many:Int) (k:Nat) (hk:20<k):impl_Little.f k n many=some (leL n many):=by
  obtain⟨k,rfl⟩:∃ m,k=m+1:=⟨k - 1,by omega⟩
  unfold impl_Little.f leL impl_in.f
  by_cases h:n<0
  · rw[if_pos h,if_neg (by omega)];simp [impl_Little.j0]
  · rw[if_neg h]
    by_cases h1:many≥1
    · rw[if_pos h1]
      simp only[Option.bind_some]
      by_cases h2:many≤8
      · rw[if_pos ⟨by omega,by omega,h2⟩]
        simp only[impl_Little.j0,h2,decide_true,Bool.not_true,Bool.false_eq_true,if_false]
        have:=implLittle_l0 many.toNat n 0 many [] k (by omega) h2 (by omega) (by simp) (by omega) (by omega)
        simpa using this
      · rw[if_neg (by omega)];simp [impl_Little.j0,h2]
    · rw[if_neg h1,if_neg (by omega)];simp [impl_Little.j0]
end Go.Proofs.Ytlalkldjpniakaa.B
/- Great, by the program and by the reference: Little, the other way round; for every number and every count. -/
namespace Go.Proofs.Ytlalkldjpniakaa.B
open Go.RowKit Go.Proofs.Ytlalkldjpniakaa.P Go.Proofs.YtlalkldjpniakaaW.PrintWords Go.Proofs.YtlalkldjpniakaaW.PrintLast Go.Proofs.YtlalkldjpniakaaW.PrintMore
theorem specGreat_l0:∀ (n:Nat) (xs acc:List Int) (k:Nat),n≤xs.length→xs.length≤100→acc.length+n≤200→n<k→
    spec_Great.l0 k xs acc ((n:Int) - 1)=some (acc++(xs.take n).reverse)
  | 0,xs,acc,k,hn,hx,hc,hk=>by
    obtain⟨k,rfl⟩:∃ m,k=m+1:=⟨k - 1,by omega⟩
    simp only[spec_Great.l0];rw[if_neg (by omega)];simp
  | n+1,xs,acc,k,hn,hx,hc,hk=>by
    obtain⟨k,rfl⟩:∃ m,k=m+1:=⟨k - 1,by omega⟩
    have ih:=specGreat_l0 n xs (acc++[xs.getD n 0]) k (by omega) hx (by simp;omega) (by omega)
    have e1:((n+1:Nat):Int) - 1=(n:Int):=by omega
    have e2:rd xs (n:Int)=xs.getD n 0:=by simp [rd]
    simp only[spec_Great.l0]
    rw[e1,if_pos (by omega),if_pos (by omega),if_pos (by omega),if_pos (by omega),e2,wrap_eq ((n:Int) - 1) (by omega) (by omega),ih]
    have h3:xs.take (n+1)=xs.take n++[xs.getD n 0]:=by
      rw[List.take_succ_eq_append_getElem (by omega)]
      simp [List.getD_eq_getElem?_getD,List.getElem?_eq_getElem (show n<xs.length by omega)]
    rw[h3];simp
theorem specGreat (n many:Int) (k:Nat) (hk:40<k):spec_Great.f k n many=some (leL n many).reverse:=by
  have hl:=leL_length n many
  unfold spec_Great.f
  rw[specLittle n many k (by omega)]
  simp only[Option.bind_some]
  rw[wrap_eq _ (by omega) (by omega),specGreat_l0 _ _ [] k (Nat.le_refl _) (by omega) (by simp;omega) (by omega)]
  simp
theorem turned_l0:∀ (rest pre junk b:List Int) (n:Int) (k:Nat),b=pre++rest→n=(b.length:Int)→junk.length=rest.length→b.length≤1099511627776→rest.length<k→
    impl_turned.l0 k b (junk++pre.reverse) b n (pre.length:Int)=some b.reverse
  | [],pre,junk,b,n,k,hb,hn,hj,hc,hk=>by
    obtain⟨k,rfl⟩:∃ m,k=m+1:=⟨k - 1,by omega⟩
    obtain rfl:junk=[]:=List.eq_nil_of_length_eq_zero hj
    subst hb
    simp only[impl_turned.l0];rw[if_neg (by rw[hn];exact nlt_end pre)];simp
  | a :: rest,pre,junk,b,n,k,hb,hn,hj,hc,hk=>by
    obtain⟨k,rfl⟩:∃ m,k=m+1:=⟨k - 1,by omega⟩
    simp only[List.length_cons] at hk hj
    have hne:junk≠[]:=by intro h;rw[h] at hj;simp at hj
    obtain⟨junk1,z,rfl⟩:∃ j z,junk=j++[z]:=⟨junk.dropLast,junk.getLast hne,(List.dropLast_concat_getLast hne).symm⟩
    have hj1:junk1.length=rest.length:=by simp at hj;omega
    have hbl:b.length=pre.length+rest.length+1:=by rw[hb];simp;omega
    have ih:=turned_l0 rest (pre++[a]) junk1 b n k (by rw[hb];simp) hn hj1 hc (by omega)
    simp only[impl_turned.l0]
    have e1:wrap64 ((b.length:Int) - 1)=(b.length:Int) - 1:=wrap_eq _ (by omega) (by omega)
    have e2:wrap64 ((b.length:Int) - 1 - (pre.length:Int))=(junk1.length:Int):=by rw[wrap_eq _ (by omega) (by omega)];omega
    have e3:rd b (pre.length:Int)=a:=by rw[hb];exact rd_mid pre a rest
    have e4:(junk1++[z]++pre.reverse).set ((junk1.length:Int).toNat) a=junk1++(pre++[a]).reverse:=by simp
    rw[e1,e2,e3,e4,if_pos (by omega),if_pos (by omega),if_pos (by omega),if_pos (by omega),if_pos (by simp;omega),wrap_step pre a (by omega)]
    exact ih
theorem turned (b:List Int) (hc:b.length≤1099511627776) (k:Nat) (hk:b.length<k):impl_turned.f k b=some b.reverse:=by
  unfold impl_turned.f
  rw[if_pos (by omega),if_pos (by simp;omega)]
  have h:=turned_l0 b [] (List.replicate b.length 0) b _ k rfl rfl (by simp) hc hk
  simpa using h
theorem implGreat (n many:Int) (k:Nat) (hk:40<k):impl_Great.f k n many=some (leL n many).reverse:=by
  have hl:=leL_length n many
  unfold impl_Great.f
  rw[implLittle n many k (by omega)]
  simp only[Option.bind_some]
  rw[turned _ (by omega) k (by omega)]
  simp
end Go.Proofs.Ytlalkldjpniakaa.B
/- The parts, one behind the other; for at most 2^47 parts and bytes. -/
namespace Go.Proofs.Ytlalkldjpniakaa.B
open Go.RowKit Go.Proofs.Ytlalkldjpniakaa.P Go.Proofs.YtlalkldjpniakaaW.PrintWords Go.Proofs.YtlalkldjpniakaaW.PrintLast Go.Proofs.YtlalkldjpniakaaW.PrintMore
theorem joined (ls:List (List Int)) (h1:ls.flatten.length≤140737488355328) (h2:ls.length≤140737488355328):impl_joined.f ls=some ls.flatten:=by
  unfold impl_joined.f bytes_Join.f
  rw[if_pos ⟨rfl,h1,h2⟩];rfl
theorem joined2 (a b:List Int) (h:a.length+b.length≤140737488355328):impl_joined.f [a,b]=some (a++b):=by
  rw[joined _ (by simp;omega) (by simp)];simp
theorem joined3 (a b c:List Int) (h:a.length+b.length+c.length≤140737488355328):impl_joined.f [a,b,c]=some (a++b++c):=by
  rw[joined _ (by simp;omega) (by simp)];simp
theorem joined4 (a b c d:List Int) (h:a.length+b.length+c.length+d.length≤140737488355328):impl_joined.f [a,b,c,d]=some (a++b++c++d):=by
  rw[joined _ (by simp;omega) (by simp)];simp
end Go.Proofs.Ytlalkldjpniakaa.B
