import Derived.Test.Ytlalkldjpniakaabk39
import Derived.Lib.LazyBuf
import Derived.Laws.Strings
import Derived.Test.Ytlalkldjpniakaabk36
/- A line read from its own bytes; cut short by one it is none. -/
namespace Go.Proofs.Ytlalkldjpniakaa.B
open Go.RowKit Go.Proofs.Ytlalkldjpniakaa.P Go.Proofs.YtlalkldjpniakaaW.PrintWords Go.Proofs.YtlalkldjpniakaaW.PrintLast Go.Proofs.YtlalkldjpniakaaW.PrintMore
set_option linter.unusedVariables false
set_option linter.unusedSimpArgs false
theorem wraps_i64c (n:Int) (h₀:0≤n) (h₁:n<2 ^ 62):IntKind.i64.wrap n=n:=by rw[IntKind.wrap_i64];omega
theorem w4_eq (a b c d:Int) (ha:0≤a∧a<256) (hb:0≤b∧b<256) (hc:0≤c∧c<256) (hd:0≤d∧d<256):w4 a b c d=a*16777216+b*65536+c*256+d:=by
  unfold w4
  rw[wrap_eq a (by omega) (by omega),wrap_eq b (by omega) (by omega),wrap_eq c (by omega) (by omega),wrap_eq d (by omega) (by omega),wrap_eq (a*16777216) (by omega) (by omega),wrap_eq (b*65536) (by omega) (by omega),wrap_eq (c*256) (by omega) (by omega)]
  rw[bits_join .i64 62 (by decide) wraps_i64c 24 (a*16777216) (b*65536) (by omega) (by omega) (by omega) (by omega) (by omega) (by omega)]
  rw[bits_join .i64 62 (by decide) wraps_i64c 16 (a*16777216+b*65536) (c*256) (by omega) (by omega) (by omega) (by omega) (by omega) (by omega)]
  rw[bits_join .i64 62 (by decide) wraps_i64c 8 (a*16777216+b*65536+c*256) d (by omega) (by omega) (by omega) (by omega) (by omega) (by omega)]
/-- A text's bytes. -/
def bs (s:ByteArray):List Int:=s.data.toList.map fun b=>(b.toNat:Int)
theorem bs_length (s:ByteArray):(bs s).length=s.size:=by simp [bs]
theorem bs_at (s:ByteArray) (i:Nat) (h:i<s.size):(bs s)[i]'(by rw[bs_length];exact h)=bt s (i:Int):=by
  unfold bs bt
  rw[dif_pos (by simpa using h)]
  simp
  rfl
theorem bs_back (s:ByteArray):strOfNums (bs s)=s:=by
  unfold bs
  rw[Go.Lib.Lz.strOfNums_map]
theorem signs_sgn256:∀ n:Fin 256,0≤sgn (n.val:Int)→bt signs (sgn (n.val:Int))=(n.val:Int):=by
  decide+kernel
theorem signs_sgn (c:Int) (h0:0≤c) (h1:c<256) (h:0≤sgn c):bt signs (sgn c)=c:=by
  have:=signs_sgn256 ⟨c.toNat,by omega⟩
  rw[show((c.toNat:Nat):Int)=c from by omega] at this
  exact this h
theorem sign_is (k:Nat) (c v:Int) (h0:0≤c) (h1:c<256) (h:spec_l1Sign.f k c=some v):v=sgn c:=
  Option.some.inj ((spec_l1Sign.mono c k v h).symm.trans (specSign c h0 h1 k))
theorem unhexBack (s:ByteArray) (hs:s.size≤1099511627776):∀ (k i:Nat) (acc x:List Int),i≤s.size→i % 2=0→spec_Unhex.l0 k s acc (i:Int)=some (x,true)→∃ y,x=acc++y∧(∀ z∈y,0≤z∧z<256)∧hexL y=(bs s).drop i
  | 0,i,acc,x,_,_,h=>by simp [spec_Unhex.l0] at h
  | k+1,i,acc,x,hi,h2,h=>by
    have e1:wrap64 ((i:Int)+1)=i+1:=wrap_eq _ (by omega) (by omega)
    have e2:wrap64 ((i:Int)+2)=((i+2:Nat):Int):=by rw[wrap_eq _ (by omega) (by omega)];rfl
    simp only[spec_Unhex.l0,e1,e2] at h
    obtain⟨a0,a1⟩:=bt_rng s i
    obtain⟨b0,b1⟩:=bt_rng s ((i:Int)+1)
    by_cases c:(i:Int)+1<(s.size:Int)
    · rw[if_pos c,if_pos (by omega),if_pos (by omega)] at h
      obtain⟨p,hp,h⟩:=Option.bind_eq_some_iff.1 h
      rw[if_pos (by omega)] at h
      obtain⟨q,hq,h⟩:=Option.bind_eq_some_iff.1 h
      obtain rfl:=sign_is k _ p a0 a1 hp
      obtain rfl:=sign_is k _ q b0 b1 hq
      by_cases c1:sgn (bt s i)<0
      · rw[if_pos c1] at h;simp at h
      rw[if_neg c1] at h
      by_cases c2:sgn (bt s ((i:Int)+1))<0
      · rw[if_pos c2] at h;simp at h
      rw[if_neg c2] at h
      by_cases c3:acc.length<140737488355328
      case neg=>rw[if_neg c3] at h;cases h
      rw[if_pos c3] at h
      obtain⟨y,hy,hr,hh⟩:=unhexBack s hs k (i+2) _ x (by omega) (by omega) h
      obtain⟨sa0,sa1⟩:=sgn_range (bt s i)
      obtain⟨sb0,sb1⟩:=sgn_range (bt s ((i:Int)+1))
      have ev:(wrap64 ((wrap64 (16*sgn (bt s i)))+sgn (bt s ((i:Int)+1)))) % 256=16*sgn (bt s i)+sgn (bt s ((i:Int)+1)):=by
        rw[wrap_eq (16*sgn (bt s i)) (by omega) (by omega),wrap_eq _ (by omega) (by omega)]
        omega
      rw[ev] at hy
      refine⟨(16*sgn (bt s i)+sgn (bt s ((i:Int)+1))) :: y,by rw[hy];simp,?_,?_⟩
      · intro z hz
        rcases List.mem_cons.1 hz with rfl | hz
        · omega
        · exact hr z hz
      · have d1:(16*sgn (bt s i)+sgn (bt s ((i:Int)+1))) / 16=sgn (bt s i):=by omega
        have d2:(16*sgn (bt s i)+sgn (bt s ((i:Int)+1))) % 16=sgn (bt s ((i:Int)+1)):=by omega
        have l1:i<(bs s).length:=by rw[bs_length];omega
        have l2:i+1<(bs s).length:=by rw[bs_length];omega
        simp only[hexL,d1,d2,signs_sgn _ a0 a1 (by omega),signs_sgn _ b0 b1 (by omega),hh]
        rw[List.drop_eq_getElem_cons l1,List.drop_eq_getElem_cons l2,bs_at s i (by omega),bs_at s (i+1) (by omega)]
        rfl
    · rw[if_neg c] at h
      by_cases c4:((s.size:Int) % 2)=0
      · rw[if_pos c4] at h
        simp only[Option.some.injEq,Prod.mk.injEq,and_true] at h
        subst h
        refine⟨[],by simp,fun z hz=>absurd hz List.not_mem_nil,?_⟩
        have:i=s.size:=by omega
        rw[this, ← bs_length s,List.drop_length]
        rfl
      · rw[if_neg c4] at h;simp at h
/-- What is told of a text, told back. -/
theorem hexBack (s:ByteArray) (hs:s.size≤1099511627776) (k:Nat) (x:List Int) (h:spec_Unhex.f k s=some (x,true)):(∀ z∈x,0≤z∧z<256)∧strOfNums (hexL x)=s:=by
  obtain⟨y,hy,h1,h2⟩:=unhexBack s hs k 0 [] x (Nat.zero_le _) rfl h
  simp only[List.nil_append] at hy
  subst hy
  rw[h2]
  exact⟨h1,bs_back s⟩
theorem routeBack (s:ByteArray) (hs:s.size≤1099511627776) (k:Nat) (h:spec_l13Route.f k s=some true):∃ x:List Int,x.length=8∧(∀ z∈x,0≤z∧z<256)∧strOfNums (hexL x)=s∧spec_Unhex.f k s=some (x,true):=by
  unfold spec_l13Route.f at h
  obtain⟨⟨x,b⟩,h1,h⟩:=Option.bind_eq_some_iff.1 h
  cases b with
  | false=>simp at h
  | true=>
    simp only[if_true,Option.some.injEq,beq_iff_eq] at h
    obtain⟨a1,a2⟩:=hexBack s hs k x h1
    exact⟨x,by omega,a1,a2,h1⟩
/-- What a line that is one is like, and its bytes. -/
theorem lineShape (q:Int) (s:ByteArray) (n m:Int) (l:List Int) (hs:s.size≤1048576) (hl:l.length≤1048576) (k:Nat) (h:spec_LineOk.f k q s n m l=some true):
    ∃ x:List Int,x.length=8∧(∀ z∈x,0≤z∧z<256)∧1≤q∧q≤3∧0≤n∧n≤9∧0≤m∧m≤100000∧l.length≤1560∧(if q=3 then(⟨#[]⟩:ByteArray) else strOfNums (hexL x))=s∧Ev (fun k=>spec_LineBytes.f k q s n m l) (lineL q x n m l):=by
  obtain⟨b,hb⟩:=lineOk q s n m l (by omega) (by omega)
  have hbt:b=true:=by
    have h1:=(hb (k+s.size+4) (by omega)).1
    have h2:∀ j,spec_LineOk.f (k+j) q s n m l=some true:=by
      intro j
      induction j with
      | zero=>exact h
      | succ j ih=>exact spec_LineOk.mono q s n m l (k+j) true ih
    exact Option.some.inj (h1.symm.trans (by have:=h2 (s.size+4);rwa [← Nat.add_assoc] at this))
  subst hbt
  obtain⟨u,hu1,hu2,hu3⟩:=unhex s (by omega)
  have mono:∀ (x:List Int),spec_Unhex.f k s=some (x,true)→u=(x,true):=by
    intro x hx
    have h2:∀ j,spec_Unhex.f (k+j) s=some (x,true):=by
      intro j
      induction j with
      | zero=>exact hx
      | succ j ih=>exact spec_Unhex.mono s (k+j) (x,true) ih
    have h1:=(hu3 (k+(s.size+4)) (by omega)).1
    exact Option.some.inj (h1.symm.trans (h2 (s.size+4)))
  have bytes:∀ x:List Int,x.length=8→q≠3→spec_Unhex.f k s=some (x,true)→Ev (fun k=>spec_LineBytes.f k q s n m l) (lineL q x n m l):=by
    intro x hx c3 hux
    have e:=mono x hux
    subst e
    refine evOf (s.size+50) fun k hk=>?_
    unfold spec_LineBytes.f
    rw[(hb k (by omega)).1,Option.bind_some,if_pos rfl,(hu3 k (by omega)).1,Option.bind_some,if_neg c3]
    exact specTail q _ n m l (by omega) hl k (by omega)
  unfold spec_LineOk.f at h
  by_cases c1:q=1
  · rw[if_pos c1] at h
    obtain⟨v,h1,h⟩:=Option.bind_eq_some_iff.1 h
    have hv:v=(s,n,m,l):=by
      unfold spec_l14Item.f at h1
      rw[Option.bind_some,if_pos (by rw[List.length_nil];omega)] at h1
      exact(Option.some.inj h1).symm
    subst hv
    obtain⟨b,h2,h⟩:=Option.bind_eq_some_iff.1 h
    obtain rfl:=Option.some.inj h
    unfold spec_ItemOk.f at h2
    obtain⟨b1,r1,h2⟩:=Option.bind_eq_some_iff.1 h2
    cases b1 with
    | false=>simp at h2
    | true=>
    rw[if_pos rfl,specIn,Option.bind_some] at h2
    by_cases d1:0≤n∧n≤9
    case neg=>rw[if_neg (by simpa using d1)] at h2;simp at h2
    rw[if_pos (decide_eq_true d1),specIn,Option.bind_some] at h2
    by_cases d2:0≤m∧m≤100000
    case neg=>rw[if_neg (by simpa using d2)] at h2;simp at h2
    rw[if_pos (decide_eq_true d2)] at h2
    have d3:(l.length:Int)≤1560:=of_decide_eq_true (Option.some.inj h2)
    obtain⟨x,x1,x2,x3,x4⟩:=routeBack s (by omega) k r1
    exact⟨x,x1,x2,by omega,by omega,d1.1,d1.2,d2.1,d2.2,by omega,by rw[if_neg (by omega)];exact x3,bytes x x1 (by omega) x4⟩
  · rw[if_neg c1] at h
    by_cases c2:q=2
    · rw[if_pos c2] at h
      obtain⟨b1,r1,h⟩:=Option.bind_eq_some_iff.1 h
      cases b1 with
      | false=>simp at h
      | true=>
      rw[if_pos rfl] at h
      by_cases d1:n=0
      case neg=>rw[if_neg d1] at h;simp at h
      rw[if_pos d1] at h
      by_cases d2:m=0
      case neg=>rw[if_neg d2] at h;simp at h
      rw[if_pos d2] at h
      have d3:=beq_iff_eq.1 (Option.some.inj h)
      obtain⟨x,x1,x2,x3,x4⟩:=routeBack s (by omega) k r1
      exact⟨x,x1,x2,by omega,by omega,by omega,by omega,by omega,by omega,by omega,by rw[if_neg (by omega)];exact x3,bytes x x1 (by omega) x4⟩
    · rw[if_neg c2] at h
      by_cases c3:q=3
      case neg=>rw[if_neg c3] at h;simp at h
      rw[if_pos c3] at h
      by_cases d0:s.toList=([]:List UInt8)
      case neg=>rw[if_neg d0] at h;simp at h
      rw[if_pos d0] at h
      by_cases d1:n=0
      case neg=>rw[if_neg d1] at h;simp at h
      rw[if_pos d1,specIn,Option.bind_some] at h
      by_cases d2:0≤m∧m≤100000
      case neg=>rw[if_neg (by simpa using d2)] at h;simp at h
      rw[if_pos (decide_eq_true d2)] at h
      have d3:=beq_iff_eq.1 (Option.some.inj h)
      refine⟨List.replicate 8 0,List.length_replicate,fun z hz=>by rw[List.eq_of_mem_replicate hz];decide,by omega,by omega,by omega,by omega,d2.1,d2.2,by omega,?_,?_⟩
      · rw[if_pos c3]
        have e:s.data.toList=[]:=by rw[← ByteArray.toList_eq];exact d0
        cases s with
        | mk d=>cases d with | mk dl=>simp at e;subst e;rfl
      · refine evOf (s.size+50) fun k hk=>?_
        unfold spec_LineBytes.f
        rw[(hb k (by omega)).1,Option.bind_some,if_pos rfl,(hu3 k (by omega)).1,Option.bind_some,if_pos c3,if_pos (by omega),Option.bind_some]
        exact specTail q _ n m l (by rw[List.length_replicate];omega) hl k (by omega)
theorem leL4 (n:Int) (h:0≤n):leL n 4=[n % 256,n / 256 % 256,n / 256 / 256 % 256,n / 256 / 256 / 256 % 256]:=by
  unfold leL;rw[if_pos (by omega)];rfl
theorem leL2 (n:Int) (h:0≤n):leL n 2=[n % 256,n / 256 % 256]:=by
  unfold leL;rw[if_pos (by omega)];rfl
theorem eight (x:List Int) (h:x.length=8):∃ a b c d e f g i,x=[a,b,c,d,e,f,g,i]:=by
  match x,h with
  | [a,b,c,d,e,f,g,i],_=>exact⟨a,b,c,d,e,f,g,i,rfl⟩
/-- A line is read from its bytes; cut by one it is none. -/
theorem lineBack (q:Int) (s:ByteArray) (n m:Int) (l:List Int) (hs:s.size≤1048576) (hl:l.length≤1048576) (hlb:∀ z∈l,0≤z∧z<256) (k:Nat) (h:spec_LineOk.f k q s n m l=some true):
    ∃ bb:List Int,Ev (fun k=>spec_LineBytes.f k q s n m l) bb∧bb.length=18+l.length∧bb.length≤1578∧(∀ z∈bb,0≤z∧z<256)∧Ev (fun k=>spec_LineOf.f k bb 0) (q,s,n,m,l,(bb.length:Int),true)∧
      ∃ fr:LineR,fr.2.2.2.2.2.2=false∧Ev (fun k=>spec_LineOf.f k (bb.take (bb.length - 1)) 0) fr:=by
  obtain⟨x,hx,hxb,q1,q3,n0,n9,m0,m1,l1,hr,hE⟩:=lineShape q s n m l hs hl k h
  obtain⟨a,b,c,d,e,f,g,i,rfl⟩:=eight x hx
  obtain⟨L,hL⟩:∃ L:Int,L=(l.length:Int):=⟨_,rfl⟩
  obtain⟨T,hT⟩:∃ T:List Int,T=(leL ((lineB q [a,b,c,d,e,f,g,i] n m l).length:Int) 2).reverse:=⟨_,rfl⟩
  have hT2:∃ t1 t2,T=[t1,t2]∧(0≤t1∧t1<256)∧0≤t2∧t2<256:=by
    rw[hT,leL2 _ (by omega)]
    exact⟨_,_,rfl,⟨by omega,by omega⟩,by omega,by omega⟩
  obtain⟨t1,t2,hT3,ht1,ht2⟩:=hT2
  have hbb:lineL q [a,b,c,d,e,f,g,i] n m l=q :: a :: b :: c :: d :: e :: f :: g :: i :: n :: (m / 256 / 256 / 256 % 256) :: (m / 256 / 256 % 256) :: (m / 256 % 256) :: (m % 256) :: (L / 256 % 256) :: (L % 256) :: (l++[t1,t2]):=by
    unfold lineL
    rw[← hT,hT3]
    unfold lineB
    rw[leL4 m m0,leL2 _ (by omega), ← hL,show q % 256=q by omega,show n % 256=n by omega]
    simp
  rw[hbb] at hE
  obtain⟨bb,hbbe⟩:∃ bb:List Int,bb=q :: a :: b :: c :: d :: e :: f :: g :: i :: n :: (m / 256 / 256 / 256 % 256) :: (m / 256 / 256 % 256) :: (m / 256 % 256) :: (m % 256) :: (L / 256 % 256) :: (L % 256) :: (l++[t1,t2]):=⟨_,rfl⟩
  rw[← hbbe] at hE
  have hlen:bb.length=18+l.length:=by rw[hbbe];simp;omega
  have hby:∀ z∈bb,0≤z∧z<256:=by
    intro z hz
    rw[hbbe] at hz
    simp only[List.mem_cons,List.mem_append,List.not_mem_nil,or_false] at hz
    have hx8:∀ y,y=a∨y=b∨y=c∨y=d∨y=e∨y=f∨y=g∨y=i→0≤y∧y<256:=fun y hy=>hxb y (by simpa using hy)
    rcases hz with hz | hz | hz | hz | hz | hz | hz | hz | hz | hz | hz | hz | hz | hz | hz | hz | hz | hz | hz
    · omega
    · exact hx8 z (by simp [hz])
    · exact hx8 z (by simp [hz])
    · exact hx8 z (by simp [hz])
    · exact hx8 z (by simp [hz])
    · exact hx8 z (by simp [hz])
    · exact hx8 z (by simp [hz])
    · exact hx8 z (by simp [hz])
    · exact hx8 z (by simp [hz])
    · omega
    · omega
    · omega
    · omega
    · omega
    · omega
    · omega
    · exact hlb z hz
    · omega
    · omega
  have r0:rd bb 0=q:=by rw[hbbe];rfl
  have r9:rd bb 9=n:=by rw[hbbe];rfl
  have r14:rd bb 14=L / 256 % 256:=by rw[hbbe];rfl
  have r15:rd bb 15=L % 256:=by rw[hbbe];rfl
  have hN:256*(L / 256 % 256)+L % 256=L:=by omega
  have w14:(bb.take 14).drop 10=[m / 256 / 256 / 256 % 256,m / 256 / 256 % 256,m / 256 % 256,m % 256]:=by rw[hbbe];rfl
  have w9:(bb.take 9).drop 1=[a,b,c,d,e,f,g,i]:=by rw[hbbe];rfl
  have w16:(bb.take (16+l.length)).drop 16=l:=by
    rw[hbbe,List.take_drop.symm]
    show(l++[t1,t2]).take _=l
    simp
  have w18:bb.take (18+l.length)=bb:=by rw[← hlen,List.take_length]
  have eW:Ev (fun k=>spec_Words.f k [m / 256 / 256 / 256 % 256,m / 256 / 256 % 256,m / 256 % 256,m % 256] true) [m]:=by
    refine evOf 4 fun k hk=>?_
    rw[specWords _ true (by simp) k (by simpa using hk)]
    have:word4 true (m / 256 / 256 / 256 % 256) (m / 256 / 256 % 256) (m / 256 % 256) (m % 256)=m:=by
      show w4 _ _ _ _=m
      rw[w4_eq _ _ _ _ (by omega) (by omega) (by omega) (by omega)]
      omega
    simp only[wordsL,this]
  have eH:Ev (fun k=>spec_Hex.f k [a,b,c,d,e,f,g,i]) (strOfNums (hexL [a,b,c,d,e,f,g,i])):=evOf 8 fun k hk=>specHex _ hxb (by simp) k (by simpa using hk)
  refine⟨bb,hE,hlen,by omega,hby,?_,?_⟩
  · unfold spec_LineOf.f
    simp only[Int.zero_add,r0,r9,r14,r15,hN]
    refine evPos (by omega) (evPos (by omega) (evPos (by omega) (evPos (by omega) ?_)))
    rw[show(14:Int).toNat=14 from rfl,show(10:Int).toNat=10 from rfl,show(9:Int).toNat=9 from rfl,show(1:Int).toNat=1 from rfl,show(16:Int).toNat=16 from rfl,show(0:Int).toNat=0 from rfl,show(16+L).toNat=16+l.length by omega,show(18+L).toNat=18+l.length by omega,w14,w9,w16,w18]
    refine evBind eW (evPos (by simp) (evBind eH ?_))
    simp only[hr,show rd [m] 0=m from rfl]
    refine evBind hE ?_
    simp only[List.drop_zero,specSame,Option.bind_some,sameL_same]
    rw[show(18:Int)+L=(bb.length:Int) by omega]
    exact evPos trivial (evConst _)
  · have hc:bb.length - 1=17+l.length:=by omega
    rw[hc]
    have hl2:((bb.take (17+l.length)).length:Int)=17+L:=by rw[List.length_take];omega
    by_cases z:L=0
    · refine⟨(0,⟨#[]⟩,0,0,[],0,false),rfl,?_⟩
      exact evOf 0 fun k _=>lineEnd k _ 0 (by omega) (by omega)
    · refine⟨(0,⟨#[]⟩,0,0,[],0,false),rfl,?_⟩
      have tk:∀ j:Int,0≤j→j<17+L→rd (bb.take (17+l.length)) j=rd bb j:=fun j h0 h1=>by
        have:=rd_take bb (17+L) j h0 h1
        rwa [show(17+L).toNat=17+l.length by omega] at this
      unfold spec_LineOf.f
      simp only[Int.zero_add]
      rw[tk 0 (by omega) (by omega),tk 9 (by omega) (by omega),tk 14 (by omega) (by omega),tk 15 (by omega) (by omega),r0,r9,r14,r15,hN]
      exact evPos (by omega) (evPos (by omega) (evPos (by omega) (evNeg (by omega) (evConst _))))
end Go.Proofs.Ytlalkldjpniakaa.B
namespace Go.Proofs.Ytlalkldjpniakaa.P
open Go.RowKit Go.Proofs.YtlalkldjpniakaaW.PrintWords Go.Proofs.YtlalkldjpniakaaW.PrintLast Go.Proofs.YtlalkldjpniakaaW.PrintMore
attribute [local go_sem] zck zcl zdl zdm zbz zca zcm zcn -- for this text's walks alone
set_option linter.unusedVariables false
set_option linter.unusedSimpArgs false

def spec_l1Once.f (s0_0:List Int) (s0_1:Int) (s0_2:Int) (a1:Int):Option (Bool×Int×Int):=(spec_l1Below.f s0_0 s0_1 s0_2 a1).bind fun bt894=>(some ((bt894.1==0),bt894.2.1,bt894.2.2))
set_option maxHeartbeats 8000000 in
set_option maxRecDepth 100000 in
theorem spec_l1Once.calls (g:Nat) (s0_0:List Int) (s0_1:Int) (s0_2:Int) (a1:Int) (r1:Bool) (r2:Int) (r3:Int) (w0 w:World) (hI:IsS132 w0 w g s0_0 s0_1 s0_2) (hB:Below w0.heap.size w0 w) (h:spec_l1Once.f s0_0 s0_1 s0_2 a1=some (r1,r2,r3)):
  Calls Try.prog 142 #[.pointer (some ⟨g,0,none⟩), .int .i64 a1] w fun e w'=>e= .returned (.bool r1)∧IsS132 w0 w' g s0_0 r2 r3∧Below w0.heap.size w0 w'∧KeepBut w w' g none:=by
 have HI0:=Aside0.mk hI
 have HK:=Aside0.mk (zhc w g none)
 have HL:=Aside0.mk hB.size
 clear hI
 have HW0:=Aside0.mk hB.size
 have HB:=Aside0.mk hB
 clear hB
 have H:((spec_l1Below.f s0_0 s0_1 s0_2 a1).bind fun bt894=>(some ((bt894.1==0),bt894.2.1,bt894.2.2)))=some (r1,r2,r3):=h
 clear h
 obtain⟨⟨o0,B0,C0⟩,A3,H⟩:=bnd H
 try dsimp only at H
 simp only[zaz,zbn] at H
 obtain⟨rfl,rfl,rfl⟩:=H
 go_enter Try.func142,Try.ntmps142
 go_wp2_with (first | (refine jgc 143 ?_;refine jgs 7 Try.func143 #[.pointer (some ⟨g,0,none⟩), .int .i64 a1] ?_;(with_reducible refine(spec_l1Below.calls g s0_0 s0_1 s0_2 a1 o0 B0 C0 w0 _ ?side1 ?side2 A3.out).mono ?_);(case side1=>repeat(first | (with_reducible first | exact HI0.out | apply IsS132.alloc | apply IsS132.drewN | apply IsS132.drew | apply IsS132.set_1 | apply IsS132.set_2) | exact HI0.out));(case side2=>repeat(first | (with_reducible first | exact HB.out | apply zbe | apply zat | apply zba | refine zav ?_ (IsS132.ge HI0.out)) | exact HB.out));rintro e w4 ⟨rfl,hi,hb,hk⟩;refine⟨_,rfl,?_⟩;have n_:=jA3 (zay jk hk (.inl rfl)) (hb) (hi);clear HK HB HI0;obtain⟨HK,HB,HI0⟩:=n_;(try clear hb);(try clear hb2);(try clear hk);(try clear hi)))
 go_ret
 exact⟨jex,by repeat(first | (with_reducible first | exact HI0.out | apply IsS132.alloc | apply IsS132.drewN | apply IsS132.drew | apply IsS132.set_1 | apply IsS132.set_2) | exact HI0.out),by repeat(first | (with_reducible first | exact HB.out | apply zbe | apply zat | apply zba | refine zav ?_ (IsS132.ge HI0.out)) | exact HB.out),by repeat(first | (with_reducible first | exact HK.out | apply zep | apply zfi | apply zfx | apply zfj) | exact HK.out)⟩
end Go.Proofs.Ytlalkldjpniakaa.P
/- What the reference draws out of a list of bytes: there is always an answer, and how large it is; for lists of at most 2^40 bytes. -/
namespace Go.Proofs.Ytlalkldjpniakaa.B
open Go.RowKit Go.Proofs.Ytlalkldjpniakaa.P Go.Proofs.YtlalkldjpniakaaW.PrintWords Go.Proofs.YtlalkldjpniakaaW.PrintLast Go.Proofs.YtlalkldjpniakaaW.PrintMore
theorem byteD (d:List Int) (p s:Int) (hd:d.length≤1099511627776) (hp:0≤p):∃ v p' s',spec_l1Byte.f d p s=some (v,p',s')∧0≤v∧v<256∧0≤p':=by
  unfold spec_l1Byte.f
  simp only[i64_and255]
  by_cases h:p<(d.length:Int)
  · rw[if_pos h,if_pos hp,wrap_eq (p+1) (by omega) (by omega)]
    exact⟨_,_,_,rfl,by omega,by omega,by omega⟩
  · rw[if_neg h]
    exact⟨_,_,_,rfl,by omega,by omega,hp⟩
theorem belowD (d:List Int) (p s a:Int) (hd:d.length≤1099511627776) (hp:0≤p):∃ v p' s',spec_l1Below.f d p s a=some (v,p',s')∧0≤v∧(0<a→v<a)∧0≤p':=by
  unfold spec_l1Below.f
  by_cases h:a≤0
  · rw[if_pos h];exact⟨_,_,_,rfl,by omega,by omega,hp⟩
  · rw[if_neg h]
    by_cases h2:a≤256
    · obtain⟨v,p',s',e,h0,h1,hp'⟩:=byteD d p s hd hp
      rw[if_pos h2,e,Option.bind_some,if_neg (by omega)]
      exact⟨_,_,_,rfl,Int.tmod_nonneg _ h0,fun ha=>Int.tmod_lt_of_pos _ ha,hp'⟩
    · rw[if_neg h2]
      obtain⟨v1,p1,s1,e1,a1,b1,hp1⟩:=byteD d p s hd hp
      obtain⟨v2,p2,s2,e2,a2,b2,hp2⟩:=byteD d p1 s1 hd hp1
      obtain⟨v3,p3,s3,e3,a3,b3,hp3⟩:=byteD d p2 s2 hd hp2
      obtain⟨v4,p4,s4,e4,a4,b4,hp4⟩:=byteD d p3 s3 hd hp3
      rw[e1,Option.bind_some,e2,Option.bind_some,e3,Option.bind_some,e4,Option.bind_some,if_neg (by omega)]
      simp only[]
      rw[wrap_eq (v1*16777216) (by omega) (by omega),wrap_eq (v2*65536) (by omega) (by omega),wrap_eq (v3*256) (by omega) (by omega),wrap_eq (v1*16777216+v2*65536) (by omega) (by omega),wrap_eq (v1*16777216+v2*65536+v3*256) (by omega) (by omega),wrap_eq (v1*16777216+v2*65536+v3*256+v4) (by omega) (by omega)]
      exact⟨_,_,_,rfl,Int.tmod_nonneg _ (by omega),fun ha=>Int.tmod_lt_of_pos _ ha,hp4⟩
theorem newD_l0:∀ (n:Nat) (l:List Int) (s:Int) (i:Nat) (k:Nat),l.length - i=n→l.length≤1099511627776→n<k→∃ s',spec_l1New.l0 k l s (i:Int)=some (l,0,s')
  | 0,l,s,i,k,hn,hl,hk=>by
    obtain⟨k,rfl⟩:∃ m,k=m+1:=⟨k - 1,by omega⟩
    simp only[spec_l1New.l0];rw[if_neg (by omega)];exact⟨_,rfl⟩
  | n+1,l,s,i,k,hn,hl,hk=>by
    obtain⟨k,rfl⟩:∃ m,k=m+1:=⟨k - 1,by omega⟩
    simp only[spec_l1New.l0];rw[if_pos (by omega)]
    by_cases h:(i:Int)<4000
    · rw[if_pos h,if_pos (by omega),wrap_eq ((i:Int)+1) (by omega) (by omega)]
      exact newD_l0 n l _ (i+1) k (by omega) hl (by omega)
    · rw[if_neg h];exact⟨_,rfl⟩
theorem newD (l:List Int) (k:Nat) (hl:l.length≤1099511627776) (hk:l.length<k):∃ s',spec_l1New.f k l=some (l,0,s'):=
  newD_l0 _ l _ 0 k rfl hl (by omega)
theorem pickD (d:List Int) (p s:Int) (l:List Int) (hl:0<l.length) (hd:d.length≤1099511627776) (hp:0≤p):∃ v p' s',spec_l1PickInt.f d p s l=some (v,p',s')∧v∈l∧0≤p':=by
  obtain⟨i,p',s',e,h0,h1,hp'⟩:=belowD d p s (l.length:Int) hd hp
  have h1:=h1 (by omega)
  unfold spec_l1PickInt.f
  rw[e,Option.bind_some,if_pos h0,if_pos h1]
  refine⟨_,_,_,rfl,?_,hp'⟩
  unfold rd
  rw[List.getD_eq_getElem?_getD,List.getElem?_eq_getElem (show i.toNat<l.length by omega)]
  exact List.getElem_mem _
theorem bytesD_l0 (d:List Int) (hd:d.length≤1099511627776):∀ (n:Nat) (acc:List Int) (m i p s:Int) (k:Nat),0≤i→(m - i).toNat=n→m≤1000000→acc.length≤10000000→(∀ x∈acc,0≤x∧x<256)→n<1000001→acc.length+n≤10000000→0≤p→n<k→
    ∃ r p' s',spec_l1DrawBytes.l0 k acc m i d p s=some (r,p',s')∧(∀ x∈r,0≤x∧x<256)∧r.length=acc.length+n∧0≤p'
  | 0,acc,m,i,p,s,k,hi,hn,hm,ha,hw,hc,hx,hp,hk=>by
    obtain⟨k,rfl⟩:∃ m,k=m+1:=⟨k - 1,by omega⟩
    simp only[spec_l1DrawBytes.l0];rw[if_neg (by omega)];exact⟨_,_,_,rfl,hw,rfl,hp⟩
  | n+1,acc,m,i,p,s,k,hi,hn,hm,ha,hw,hc,hx,hp,hk=>by
    obtain⟨k,rfl⟩:∃ m,k=m+1:=⟨k - 1,by omega⟩
    obtain⟨v,p',s',e,h0,h1,hp'⟩:=belowD d p s 256 hd hp
    simp only[spec_l1DrawBytes.l0];rw[if_pos (by omega),e,Option.bind_some,if_pos (by omega),wrap_eq (i+1) (by omega) (by omega)]
    obtain⟨r,p2,s2,h,hr,hl,hp2⟩:=bytesD_l0 d hd n (acc++[v % 256]) m (i+1) p' s' k (by omega) (by omega) hm (by simp;omega) (by intro x hx;rcases List.mem_append.1 hx with h | h;exact hw x h;simp at h;omega) (by omega) (by simp;omega) hp' (by omega)
    exact⟨r,p2,s2,h,hr,by rw[hl];simp;omega,hp2⟩
theorem bytesD (d:List Int) (p s a:Int) (hd:d.length≤1099511627776) (hp:0≤p) (ha:0≤a) (hb:a≤100000) (k:Nat) (hk:100001<k):∃ r p' s',spec_l1DrawBytes.f k d p s a=some (r,p',s')∧(∀ x∈r,0≤x∧x<256)∧(r.length:Int)≤a∧0≤p':=by
  obtain⟨v,p',s',e,h0,h1,hp'⟩:=belowD d p s (a+1) hd hp
  have h1:=h1 (by omega)
  unfold spec_l1DrawBytes.f
  rw[wrap_eq (a+1) (by omega) (by omega),e,Option.bind_some]
  obtain⟨r,p2,s2,h,hr,hl,hp2⟩:=bytesD_l0 d hd v.toNat [] v 0 p' s' k (by omega) (by omega) (by omega) (by simp) (by simp) (by omega) (by simp;omega) hp' (by omega)
  exact⟨r,p2,s2,h,hr,by rw[hl];simp;omega,hp2⟩
theorem onceD (d:List Int) (p s a:Int) (hd:d.length≤1099511627776) (hp:0≤p):∃ v p' s',spec_l1Once.f d p s a=some (v,p',s')∧0≤p':=by
  obtain⟨v,p',s',e,_,_,hp'⟩:=belowD d p s a hd hp
  unfold spec_l1Once.f
  rw[e]
  exact⟨_,_,_,rfl,hp'⟩
end Go.Proofs.Ytlalkldjpniakaa.B
/- A text that is picked, a new cursor, a route: there is always an answer. -/
namespace Go.Proofs.Ytlalkldjpniakaa.B
open Go.RowKit Go.Proofs.Ytlalkldjpniakaa.P Go.Proofs.YtlalkldjpniakaaW.PrintWords Go.Proofs.YtlalkldjpniakaaW.PrintLast Go.Proofs.YtlalkldjpniakaaW.PrintMore
set_option linter.unusedSimpArgs false
theorem pickS (d:List Int) (p s:Int) (l:List ByteArray) (hl:0<l.length) (hd:d.length≤1099511627776) (hp:0≤p):∃ v p' s',spec_l1Pick.f d p s l=some (v,p',s')∧v∈l∧0≤p':=by
  obtain⟨i,p',s',e,h0,h1,hp'⟩:=belowD d p s (l.length:Int) hd hp
  have h1:=h1 (by omega)
  unfold spec_l1Pick.f
  rw[e,Option.bind_some,if_pos h0,if_pos h1]
  refine⟨_,_,_,rfl,?_,hp'⟩
  unfold rdOf
  rw[List.getD_eq_getElem?_getD,List.getElem?_eq_getElem (show i.toNat<l.length by omega)]
  exact List.getElem_mem _
theorem newE (l:List Int) (hl:l.length≤1099511627776):∃ s',Ev (fun k=>spec_l1New.f k l) (l,0,s'):=by
  obtain⟨s',h⟩:=newD l (l.length+1) hl (by omega)
  exact⟨s',Ev.of (fun k=>spec_l1New.mono l k) h⟩
theorem routeD (d:List Int) (p s:Int) (hd:d.length≤1099511627776) (hp:0≤p):∃ v p' s',spec_l13DrawRoute.f d p s=some (v,p',s')∧v.size≤16∧0≤p':=by
  unfold spec_l13DrawRoute.f
  obtain⟨v,p',s',e,h,hp'⟩:=pickS d p s [⟨#[48,48,48,48,48,48,48,48,48,48,48,48,48,48,48,48]⟩,⟨#[48,48,48,48,48,48,48,48,48,48,48,48,48,48,102,102]⟩,⟨#[97,98,99,100,101,102,48,49,50,51,52,53,54,55,56,57]⟩] (by simp) hd hp
  rw[e]
  refine⟨v,p',s',rfl,?_,hp'⟩
  simp only[List.mem_cons,List.not_mem_nil,or_false] at h
  rcases h with rfl | rfl | rfl <;> decide
end Go.Proofs.Ytlalkldjpniakaa.B
/- What the reference draws for a book: there is always an answer, and how large it is; for lists of at most 2^40 bytes. -/
namespace Go.Proofs.Ytlalkldjpniakaa.B
open Go.RowKit Go.Proofs.Ytlalkldjpniakaa.P Go.Proofs.YtlalkldjpniakaaW.PrintWords Go.Proofs.YtlalkldjpniakaaW.PrintLast Go.Proofs.YtlalkldjpniakaaW.PrintMore
set_option linter.unusedSimpArgs false
set_option linter.unusedVariables false
def byts (l:List Int):Prop:=∀ z∈l,0≤z∧z<256
theorem evSame {α:Type} {f:Nat→Option α} {a b:α} (h1:Ev f a) (h2:Ev f b):a=b:=by
  obtain⟨n,h1⟩:=h1
  obtain⟨m,h2⟩:=h2
  exact Option.some.inj ((h1 (n+m) (by omega)).symm.trans (h2 (n+m) (by omega)))
theorem itemD2 (d:List Int) (p s:Int) (hd:d.length≤1099511627776) (hp:0≤p):∃ a n m b p' s',Ev (fun k=>spec_l13DrawItem.f k d p s) (a,n,m,b,p',s')∧a.size≤16∧b.length≤6∧byts b∧0≤p':=by
  unfold spec_l13DrawItem.f
  obtain⟨a,p1,s1,e1,h1,hp1⟩:=routeD d p s hd hp
  obtain⟨n,p2,s2,e2,_,_,hp2⟩:=belowD d p1 s1 3 hd hp1
  obtain⟨m,p3,s3,e3,_,hp3⟩:=pickD d p2 s2 [0,5,20,100] (by simp) hd hp2
  obtain⟨b,p4,s4,e4,hbb,hl,hp4⟩:=bytesD d p3 s3 6 hd hp3 (by omega) (by omega) 100002 (by omega)
  have E4:Ev (fun k=>spec_l1DrawBytes.f k d p3 s3 6) (b,p4,s4):=Ev.of (fun k=>spec_l1DrawBytes.mono d p3 s3 6 k) e4
  obtain⟨v,p5,s5,e5,_,_,hp5⟩:=belowD d p4 s4 16 hd hp4
  simp only[e1,e2,e3,Option.bind_some]
  have hb:b.length≤6:=by omega
  by_cases c0:v=0
  · obtain⟨u,p6,s6,e6,h6,hp6⟩:=pickS d p5 s5 [⟨#[]⟩,⟨#[48,48]⟩,⟨#[48,48,48,48,48,48,48,48,48,48,48,48,48,48,48,103]⟩] (by simp) hd hp5
    refine⟨u,n,m,b,p6,s6,evBind E4 ?_,?_,hb,hbb,hp6⟩
    · simp only[e5,Option.bind_some,e6]
      exact evPos c0 (evConst _)
    · simp only[List.mem_cons,List.not_mem_nil,or_false] at h6
      rcases h6 with rfl | rfl | rfl <;> decide
  · by_cases c1:v=1
    · obtain⟨u,p6,s6,e6,h6,hp6⟩:=pickD d p5 s5 [-1,9,10] (by simp) hd hp5
      refine⟨a,u,m,b,p6,s6,evBind E4 ?_,h1,hb,hbb,hp6⟩
      simp only[e5,Option.bind_some,e6]
      exact evNeg c0 (evPos c1 (evConst _))
    · by_cases c2:v=2
      · obtain⟨u,p6,s6,e6,h6,hp6⟩:=pickD d p5 s5 [-1,100000,100001] (by simp) hd hp5
        refine⟨a,n,u,b,p6,s6,evBind E4 ?_,h1,hb,hbb,hp6⟩
        simp only[e5,Option.bind_some,e6]
        exact evNeg c0 (evNeg c1 (evPos c2 (evConst _)))
      · refine⟨a,n,m,b,p5,s5,evBind E4 ?_,h1,hb,hbb,hp5⟩
        simp only[e5,Option.bind_some]
        exact evNeg c0 (evNeg c1 (evNeg c2 (evConst _)))
theorem lineD (d:List Int) (p s:Int) (hd:d.length≤1099511627776) (hp:0≤p):∃ q a n m b p' s',Ev (fun k=>spec_l14DrawLine.f k d p s) (q,a,n,m,b,p',s')∧a.size≤16∧b.length≤6∧byts b∧0≤p':=by
  unfold spec_l14DrawLine.f
  obtain⟨a,n,m,b,p1,s1,e1,ha,hb,hbb,hp1⟩:=itemD2 d p s hd hp
  obtain⟨v,p2,s2,e2,_,_,hp2⟩:=belowD d p1 s1 5 hd hp1
  have nil:byts []:=fun z hz=>absurd hz List.not_mem_nil
  by_cases c0:v=0
  · refine⟨2,a,0,0,[],p2,s2,evBind e1 ?_,ha,by simp,nil,hp2⟩
    simp only[e2,Option.bind_some]
    exact evPos c0 (evConst _)
  by_cases c1:v=1
  · obtain⟨u,p3,s3,e3,_,_,hp3⟩:=belowD d p2 s2 30 hd hp2
    refine⟨3,⟨#[]⟩,0,u,[],p3,s3,evBind e1 ?_,by decide,by simp,nil,hp3⟩
    simp only[e2,Option.bind_some,e3]
    exact evNeg c0 (evPos c1 (evConst _))
  by_cases c2:v=2
  · obtain⟨u,p3,s3,e3,_,_,hp3⟩:=belowD d p2 s2 5 hd hp2
    refine⟨u,a,0,m,[],p3,s3,evBind e1 ?_,ha,by simp,nil,hp3⟩
    simp only[e2,Option.bind_some,e3]
    exact evNeg c0 (evNeg c1 (evPos c2 (evConst _)))
  · refine⟨1,a,n,m,b,p2,s2,evBind e1 ?_,ha,hb,hbb,hp2⟩
    simp only[e2,Option.bind_some]
    exact evNeg c0 (evNeg c1 (evNeg c2 (evConst _)))
/-- A line's bytes are bytes, and not many. -/
theorem lineBytesD (q:Int) (s:ByteArray) (n m:Int) (l:List Int) (hs:s.size≤1048576) (hl:l.length≤1048576) (hlb:byts l):∃ bb:List Int,Ev (fun k=>spec_LineBytes.f k q s n m l) bb∧Ev (fun k=>impl_LineBytes.f k q s n m l) bb∧bb.length≤s.size+l.length+100∧byts bb:=by
  obtain⟨r,hr,h⟩:=lineBytes q s n m l hs hl
  have e1:Ev (fun k=>spec_LineBytes.f k q s n m l) r:=evOf (s.size+50) fun k hk=>(h k hk).1
  have e2:Ev (fun k=>impl_LineBytes.f k q s n m l) r:=evOf (s.size+50) fun k hk=>(h k hk).2
  refine⟨r,e1,e2,hr,?_⟩
  obtain⟨b,hb⟩:=lineOk q s n m l (by omega) (by omega)
  cases b with
  | true=>
    obtain⟨bb,g1,_,_,g2,_⟩:=lineBack q s n m l hs hl hlb (s.size+4) (hb (s.size+4) (by omega)).1
    rw[evSame e1 g1];exact g2
  | false=>
    have e3:Ev (fun k=>spec_LineBytes.f k q s n m l) []:=evOf (s.size+50) fun k hk=>by
      unfold spec_LineBytes.f
      rw[(hb k (by omega)).1,Option.bind_some,if_neg (by decide)]
    rw[evSame e1 e3]
    exact fun z hz=>absurd hz List.not_mem_nil
theorem bookD_l0 (d:List Int) (hd:d.length≤1099511627776):∀ (n:Nat) (acc:List Int) (i p s:Int),0≤i→i+n=8→(acc.length:Int)≤200*i→byts acc→0≤p→
    ∃ r p' s',Ev (fun k=>spec_l14DrawBook.l0 k acc i d p s) (r,p',s')∧r.length≤1600∧byts r∧0≤p'
  | 0,acc,i,p,s,h0,hn,hc,hb,hp=>by
    obtain⟨v,p1,s1,e1,_,h1,hp1⟩:=belowD d p s 8 hd hp
    refine⟨acc,p1,s1,evUp ?_,by omega,hb,hp1⟩
    simp only[spec_l14DrawBook.l0,e1,Option.bind_some]
    exact evNeg (by have:=h1 (by omega);omega) (evConst _)
  | n+1,acc,i,p,s,h0,hn,hc,hb,hp=>by
    obtain⟨v,p1,s1,e1,_,h1,hp1⟩:=belowD d p s 8 hd hp
    by_cases c:i<v
    · obtain⟨q,a,x,m,b,p2,s2,e2,ha,hl,hbb,hp2⟩:=lineD d p1 s1 hd hp1
      obtain⟨bb,g1,_,g2,g3⟩:=lineBytesD q a x m b (by omega) (by omega) hbb
      obtain⟨r,p3,s3,e3,h3,hb3,hp3⟩:=bookD_l0 d hd n (acc++bb) (i+1) p2 s2 (by omega) (by omega) (by rw[List.length_append];omega) (fun z hz=>by rcases List.mem_append.1 hz with h | h;exact hb z h;exact g3 z h) hp2
      refine⟨r,p3,s3,evUp ?_,h3,hb3,hp3⟩
      simp only[spec_l14DrawBook.l0,e1,Option.bind_some]
      refine evPos c (evBind e2 (evBind g1 (evPos (by omega) ?_)))
      rw[wrap_eq (i+1) (by omega) (by omega)]
      exact e3
    · refine⟨acc,p1,s1,evUp ?_,by omega,hb,hp1⟩
      simp only[spec_l14DrawBook.l0,e1,Option.bind_some]
      exact evNeg c (evConst _)
theorem dentD (d:List Int) (p s:Int) (l:List Int) (hd:d.length≤1099511627776) (hp:0≤p) (hl:l.length≤10000) (hb:byts l):∃ r p' s',spec_l14Dent.f d p s l=some (r,p',s')∧r.length≤l.length+1∧byts r∧0≤p':=by
  unfold spec_l14Dent.f
  obtain⟨t,p1,s1,e1,t0,t1,hp1⟩:=belowD d p s ((l.length:Int)+1) hd hp
  obtain⟨u,p2,s2,e2,_,_,hp2⟩:=belowD d p1 s1 5 hd hp1
  have t2:=t1 (by omega)
  rw[wrap_eq _ (by omega) (by omega),e1,Option.bind_some]
  simp only[e2,Option.bind_some]
  by_cases c0:u=0
  · rw[if_pos c0,if_pos ⟨t0,by omega⟩]
    exact⟨_,_,_,rfl,by rw[List.length_take];omega,fun z hz=>hb z (List.mem_of_mem_take hz),hp2⟩
  · rw[if_neg c0]
    by_cases c1:u=1
    · obtain⟨x,p3,s3,e3,_,_,hp3⟩:=belowD d p2 s2 4 hd hp2
      rw[if_pos c1,if_pos ⟨t0,by omega,by omega⟩,e3,Option.bind_some]
      refine⟨_,_,_,rfl,?_,?_,hp3⟩
      · simp only[List.length_append,List.length_cons,List.length_take,List.length_drop];omega
      · intro z hz
        simp only[List.mem_append,List.mem_cons] at hz
        rcases hz with h | h | h
        · exact hb z (List.mem_of_mem_take h)
        · omega
        · exact hb z (List.mem_of_mem_drop h)
    · rw[if_neg c1]
      exact⟨_,_,_,rfl,by omega,hb,hp2⟩
theorem drawLine (l:List Int) (hl:l.length≤1099511627776):∃ q a n m b,Ev (fun k=>spec_DrawLineBytes.f k l) (q,a,n,m,b)∧Ev (fun k=>spec_DrawLineOk.f k l) (q,a,n,m,b)∧a.size≤16∧b.length≤6∧byts b:=by
  obtain⟨s0,e0⟩:=newE l hl
  obtain⟨q,a,n,m,b,p1,s1,e1,ha,hb,hbb,_⟩:=lineD l 0 s0 hl (by omega)
  exact⟨q,a,n,m,b,by unfold spec_DrawLineBytes.f;exact evBind e0 (evBind e1 (evConst _)),by unfold spec_DrawLineOk.f;exact evBind e0 (evBind e1 (evConst _)),ha,hb,hbb⟩
theorem drawLineOf (l:List Int) (hl:l.length≤1099511627776):∃ r a,Ev (fun k=>spec_DrawLineOf.f k l) (r,a)∧r.length≤1000∧byts r:=by
  obtain⟨s0,e0⟩:=newE l hl
  obtain⟨q,a,n,m,b,p1,s1,e1,ha,hb,hbb,hp1⟩:=lineD l 0 s0 hl (by omega)
  obtain⟨x,x1,_,x2,x3⟩:=lineBytesD q a n m b (by omega) (by omega) hbb
  obtain⟨q',a',n',m',b',p2,s2,e2,ha',hb',hbb',hp2⟩:=lineD l p1 s1 hl hp1
  obtain⟨y,y1,_,y2,y3⟩:=lineBytesD q' a' n' m' b' (by omega) (by omega) hbb'
  obtain⟨r,p3,s3,e3,h3,h4,hp3⟩:=dentD l p2 s2 (x++y) hl hp2 (by rw[List.length_append];omega) (fun z hz=>by rcases List.mem_append.1 hz with h | h;exact x3 z h;exact y3 z h)
  obtain⟨v,p4,s4,e4,_,hp4⟩:=pickD l p3 s3 [0,0,0,1,18,(r.length:Int), -1,9223372036854775807] (by simp) hl hp3
  rw[List.length_append] at h3
  refine⟨r,v,?_,by omega,h4⟩
  unfold spec_DrawLineOf.f
  refine evBind e0 (evBind e1 (evBind x1 (evBind e2 (evBind y1 (evPos (by omega) ?_)))))
  simp only[e3,Option.bind_some,e4]
  exact evConst _
theorem drawPlay (l:List Int) (hl:l.length≤1099511627776):∃ r,Ev (fun k=>spec_DrawPlay.f k l) r∧r.length≤1601∧byts r:=by
  obtain⟨s0,e0⟩:=newE l hl
  obtain⟨b,p1,s1,e1,h1,hb,hp1⟩:=bookD_l0 l hl 8 [] 0 0 s0 (by omega) (by omega) (by simp) (fun z hz=>absurd hz List.not_mem_nil) (by omega)
  obtain⟨r,p3,s3,e3,h3,h4,hp3⟩:=dentD l p1 s1 b hl hp1 (by omega) hb
  refine⟨r,?_,by omega,h4⟩
  unfold spec_DrawPlay.f
  refine evBind e0 (evBind e1 ?_)
  simp only[e3,Option.bind_some]
  exact evConst _
end Go.Proofs.Ytlalkldjpniakaa.B
