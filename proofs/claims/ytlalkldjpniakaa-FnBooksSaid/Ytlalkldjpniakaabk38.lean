import Derived.Test.Ytlalkldjpniakaabk37
import Derived.Test.Ytlalkldjpniakaabk19
import Derived.Test.Ytlalkldjpniakaabk21
import Derived.Test.Ytlalkldjpniakaabk12
import Derived.Test.Ytlalkldjpniakaabk24
/- LineBytes, by the program and by the reference: one list; for lines whose lists are of at most 2^20 bytes. -/
namespace Go.Proofs.Ytlalkldjpniakaa.B
open Go.RowKit Go.Proofs.Ytlalkldjpniakaa.P Go.Proofs.YtlalkldjpniakaaW.PrintWords Go.Proofs.YtlalkldjpniakaaW.PrintLast Go.Proofs.YtlalkldjpniakaaW.PrintMore
/-- A line's bytes, its route's bytes given. -/
def lineB (q:Int) (x:List Int) (n m:Int) (l:List Int):List Int:=[q % 256]++x++[n % 256]++(leL m 4).reverse++(leL (l.length:Int) 2).reverse++l
def lineL (q:Int) (x:List Int) (n m:Int) (l:List Int):List Int:=lineB q x n m l++(leL ((lineB q x n m l).length:Int) 2).reverse
theorem lineL_length (q:Int) (x:List Int) (n m:Int) (l:List Int):(lineL q x n m l).length≤x.length+l.length+26:=by
  have h1:=leL_length m 4
  have h2:=leL_length (l.length:Int) 2
  have h3:=leL_length ((lineB q x n m l).length:Int) 2
  unfold lineL
  rw[List.length_append,List.length_reverse]
  unfold lineB at*
  simp only[List.length_append,List.length_reverse,List.length_singleton] at*
  omega
theorem specTail (q:Int) (x:List Int) (n m:Int) (l:List Int) (hx:x.length≤1048576) (hl:l.length≤1048576) (k:Nat) (hk:40<k):
    ((some (([(q) % 256]:List Int):List Int)).bind fun y497=>(if y497.length+x.length<140737488355328 then((some (y497++x:List Int)).bind fun y500=>(if y500.length<140737488355328 then((some (y500++[(n) % 256]:List Int)).bind fun y503=>((spec_Great.f k m 4).bind fun t506=>(if y503.length+t506.length<140737488355328 then((some (y503++t506:List Int)).bind fun y509=>((spec_Great.f k (l.length:Int) 2).bind fun t512=>(if y509.length+t512.length<140737488355328 then((some (y509++t512:List Int)).bind fun y515=>(if y515.length+l.length<140737488355328 then((some (y515++l:List Int)).bind fun y518=>((spec_Great.f k (y518.length:Int) 2).bind fun t521=>(if y518.length+t521.length<140737488355328 then(some (y518++t521)) else(none)))) else(none))) else(none)))) else(none)))) else(none))) else(none)))=some (lineL q x n m l):=by
  have h1:=leL_length m 4
  have h2:=leL_length (l.length:Int) 2
  have h3:=leL_length ((lineB q x n m l).length:Int) 2
  simp only[Option.bind_some]
  rw[if_pos (by simp;omega),if_pos (by simp;omega),specGreat _ _ k hk,Option.bind_some,if_pos (by simp;omega),specGreat _ _ k hk,Option.bind_some,if_pos (by simp;omega),if_pos (by simp;omega),specGreat _ _ k hk,Option.bind_some,if_pos (by rw[List.length_reverse];simp;unfold lineB at h3;simp at h3;omega)]
  rfl
theorem implTail (q:Int) (s:ByteArray) (x:List Int) (n m:Int) (l:List Int) (hx:x.length≤1048576) (hl:l.length≤1048576) (k:Nat) (hk:40<k):impl_LineBytes.j0 (k+1) x q s n m l=some (lineL q x n m l):=by
  have h1:=leL_length m 4
  have h2:=leL_length (l.length:Int) 2
  have h3:=leL_length ((lineB q x n m l).length:Int) 2
  have e:([[q % 256],x,[n % 256],(leL m 4).reverse,(leL (l.length:Int) 2).reverse,l]:List (List Int)).flatten=lineB q x n m l:=by simp [lineB]
  have hlen:(lineB q x n m l).length≤x.length+l.length+18:=by
    unfold lineB
    simp only[List.length_append,List.length_reverse,List.length_singleton]
    omega
  simp only[impl_LineBytes.j0]
  rw[implGreat _ _ k hk,Option.bind_some,implGreat _ _ k hk,Option.bind_some,joined _ (by rw[e];omega) (by simp),e,Option.bind_some,implGreat _ _ k hk,Option.bind_some,if_pos (by rw[List.length_reverse];omega)]
  rfl
theorem lineBytes (q:Int) (s:ByteArray) (n m:Int) (l:List Int) (hs:s.size≤1048576) (hl:l.length≤1048576):∃ r:List Int,r.length≤s.size+l.length+100∧∀ k,s.size+50<k→spec_LineBytes.f k q s n m l=some r∧impl_LineBytes.f k q s n m l=some r:=by
  obtain⟨b,hb⟩:=lineOk q s n m l (by omega) (by omega)
  obtain⟨x,hx1,hx2,hx3⟩:=unhex s (by omega)
  by_cases c:b=true
  · by_cases c3:q=3
    · have h:=lineL_length q (List.replicate 8 0) n m l
      rw[List.length_replicate] at h
      refine⟨lineL q (List.replicate 8 0) n m l,by omega,fun k hk=>⟨?_,?_⟩⟩
      · unfold spec_LineBytes.f
        rw[(hb k (by omega)).1,Option.bind_some,if_pos c,(hx3 k (by omega)).1,Option.bind_some,if_pos c3,if_pos (by omega),Option.bind_some]
        exact specTail q _ n m l (by rw[List.length_replicate];omega) hl k (by omega)
      · obtain⟨k,rfl⟩:∃ m,k=m+1:=⟨k - 1,by omega⟩
        unfold impl_LineBytes.f
        rw[(hb (k+1) (by omega)).2,Option.bind_some,if_pos c,if_pos (by omega),if_pos c3]
        exact implTail q s _ n m l (by rw[List.length_replicate];omega) hl k (by omega)
    · have h:=lineL_length q x.1 n m l
      refine⟨lineL q x.1 n m l,by omega,fun k hk=>⟨?_,?_⟩⟩
      · unfold spec_LineBytes.f
        rw[(hb k (by omega)).1,Option.bind_some,if_pos c,(hx3 k (by omega)).1,Option.bind_some,if_neg c3]
        exact specTail q _ n m l (by omega) hl k (by omega)
      · obtain⟨k,rfl⟩:∃ m,k=m+1:=⟨k - 1,by omega⟩
        unfold impl_LineBytes.f
        rw[(hb (k+1) (by omega)).2,Option.bind_some,if_pos c,if_pos (by omega),if_neg c3,(hx3 (k+1) (by omega)).2,Option.bind_some]
        exact implTail q s _ n m l (by omega) hl k (by omega)
  · refine⟨[],by simp,fun k hk=>⟨?_,?_⟩⟩
    · unfold spec_LineBytes.f;rw[(hb k (by omega)).1,Option.bind_some,if_neg c]
    · unfold impl_LineBytes.f;rw[(hb k (by omega)).2,Option.bind_some,if_neg c]
end Go.Proofs.Ytlalkldjpniakaa.B
/- Hex, by the program and by the reference: two signs a byte; for lists of at most 2^40 bytes. -/
namespace Go.Proofs.Ytlalkldjpniakaa.B
open Go.RowKit Go.Proofs.Ytlalkldjpniakaa.P Go.Proofs.YtlalkldjpniakaaW.PrintWords Go.Proofs.YtlalkldjpniakaaW.PrintLast Go.Proofs.YtlalkldjpniakaaW.PrintMore
def signs:ByteArray:=⟨#[48,49,50,51,52,53,54,55,56,57,97,98,99,100,101,102]⟩
/-- Two signs a byte. -/
def hexL:List Int→List Int
  | []=>[]
  | x :: l=>bt signs (x / 16) :: bt signs (x % 16) :: hexL l
theorem hexL_length:∀ l:List Int,(hexL l).length=2*l.length
  | []=>rfl
  | x :: l=>by simp [hexL,hexL_length l];omega
theorem specHex_l0:∀ (rest pre acc:List Int) (k:Nat),(∀ x∈rest,0≤x∧x<256)→pre.length+rest.length≤1099511627776→acc.length+2*rest.length≤4398046511104→rest.length<k→
    spec_Hex.l0 k (pre++rest) signs acc (pre.length:Int)=some (strOfNums (acc++hexL rest))
  | [],pre,acc,k,hw,hb,hc,hk=>by
    obtain⟨k,rfl⟩:∃ m,k=m+1:=⟨k - 1,by omega⟩
    simp only[spec_Hex.l0];rw[if_neg (nlt_end pre)];simp [hexL]
  | x :: rest,pre,acc,k,hw,hb,hc,hk=>by
    obtain⟨k,rfl⟩:∃ m,k=m+1:=⟨k - 1,by omega⟩
    simp only[List.length_cons] at hb hc hk
    have hx:=hw x (by simp)
    have hs:(signs.size:Int)=16:=rfl
    have ih:=specHex_l0 rest (pre++[x]) (acc++[bt signs (x / 16),bt signs (x % 16)]) k (fun y hy=>hw y (by simp [hy])) (by simp;omega) (by simp;omega) (by omega)
    simp only[spec_Hex.l0,Option.bind_some]
    rw[if_pos (lt_mid pre x rest),if_pos (pre_nonneg pre),rd_mid,u8_and15 _ hx.1 hx.2,hs,if_pos (by omega),if_pos (by omega),if_pos (by omega),if_pos (by omega),if_pos (by simp;omega),wrap_step pre x (by omega),snoc_app pre x rest,ih]
    simp [hexL]
theorem specHex (l:List Int) (hw:∀ x∈l,0≤x∧x<256) (hn:l.length≤1099511627776) (k:Nat) (hk:l.length<k):spec_Hex.f k l=some (strOfNums (hexL l)):=by
  have h:=specHex_l0 l [] [] k hw (by simpa using hn) (by simp;omega) hk
  simpa [spec_Hex.f,signs] using h
theorem implHex_l0:∀ (rest pre acc:List Int) (n:Int) (k:Nat),n=(((pre++rest).length:Nat):Int)→(∀ x∈rest,0≤x∧x<256)→pre.length+rest.length≤1099511627776→acc.length+2*rest.length≤4398046511104→rest.length<k→
    impl_Hex.l0 k acc (pre++rest) n (pre.length:Int)=some (strOfNums (acc++hexL rest))
  | [],pre,acc,n,k,he,hw,hb,hc,hk=>by
    obtain⟨k,rfl⟩:∃ m,k=m+1:=⟨k - 1,by omega⟩
    simp only[impl_Hex.l0];rw[if_neg (by rw[he];exact nlt_end pre)];simp [hexL]
  | x :: rest,pre,acc,n,k,he,hw,hb,hc,hk=>by
    obtain⟨k,rfl⟩:∃ m,k=m+1:=⟨k - 1,by omega⟩
    simp only[List.length_cons] at hb hc hk
    have hx:=hw x (by simp)
    have ih:=implHex_l0 rest (pre++[x]) (acc++[bt signs (x / 16),bt signs (x % 16)]) n k (by rw[he];simp) (fun y hy=>hw y (by simp [hy])) (by simp;omega) (by simp;omega) (by omega)
    simp only[impl_Hex.l0,Option.bind_some]
    rw[if_pos (by rw[he];exact lt_mid pre x rest),if_pos (pre_nonneg pre),if_pos (lt_mid pre x rest),rd_mid,u8_and15 _ hx.1 hx.2,if_pos (by omega),if_pos (by omega),if_pos (by omega),if_pos (by omega),if_pos (by simp;omega),wrap_step pre x (by omega),snoc_app pre x rest]
    refine Eq.trans ?_ (ih.trans ?_)
    · rfl
    · simp [hexL]
theorem implHex (l:List Int) (hw:∀ x∈l,0≤x∧x<256) (hn:l.length≤1099511627776) (k:Nat) (hk:l.length<k):impl_Hex.f k l=some (strOfNums (hexL l)):=by
  have h:=implHex_l0 l [] [] _ k rfl hw (by simpa using hn) (by simp;omega) hk
  simpa [impl_Hex.f] using h
end Go.Proofs.Ytlalkldjpniakaa.B
/- Same, by the program and by the reference: whether two lists of bytes are one. -/
namespace Go.Proofs.Ytlalkldjpniakaa.B
open Go.RowKit Go.Proofs.Ytlalkldjpniakaa.P Go.Proofs.YtlalkldjpniakaaW.PrintWords Go.Proofs.YtlalkldjpniakaaW.PrintLast Go.Proofs.YtlalkldjpniakaaW.PrintMore
def sameL (a b:List Int):Bool:=(strOfNums a).toList==(strOfNums b).toList
theorem specSame (a b:List Int):spec_Same.f a b=some (sameL a b):=rfl
theorem implSame (a b:List Int):impl_Same.f a b=some (sameL a b):=rfl
theorem sameL_same (a:List Int):sameL a a=true:=by unfold sameL;simp
end Go.Proofs.Ytlalkldjpniakaa.B
/- Words, by the reference, and one word by the program; for lists of at most 2^40 bytes. -/
namespace Go.Proofs.Ytlalkldjpniakaa.B
open Go.RowKit Go.Proofs.Ytlalkldjpniakaa.P Go.Proofs.YtlalkldjpniakaaW.PrintWords Go.Proofs.YtlalkldjpniakaaW.PrintLast Go.Proofs.YtlalkldjpniakaaW.PrintMore
def w4 (a b c d:Int):Int:=Go.bits .or .i64 (Go.bits .or .i64 (Go.bits .or .i64 (wrap64 ((wrap64 a)*16777216)) (wrap64 ((wrap64 b)*65536))) (wrap64 ((wrap64 c)*256))) (wrap64 d)
def word4 (big:Bool) (a b c d:Int):Int:=if big=true then w4 a b c d else w4 d c b a
/-- The words of a list of bytes. -/
def wordsL (big:Bool):List Int→List Int
  | a :: b :: c :: d :: r=>word4 big a b c d :: wordsL big r
  | _=>[]
theorem wordsL_length (big:Bool):∀ l:List Int,(wordsL big l).length=l.length / 4
  | a :: b :: c :: d :: r=>by simp [wordsL,wordsL_length big r];omega
  | []=>rfl
  | [a]=>by simp [wordsL]
  | [a,b]=>by simp [wordsL]
  | [a,b,c]=>by simp [wordsL]
theorem rd_at (pre l:List Int) (i:Nat) (j:Int) (h:j=(pre.length:Int)+i):rd (pre++l) j=l.getD i 0:=by
  subst h
  unfold rd
  rw[show((pre.length:Int)+i).toNat=pre.length+i from by omega]
  rw[List.getD_eq_getElem?_getD,List.getD_eq_getElem?_getD,List.getElem?_append_right (by omega),show pre.length+i - pre.length=i from by omega]
theorem specWords_l0 (big:Bool):∀ (rest pre acc:List Int) (k:Nat),pre.length+rest.length≤1099511627776→acc.length+rest.length≤4398046511104→rest.length<k→
    spec_Words.l0 k (pre++rest) big acc (pre.length:Int)=some (acc++wordsL big rest)
  | a :: b :: c :: d :: r,pre,acc,k,hb,hc,hk=>by
    obtain⟨k,rfl⟩:∃ m,k=m+1:=⟨k - 1,by omega⟩
    simp only[List.length_cons] at hb hc hk
    have ih:=specWords_l0 big r (pre++[a,b,c,d]) (acc++[word4 big a b c d]) k (by simp;omega) (by simp;omega) (by omega)
    have hl:((pre++a :: b :: c :: d :: r).length:Int)=pre.length+r.length+4:=by simp;omega
    have e1:wrap64 ((pre.length:Int)+1)=pre.length+1:=wrap_eq _ (by omega) (by omega)
    have e2:wrap64 ((pre.length:Int)+2)=pre.length+2:=wrap_eq _ (by omega) (by omega)
    have e3:wrap64 ((pre.length:Int)+3)=pre.length+3:=wrap_eq _ (by omega) (by omega)
    have e4:wrap64 ((pre.length:Int)+4)=((pre++[a,b,c,d]).length:Int):=by rw[wrap_eq _ (by omega) (by omega)];simp
    have r0:rd (pre++a :: b :: c :: d :: r) (pre.length:Int)=a:=rd_at _ _ 0 _ (by omega)
    have r1:rd (pre++a :: b :: c :: d :: r) ((pre.length:Int)+1)=b:=rd_at _ _ 1 _ (by omega)
    have r2:rd (pre++a :: b :: c :: d :: r) ((pre.length:Int)+2)=c:=rd_at _ _ 2 _ (by omega)
    have r3:rd (pre++a :: b :: c :: d :: r) ((pre.length:Int)+3)=d:=rd_at _ _ 3 _ (by omega)
    have hx:pre++a :: b :: c :: d :: r=(pre++[a,b,c,d])++r:=by simp
    simp only[spec_Words.l0,e1,e2,e3,r0,r1,r2,r3]
    rw[hl]
    rw[if_pos (by omega)]
    have hy:(acc++[word4 big a b c d])++wordsL big r=acc++wordsL big (a :: b :: c :: d :: r):=by simp [wordsL]
    rw[← hy, ← ih, ← e4, ← hx]
    cases big
    · rw[if_neg (by decide),if_pos (by omega),if_pos (by omega),if_pos (by omega),if_pos (by omega),if_pos (by omega),if_pos (by omega),if_pos (by omega),if_pos (by omega)]
      rfl
    · rw[if_pos rfl,if_pos (by omega),if_pos (by omega),if_pos (by omega),if_pos (by omega),if_pos (by omega),if_pos (by omega),if_pos (by omega),if_pos (by omega)]
      rfl
  | [],pre,acc,k,hb,hc,hk=>by
    obtain⟨k,rfl⟩:∃ m,k=m+1:=⟨k - 1,by omega⟩
    simp only[spec_Words.l0];rw[wrap_eq _ (by omega) (by simp at hb;omega),if_neg (by simp;omega)];simp [wordsL]
  | [a],pre,acc,k,hb,hc,hk=>by
    obtain⟨k,rfl⟩:∃ m,k=m+1:=⟨k - 1,by omega⟩
    simp only[spec_Words.l0];rw[wrap_eq _ (by omega) (by simp at hb;omega),if_neg (by simp)];simp [wordsL]
  | [a,b],pre,acc,k,hb,hc,hk=>by
    obtain⟨k,rfl⟩:∃ m,k=m+1:=⟨k - 1,by omega⟩
    simp only[spec_Words.l0];rw[wrap_eq _ (by omega) (by simp at hb;omega),if_neg (by simp)];simp [wordsL]
  | [a,b,c],pre,acc,k,hb,hc,hk=>by
    obtain⟨k,rfl⟩:∃ m,k=m+1:=⟨k - 1,by omega⟩
    simp only[spec_Words.l0];rw[wrap_eq _ (by omega) (by simp at hb;omega),if_neg (by simp)];simp [wordsL]
theorem specWords (l:List Int) (big:Bool) (hn:l.length≤1099511627776) (k:Nat) (hk:l.length<k):spec_Words.f k l big=some (wordsL big l):=by
  have h:=specWords_l0 big l [] [] k (by simpa using hn) (by simp;omega) hk
  simpa [spec_Words.f] using h
theorem wordOf4 (big:Bool) (a b c d:Int):impl_wordOf.f [a,b,c,d] big=some (word4 big a b c d):=by
  cases big <;> rfl
end Go.Proofs.Ytlalkldjpniakaa.B
/- What a computation with fuel answers, from some fuel on: more lemmas. -/
namespace Go.Proofs.Ytlalkldjpniakaa.B
open Go.Proofs.YtlalkldjpniakaaW.PrintWords
theorem evConst {α:Type} (r:α):Ev (fun _=>some r) r:=⟨0,fun _ _=>rfl⟩
theorem evUp {α:Type} {f:Nat→Option α} {r:α} (h:Ev (fun k=>f (k+1)) r):Ev f r:=by
  obtain⟨k0,h⟩:=h
  refine⟨k0+1,fun k hk=>?_⟩
  obtain⟨m,rfl⟩:∃ m,k=m+1:=⟨k - 1,by omega⟩
  exact h m (by omega)
theorem evBind {α β:Type} {f:Nat→Option α} {g:Nat→α→Option β} {a:α} {r:β} (h:Ev f a) (h2:Ev (fun k=>g k a) r):Ev (fun k=>(f k).bind fun t=>g k t) r:=by
  obtain⟨k0,h⟩:=h
  obtain⟨k1,h2⟩:=h2
  refine⟨k0+k1,fun k hk=>?_⟩
  show(f k).bind (fun t=>g k t)=some r
  rw[h k (by omega)]
  exact h2 k (by omega)
theorem evPos {α:Type} {c:Prop} [Decidable c] {f g:Nat→Option α} {r:α} (hc:c) (h:Ev f r):Ev (fun k=>if c then f k else g k) r:=by
  obtain⟨k0,h⟩:=h
  exact⟨k0,fun k hk=>by show(if c then f k else g k)=some r;rw[if_pos hc];exact h k hk⟩
theorem evNeg {α:Type} {c:Prop} [Decidable c] {f g:Nat→Option α} {r:α} (hc:¬c) (h:Ev g r):Ev (fun k=>if c then f k else g k) r:=by
  obtain⟨k0,h⟩:=h
  exact⟨k0,fun k hk=>by show(if c then f k else g k)=some r;rw[if_neg hc];exact h k hk⟩
theorem evOf {α:Type} {f:Nat→Option α} {r:α} (n:Nat) (h:∀ k,n<k→f k=some r):Ev f r:=⟨n+1,fun k hk=>h k (by omega)⟩
end Go.Proofs.Ytlalkldjpniakaa.B
/- LineOf, by the program and by the reference: one line, one end; for bytes of at most 2^20. -/
namespace Go.Proofs.Ytlalkldjpniakaa.B
open Go.RowKit Go.Proofs.Ytlalkldjpniakaa.P Go.Proofs.YtlalkldjpniakaaW.PrintWords Go.Proofs.YtlalkldjpniakaaW.PrintLast Go.Proofs.YtlalkldjpniakaaW.PrintMore
theorem rd_in (l:List Int) (h:∀ x∈l,0≤x∧x<256) (i:Int):0≤rd l i∧rd l i≤255:=by
  unfold rd
  rw[List.getD_eq_getElem?_getD]
  cases e:l[i.toNat]? with
  | none=>simp
  | some x=>have:=h x (List.mem_of_getElem? e);simp;omega
theorem rd_drop (l:List Int) (a i:Int) (ha:0≤a) (hi:0≤i):rd (l.drop a.toNat) i=rd l (a+i):=by
  unfold rd
  rw[List.getD_eq_getElem?_getD,List.getD_eq_getElem?_getD,List.getElem?_drop,show(a+i).toNat=a.toNat+i.toNat from by omega]
theorem mid_drop (l:List Int) (a lo hi:Int) (ha:0≤a) (h0:0≤lo) (h1:lo≤hi):(l.take (a+hi).toNat).drop (a+lo).toNat=((l.drop a.toNat).take hi.toNat).drop lo.toNat:=by
  rw[show(a+hi).toNat=a.toNat+hi.toNat from by omega,show(a+lo).toNat=a.toNat+lo.toNat from by omega, ← List.drop_drop,List.take_drop.symm]
theorem four (l:List Int) (h:l.length=4):∃ a b c d,l=[a,b,c,d]:=by
  match l,h with
  | [a,b,c,d],_=>exact⟨a,b,c,d,rfl⟩
theorem mem_cut {l:List Int} {m n:Nat} {x:Int} (h:x∈(l.take m).drop n):x∈l:=List.mem_of_mem_take (List.mem_of_mem_drop h)
/-- What is read of a line. -/
def LineGood (l:List Int) (a:Int) (r:Int×ByteArray×Int×Int×List Int×Int×Bool):Prop:=
  r=(0,⟨#[]⟩,0,0,[],0,false)∨(r.2.2.2.2.2.2=true∧0≤a∧a+18≤r.2.2.2.2.2.1∧r.2.2.2.2.2.1≤(l.length:Int)∧r.2.1.size≤16∧r.2.2.2.2.1.length≤65535∧(∀ x∈r.2.2.2.2.1,0≤x∧x<256)∧
    ∃ bb,Ev (fun k=>spec_LineBytes.f k r.1 r.2.1 r.2.2.1 r.2.2.2.1 r.2.2.2.2.1) bb∧Ev (fun k=>impl_LineBytes.f k r.1 r.2.1 r.2.2.1 r.2.2.2.1 r.2.2.2.2.1) bb∧sameL bb ((l.drop a.toNat).take (r.2.2.2.2.2.1 - a).toNat)=true)
theorem hex_size (l:List Int):(strOfNums (hexL l)).size=2*l.length:=by
  rw[← hexL_length l]
  show((hexL l).map _).toArray.size=_
  simp
theorem lineOf (l:List Int) (a:Int) (hl:l.length≤1048576) (hb:∀ x∈l,0≤x∧x<256):
    ∃ r,Ev (fun k=>spec_LineOf.f k l a) r∧Ev (fun k=>impl_LineOf.f k l a) r∧LineGood l a r:=by
  have hlm:(l.length:Int)≤140737488355232:=by omega
  by_cases c2:0≤a∧a+18≤(l.length:Int)
  · have hin:impl_in.f a 0 ((l.length:Int) - 16 - 2)=some true:=by
      unfold impl_in.f
      rw[if_pos c2.1,decide_eq_true (by omega)]
    obtain⟨xs,exs⟩:∃ xs,xs=l.drop a.toNat:=⟨_,rfl⟩
    have hxl:(xs.length:Int)=(l.length:Int) - a:=by rw[exs,List.length_drop];omega
    have hxb:∀ x∈xs,0≤x∧x<256:=fun x hx=>hb x (by rw[exs] at hx;exact List.mem_of_mem_drop hx)
    have hr:∀ i,0≤i→rd l (a+i)=rd xs i:=fun i hi=>by rw[exs];exact(rd_drop l a i c2.1 hi).symm
    have hr0:rd l a=rd xs 0:=by have:=hr 0 (by omega);rwa [Int.add_zero] at this
    have hc3:(0≤rd xs 0∧rd xs 0≤255)∧(0≤rd xs 9∧rd xs 9≤255)∧(0≤rd xs 14∧rd xs 14≤255)∧(0≤rd xs 15∧rd xs 15≤255):=⟨rd_in xs hxb 0,rd_in xs hxb 9,rd_in xs hxb 14,rd_in xs hxb 15⟩
    obtain⟨n,hn⟩:∃ n,n=256*rd xs 14+rd xs 15:=⟨_,rfl⟩
    have hn0:0≤n∧n≤65535:=by omega
    have hm:∀ lo hi,0≤lo→lo≤hi→(l.take (a+hi).toNat).drop (a+lo).toNat=(xs.take hi.toNat).drop lo.toNat:=fun lo hi h0 h1=>by rw[exs];exact mid_drop l a lo hi c2.1 h0 h1
    have hm0:∀ hi,0≤hi→(l.take (a+hi).toNat).drop a.toNat=xs.take hi.toNat:=fun hi h0=>by have:=hm 0 hi (by omega) h0;simpa using this
    by_cases c4:18+n≤(xs.length:Int)
    · obtain⟨d0,d1,d2,d3,hd⟩:=four ((xs.take (14:Int).toNat).drop (10:Int).toNat) (by rw[List.length_drop,List.length_take,show(14:Int).toNat=14 from rfl,show(10:Int).toNat=10 from rfl];omega)
      obtain⟨due,hdue⟩:∃ due,due=word4 true d0 d1 d2 d3:=⟨_,rfl⟩
      obtain⟨lh,hlh⟩:∃ lh,lh=(xs.take (9:Int).toNat).drop (1:Int).toNat:=⟨_,rfl⟩
      have hlh8:lh.length=8:=by rw[hlh,List.length_drop,List.length_take,show(9:Int).toNat=9 from rfl,show(1:Int).toNat=1 from rfl];omega
      obtain⟨lb,hlb⟩:∃ lb,lb=(xs.take (16+n).toNat).drop (16:Int).toNat:=⟨_,rfl⟩
      have hlbn:lb.length=n.toNat:=by rw[hlb,List.length_drop,List.length_take,show(16:Int).toNat=16 from rfl];omega
      have hlbb:∀ x∈lb,0≤x∧x<256:=fun x hx=>hxb x (mem_cut (by rw[hlb] at hx;exact hx))
      obtain⟨rt,hrt⟩:∃ rt:ByteArray,rt=if rd xs 0=3 then⟨#[]⟩ else strOfNums (hexL lh):=⟨_,rfl⟩
      have hrs:rt.size≤16:=by
        rw[hrt]
        split
        · exact Nat.zero_le _
        · rw[hex_size,hlh8];omega
      obtain⟨bb,hbl,hbb⟩:=lineBytes (rd xs 0) rt (rd xs 9) due lb (by omega) (by omega)
      have eD:Ev (fun k=>spec_Words.f k ((xs.take (14:Int).toNat).drop (10:Int).toNat) true) [due]:=by
        rw[hd,hdue]
        exact evOf 4 fun k hk=>specWords [d0,d1,d2,d3] true (by simp) k (by simpa using hk)
      have eW:impl_wordOf.f ((xs.take (14:Int).toNat).drop (10:Int).toNat) true=some due:=by rw[hd,hdue];exact wordOf4 true d0 d1 d2 d3
      have hlhb:∀ x∈lh,0≤x∧x<256:=fun x hx=>hxb x (mem_cut (by rw[hlh] at hx;exact hx))
      have eHs:Ev (fun k=>spec_Hex.f k lh) (strOfNums (hexL lh)):=evOf lh.length fun k hk=>specHex lh hlhb (by omega) k hk
      have eHi:Ev (fun k=>impl_Hex.f k lh) (strOfNums (hexL lh)):=evOf lh.length fun k hk=>implHex lh hlhb (by omega) k hk
      have eBs:Ev (fun k=>spec_LineBytes.f k (rd xs 0) rt (rd xs 9) due lb) bb:=evOf (rt.size+50) fun k hk=>(hbb k hk).1
      have eBi:Ev (fun k=>impl_LineBytes.f k (rd xs 0) rt (rd xs 9) due lb) bb:=evOf (rt.size+50) fun k hk=>(hbb k hk).2
      have eC:slices_Clone_byte_byte.f lb=some lb:=by unfold slices_Clone_byte_byte.f;rw[if_pos (by omega)]
      obtain⟨s,hs⟩:∃ s,s=sameL bb (xs.take (16+n+2).toNat):=⟨_,rfl⟩
      have e18:a+18+n=a+(18+n):=by omega
      have e16:a+16+n=a+(16+n):=by omega
      refine⟨if s=true then(rd xs 0,rt,rd xs 9,due,lb,a+18+n,true) else(0,⟨#[]⟩,0,0,[],0,false),?_,?_,?_⟩
      · unfold spec_LineOf.f
        rw[hr 9 (by omega),hr 14 (by omega),hr 15 (by omega),hr0, ← hn]
        refine evPos hlm (evPos c2 (evPos hc3 (evPos (by omega) ?_)))
        rw[hm 10 14 (by omega) (by omega),hm 1 9 (by omega) (by omega),e16,hm 16 (16+n) (by omega) (by omega),e18,hm0 (18+n) (by omega), ← hlh, ← hlb]
        refine evBind eD (evPos (by simp) (evBind eHs ?_))
        have hrd:rd [due] 0=due:=rfl
        simp only[← hrt,hrd]
        refine evBind eBs ?_
        rw[show(18+n).toNat=(16+n+2).toNat from by omega]
        simp only[specSame, ← hs,Option.bind_some]
        cases s
        · exact evNeg (by decide) (evConst _)
        · exact evPos rfl (evConst _)
      · unfold impl_LineOf.f
        refine evPos hlm ?_
        rw[hin]
        refine evPos c2 ?_
        rw[← exs]
        unfold impl_LineOf.g
        rw[← hn]
        refine evPos hc3 (evPos c4 ?_)
        rw[← hlh, ← hlb]
        refine evBind eHi ?_
        simp only[← hrt,eW,eC,Option.bind_some]
        refine evBind eBi ?_
        simp only[implSame, ← hs,Option.bind_some]
        rw[show a+(16+n+2)=a+18+n from by omega]
        cases s
        · exact evNeg (by decide) (evConst _)
        · exact evPos rfl (evConst _)
      · cases s with
        | false=>exact .inl rfl
        | true=>
          refine .inr ⟨rfl,c2.1,?_,?_,hrs,?_,hlbb,bb,eBs,eBi,?_⟩
          · show a+18≤a+18+n;omega
          · show a+18+n≤_;omega
          · show lb.length≤_;omega
          · show sameL bb ((l.drop a.toNat).take (a+18+n - a).toNat)=true
            rw[show(a+18+n - a).toNat=(16+n+2).toNat from by omega, ← exs]
            exact hs.symm
    · refine⟨(0,⟨#[]⟩,0,0,[],0,false),?_,?_, .inl rfl⟩
      · unfold spec_LineOf.f
        rw[hr 9 (by omega),hr 14 (by omega),hr 15 (by omega),hr0, ← hn]
        exact evPos hlm (evPos c2 (evPos hc3 (evNeg (by omega) (evConst _))))
      · unfold impl_LineOf.f
        refine evPos hlm ?_
        rw[hin]
        refine evPos c2 ?_
        rw[← exs]
        unfold impl_LineOf.g
        rw[← hn]
        exact evPos hc3 (evNeg c4 (evConst _))
  · have hin:impl_in.f a 0 ((l.length:Int) - 16 - 2)=some false:=by
      unfold impl_in.f
      by_cases h:a≥0
      · rw[if_pos h,decide_eq_false (by omega)]
      · rw[if_neg h]
    refine⟨(0,⟨#[]⟩,0,0,[],0,false),?_,?_, .inl rfl⟩
    · unfold spec_LineOf.f
      exact evPos hlm (evNeg c2 (evConst _))
    · unfold impl_LineOf.f
      refine evPos hlm ?_
      rw[hin]
      exact evConst _
end Go.Proofs.Ytlalkldjpniakaa.B
/- An item read where it lies. -/
namespace Go.Proofs.Ytlalkldjpniakaa.B
open Go.RowKit Go.Proofs.Ytlalkldjpniakaa.P Go.Proofs.YtlalkldjpniakaaW.PrintWords Go.Proofs.YtlalkldjpniakaaW.PrintLast Go.Proofs.YtlalkldjpniakaaW.PrintMore
theorem rdT34_mid (pre:List S34) (x:S34) (rest:List S34):rd_T34 (pre++x :: rest) (pre.length:Int)=x:=by
  unfold rd_T34;simp [List.getD_eq_getElem?_getD]
end Go.Proofs.Ytlalkldjpniakaa.B
/- Of, by the program and by the reference: how many items have a route; for lists of at most 2^40 items. -/
namespace Go.Proofs.Ytlalkldjpniakaa.B
open Go.RowKit Go.Proofs.Ytlalkldjpniakaa.P Go.Proofs.YtlalkldjpniakaaW.PrintWords Go.Proofs.YtlalkldjpniakaaW.PrintLast Go.Proofs.YtlalkldjpniakaaW.PrintMore
def ofL (a:ByteArray):List S34→Int
  | []=>0
  | x :: l=>(if x.f0.toList=a.toList then 1 else 0)+ofL a l
theorem ofL_bounds (a:ByteArray):∀ l:List S34,0≤ofL a l∧ofL a l≤l.length
  | []=>by simp [ofL]
  | x :: l=>by
    have:=ofL_bounds a l
    simp only[ofL,List.length_cons]
    split <;> omega
theorem specOf_l0 (a:ByteArray):∀ (rest pre:List S34) (n:Int) (k:Nat),0≤n→n+rest.length≤1099511627776→pre.length+rest.length≤1099511627776→rest.length<k→
    spec_Of.l0 k (pre++rest) a n (pre.length:Int)=some (n+ofL a rest)
  | [],pre,n,k,h0,hn,hb,hk=>by
    obtain⟨k,rfl⟩:∃ m,k=m+1:=⟨k - 1,by omega⟩
    simp only[spec_Of.l0];rw[if_neg (nlt_end pre)];simp [ofL]
  | x :: rest,pre,n,k,h0,hn,hb,hk=>by
    obtain⟨k,rfl⟩:∃ m,k=m+1:=⟨k - 1,by simp at hk;omega⟩
    simp only[List.length_cons] at hb hk hn
    simp only[spec_Of.l0]
    rw[if_pos (lt_mid pre x rest),if_pos (pre_nonneg pre),rdT34_mid,wrap_step pre x (by omega),snoc_app pre x rest]
    unfold spec_l1Bit.f
    by_cases e:x.f0.toList=a.toList
    · have ih:=specOf_l0 a rest (pre++[x]) (n+1) k (by omega) (by omega) (by simp;omega) (by omega)
      rw[if_pos (by simpa using e),Option.bind_some,wrap_eq _ (by omega) (by omega),ih]
      simp only[ofL];rw[if_pos e];congr 1;omega
    · have ih:=specOf_l0 a rest (pre++[x]) n k (by omega) (by omega) (by simp;omega) (by omega)
      rw[if_neg (by simpa using e),Option.bind_some,wrap_eq _ (by omega) (by omega),Int.add_zero,ih]
      simp only[ofL];rw[if_neg e];congr 1;omega
theorem specOf (l:List S34) (a:ByteArray) (hl:l.length≤1099511627776) (k:Nat) (hk:l.length<k):spec_Of.f k l a=some (ofL a l):=by
  have h:=specOf_l0 a l [] 0 k (by omega) (by omega) (by simp;omega) hk
  simpa [spec_Of.f] using h
theorem implOf_l0 (a:ByteArray):∀ (rest pre:List S34) (n m:Int) (k:Nat),m=(((pre++rest).length:Nat):Int)→0≤n→n+rest.length≤1099511627776→pre.length+rest.length≤1099511627776→rest.length<k→
    impl_Of.l0 k a n (pre++rest) m (pre.length:Int)=some (n+ofL a rest)
  | [],pre,n,m,k,hm,h0,hn,hb,hk=>by
    obtain⟨k,rfl⟩:∃ m,k=m+1:=⟨k - 1,by omega⟩
    simp only[impl_Of.l0];rw[hm,if_neg (nlt_end pre)];simp [ofL]
  | x :: rest,pre,n,m,k,hm,h0,hn,hb,hk=>by
    obtain⟨k,rfl⟩:∃ m,k=m+1:=⟨k - 1,by simp at hk;omega⟩
    simp only[List.length_cons] at hb hk hn
    simp only[impl_Of.l0]
    rw[if_pos (by rw[hm];exact lt_mid pre x rest),if_pos (pre_nonneg pre),if_pos (lt_mid pre x rest),rdT34_mid,wrap_step pre x (by omega),snoc_app pre x rest]
    by_cases e:x.f0.toList=a.toList
    · have ih:=implOf_l0 a rest (pre++[x]) (n+1) m k (by rw[hm];simp) (by omega) (by omega) (by simp;omega) (by omega)
      rw[if_pos e,wrap_eq _ (by omega) (by omega),ih]
      simp only[ofL];rw[if_pos e];congr 1;omega
    · have ih:=implOf_l0 a rest (pre++[x]) n m k (by rw[hm];simp) (by omega) (by omega) (by simp;omega) (by omega)
      rw[if_neg e,ih]
      simp only[ofL];rw[if_neg e];congr 1;omega
theorem implOf (l:List S34) (a:ByteArray) (hl:l.length≤1099511627776) (k:Nat) (hk:l.length<k):impl_Of.f k l a=some (ofL a l):=by
  have h:=implOf_l0 a l [] 0 _ k rfl (by omega) (by omega) (by simp;omega) hk
  simpa [impl_Of.f] using h
end Go.Proofs.Ytlalkldjpniakaa.B
/- QueueOk, by the program and by the reference: one answer; for lists of at most 2^40 items whose routes are no longer than 2^40. -/
namespace Go.Proofs.Ytlalkldjpniakaa.B
open Go.RowKit Go.Proofs.Ytlalkldjpniakaa.P Go.Proofs.YtlalkldjpniakaaW.PrintWords Go.Proofs.YtlalkldjpniakaaW.PrintLast Go.Proofs.YtlalkldjpniakaaW.PrintMore
/-- Whether an item is in order. -/
noncomputable def okB (x:S34):Bool:=if h:x.f0.size≤1099511627776 then(itemOk x.f0 x.f1 x.f2 x.f3 h).choose else false
theorem okB_spec (x:S34) (h:x.f0.size≤1099511627776) (k:Nat) (hk:x.f0.size+3<k):spec_ItemOk.f k x.f0 x.f1 x.f2 x.f3=some (okB x):=by
  unfold okB
  rw[dif_pos h]
  exact((itemOk x.f0 x.f1 x.f2 x.f3 h).choose_spec k hk).1
theorem okB_impl (x:S34) (h:x.f0.size≤1099511627776) (k:Nat) (hk:x.f0.size+3<k):impl_ItemOk.f k x.f0 x.f1 x.f2 x.f3=some (okB x):=by
  unfold okB
  rw[dif_pos h]
  exact((itemOk x.f0 x.f1 x.f2 x.f3 h).choose_spec k hk).2
/-- Whether the items that follow may follow. -/
noncomputable def queueL (L:List S34):List S34→List S34→Bool
  | [],_=>true
  | x :: rest,pre=>okB x && (!decide (ofL x.f0 L>4) && (!(decide (x.f1>0) && pre.any (likeI x.f0 x.f1)) && queueL L rest (pre++[x])))
theorem specQueueOk_l1 (x:S34) (rest:List S34) (r:Bool):∀ (p2 p1:List S34),(p1++p2).length≤1099511627776→Ev (fun k=>spec_QueueOk.l0 k (p1++p2++x :: rest) (wrap64 (((p1++p2).length:Nat)+1))) r→
    Ev (fun k=>spec_QueueOk.l1 k (p1++p2++x :: rest) ((p1++p2).length:Nat) (p1.length:Nat)) (!(decide (x.f1>0) && p2.any (likeI x.f0 x.f1)) && r)
  | [],p1,hb,h=>by
    refine evUp ?_
    simp only[spec_QueueOk.l1]
    refine evNeg (by simp) ?_
    simpa using h
  | y :: p2,p1,hb,h=>by
    refine evUp ?_
    simp only[spec_QueueOk.l1]
    have hlen:(p1++y :: p2).length=p1.length+(p2.length+1):=by simp
    have hlen2:(p1++y :: p2++x :: rest).length=p1.length+(p2.length+1)+(rest.length+1):=by simp;omega
    refine evPos (by omega) (evPos (by omega) (evPos (by omega) (evPos (by omega) (evPos (by omega) ?_))))
    have e1:rd_T34 (p1++y :: p2++x :: rest) ((p1.length:Nat):Int)=y:=by
      rw[List.append_assoc];exact rdT34_mid p1 y (p2++x :: rest)
    have e2:rd_T34 (p1++y :: p2++x :: rest) (((p1++y :: p2).length:Nat):Int)=x:=rdT34_mid (p1++y :: p2) x rest
    simp only[e1,e2]
    have ih:=specQueueOk_l1 x rest r p2 (p1++[y]) (by simpa using hb) (by simpa using h)
    have es:wrap64 ((p1.length:Int)+1)=(((p1++[y]).length:Nat):Int):=wrap_step p1 y (by omega)
    rw[show p1++[y]++p2=p1++y :: p2 by simp] at ih
    simp only[es]
    by_cases c1:y.f0.toList=x.f0.toList
    · refine evPos c1 ?_
      by_cases c2:y.f1=x.f1
      · refine evPos c2 ?_
        by_cases c3:x.f1>0
        · refine evPos c3 ?_
          have:(!(decide (x.f1>0) && (y :: p2).any (likeI x.f0 x.f1)) && r)=false:=by simp [likeI,c1,c2,c3]
          rw[this];exact evConst _
        · refine evNeg c3 ?_
          have:(!(decide (x.f1>0) && (y :: p2).any (likeI x.f0 x.f1)) && r)=(!(decide (x.f1>0) && p2.any (likeI x.f0 x.f1)) && r):=by simp [c3]
          rw[this];exact ih
      · refine evNeg c2 ?_
        have:(!(decide (x.f1>0) && (y :: p2).any (likeI x.f0 x.f1)) && r)=(!(decide (x.f1>0) && p2.any (likeI x.f0 x.f1)) && r):=by
          have hlk:likeI x.f0 x.f1 y=false:=by unfold likeI;rw[beq_eq_false_iff_ne.2 c2,Bool.and_false]
          simp only[List.any_cons,hlk,Bool.false_or]
        rw[this];exact ih
    · refine evNeg c1 ?_
      have:(!(decide (x.f1>0) && (y :: p2).any (likeI x.f0 x.f1)) && r)=(!(decide (x.f1>0) && p2.any (likeI x.f0 x.f1)) && r):=by
        have hlk:likeI x.f0 x.f1 y=false:=by unfold likeI;rw[beq_eq_false_iff_ne.2 c1,Bool.false_and]
        simp only[List.any_cons,hlk,Bool.false_or]
      rw[this];exact ih
theorem specQueueOk_l0 (L:List S34) (hL:L.length≤1099511627776) (hx:∀ y∈L,y.f0.size≤1099511627776):∀ (rest pre:List S34),L=pre++rest→Ev (fun k=>spec_QueueOk.l0 k L (pre.length:Nat)) (queueL L rest pre && decide ((L.length:Int)≤10))
  | [],pre,e=>by
    refine evUp ?_
    simp only[spec_QueueOk.l0]
    refine evNeg (by rw[e];simp) ?_
    simp only[queueL,Bool.true_and]
    exact evConst _
  | x :: rest,pre,e=>by
    have ih:=specQueueOk_l0 L hL hx rest (pre++[x]) (by rw[e];simp)
    have hxx:=hx x (by rw[e];simp)
    have hl:L.length=pre.length+(rest.length+1):=by rw[e];simp
    have e2:rd_T34 L ((pre.length:Nat):Int)=x:=by rw[e];exact rdT34_mid pre x rest
    have es:wrap64 ((pre.length:Int)+1)=(((pre++[x]).length:Nat):Int):=wrap_step pre x (by omega)
    refine evUp ?_
    simp only[spec_QueueOk.l0]
    refine evPos (by omega) (evPos (by omega) ?_)
    simp only[e2]
    refine evBind (a:=okB x) (evOf _ fun k hk=>okB_spec x hxx k hk) ?_
    have hj:∀ b:Bool,Ev (fun k=>spec_QueueOk.j1 k L (pre.length:Nat) b) (!b && (!(decide (x.f1>0) && pre.any (likeI x.f0 x.f1)) && (queueL L rest (pre++[x]) && decide ((L.length:Int)≤10)))):=by
      intro b
      refine evUp ?_
      simp only[spec_QueueOk.j1]
      cases b with
      | true=>exact evPos rfl (evConst _)
      | false=>
        refine evNeg (by simp) ?_
        have h1:=specQueueOk_l1 x rest (queueL L rest (pre++[x]) && decide ((L.length:Int)≤10)) pre [] (by simpa using(by omega:pre.length≤1099511627776)) (by simpa [← e,es] using ih)
        simpa [← e] using h1
    cases hb:okB x with
    | false=>
      refine evNeg (by simp) ?_
      have h2:=hj true
      simpa [queueL,hb] using h2
    | true=>
      refine evPos rfl (evBind (a:=ofL x.f0 L) (evOf _ fun k hk=>specOf L x.f0 hL k hk) ?_)
      have h2:=hj (decide (ofL x.f0 L>4))
      simpa [queueL,hb,Bool.and_assoc] using h2
theorem implQueueOk_l0 (L:List S34) (hL:L.length≤1099511627776) (hx:∀ y∈L,y.f0.size≤1099511627776):∀ (rest pre:List S34),L=pre++rest→Ev (fun k=>impl_QueueOk.l0 k L pre.length) (queueL L rest pre)
  | [],pre,e=>by
    refine evUp ?_
    simp only[impl_QueueOk.l0]
    refine evNeg (by rw[e];simp) ?_
    simp only[queueL]
    exact evConst _
  | x :: rest,pre,e=>by
    have ih:=implQueueOk_l0 L hL hx rest (pre++[x]) (by rw[e];simp)
    have hxx:=hx x (by rw[e];simp)
    have hl:L.length=pre.length+(rest.length+1):=by rw[e];simp
    have e2:rd_T34 L ((pre.length:Nat):Int)=x:=by rw[e];exact rdT34_mid pre x rest
    have e3:L.take pre.length=pre:=by rw[e];simp
    have e4:(pre++[x]).length=pre.length+1:=by simp
    rw[e4] at ih
    refine evUp ?_
    simp only[impl_QueueOk.l0]
    refine evPos (by omega) ?_
    simp only[e2,e3]
    refine evBind (a:=okB x) (evOf _ fun k hk=>okB_impl x hxx k hk) ?_
    cases hb:okB x with
    | false=>
      refine evNeg (by simp) ?_
      simp only[queueL,hb,Bool.false_and]
      exact evConst _
    | true=>
      refine evPos rfl (evBind (a:=ofL x.f0 L) (evOf _ fun k hk=>implOf L x.f0 hL k hk) ?_)
      by_cases c:ofL x.f0 L>4
      · refine evPos c ?_
        simp only[queueL,c,decide_true,Bool.not_true,Bool.false_and,Bool.and_false]
        exact evConst _
      · refine evNeg c ?_
        by_cases c1:x.f1>0
        · refine evPos c1 ?_
          by_cases c2:pre.any (likeI x.f0 x.f1)=true
          · refine evPos c2 ?_
            have:queueL L (x :: rest) pre=false:=by simp only[queueL,c1,c2];simp
            rw[this];exact evConst _
          · refine evNeg c2 ?_
            have:queueL L (x :: rest) pre=queueL L rest (pre++[x]):=by simp only[queueL,hb,c,c1];simp [c2]
            rw[this];exact ih
        · refine evNeg c1 ?_
          have:queueL L (x :: rest) pre=queueL L rest (pre++[x]):=by simp only[queueL,hb,c,c1];simp
          rw[this];exact ih
noncomputable def queueOkL (L:List S34):Bool:=queueL L L [] && decide ((L.length:Int)≤10)
theorem specQueueOk (L:List S34) (hL:L.length≤1099511627776) (hx:∀ y∈L,y.f0.size≤1099511627776):Ev (fun k=>spec_QueueOk.f k L) (queueOkL L):=specQueueOk_l0 L hL hx L [] rfl
theorem implQueueOk (L:List S34) (hL:L.length≤1099511627776) (hx:∀ y∈L,y.f0.size≤1099511627776):Ev (fun k=>impl_QueueOk.f k L) (queueOkL L):=by
  unfold impl_QueueOk.f queueOkL
  by_cases c:(L.length:Int)>10
  · refine evPos c ?_
    have:¬(L.length:Int)≤10:=by omega
    simp only[this,decide_false,Bool.and_false]
    exact evConst _
  · refine evNeg c ?_
    have:(L.length:Int)≤10:=by omega
    simp only[this,decide_true,Bool.and_true]
    exact implQueueOk_l0 L hL hx L [] rfl
end Go.Proofs.Ytlalkldjpniakaa.B
