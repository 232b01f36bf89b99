import Derived.Test.Ytienlgcjohpphaale36
import Derived.Test.Ytienlgcjohpphaale34
import Derived.Test.Ytienlgcjohpphaale33
import Derived.Test.Ytienlgcjohpphaale31
/- LetterBytes, by the program and by the reference: one list; for every letter of at most 2^40 bytes a part. -/
namespace Go.Proofs.Ytienlgcjohpphaa.B
open Go.RowKit Go.Proofs.Ytienlgcjohpphaa.P Go.Proofs.YtienlgcjohpphaaW.PrintWords Go.Proofs.YtienlgcjohpphaaW.PrintLast Go.Proofs.YtienlgcjohpphaaW.PrintMore
def headL (e:Int) (l:List Int):List Int:=[1]++(leL e 2).reverse++l
def letterBytesL (e:Int) (l m:List Int):List Int:=if letterOk e l m=true then headL e l++m else []
theorem headL_length (e:Int) (l:List Int):(headL e l).length≤l.length+9:=by
  have h:=leL_length e 2
  unfold headL;simp only[List.length_append,List.length_reverse,List.length_cons,List.length_nil];omega
theorem letterBytesL_length (e:Int) (l m:List Int):(letterBytesL e l m).length≤l.length+m.length+9:=by
  have h:=headL_length e l
  unfold letterBytesL;split
  · rw[List.length_append];omega
  · simp
theorem implHead (e:Int) (l:List Int) (hl:l.length≤1099511627776) (k:Nat) (hk:50<k):impl_headOf.f k e l=some (headL e l):=by
  have h:=leL_length e 2
  unfold impl_headOf.f
  rw[implGreat _ _ _ (by omega),Option.bind_some,joined3 _ _ _ (by rw[List.length_reverse];simp;omega)];rfl
theorem specLetterBytes (e:Int) (l m:List Int) (hl:l.length≤1099511627776) (hm:m.length≤1099511627776) (k:Nat) (hk:50<k):spec_LetterBytes.f k e l m=some (letterBytesL e l m):=by
  have h:=leL_length e 2
  unfold spec_LetterBytes.f letterBytesL
  rw[specLetterOk,Option.bind_some]
  by_cases c:letterOk e l m=true
  · rw[if_pos c,if_pos c,Option.bind_some,specGreat _ _ _ (by omega),Option.bind_some,if_pos (by rw[List.length_reverse];simp;omega),Option.bind_some,if_pos (by simp only[List.length_append,List.length_reverse,List.length_cons,List.length_nil];omega),Option.bind_some,if_pos (by simp only[List.length_append,List.length_reverse,List.length_cons,List.length_nil];omega)];rfl
  · rw[if_neg c,if_neg c]
theorem implLetterBytes (e:Int) (l m:List Int) (hl:l.length≤1099511627776) (hm:m.length≤1099511627776) (k:Nat) (hk:50<k):impl_LetterBytes.f k e l m=some (letterBytesL e l m):=by
  have h:=headL_length e l
  unfold impl_LetterBytes.f impl_LetterBytesV.f letterBytesL
  rw[implLetterOk,Option.bind_some]
  by_cases c:letterOk e l m=true
  · rw[if_pos c,if_pos c,implHead _ _ hl _ hk,Option.bind_some,joined2 _ _ (by omega),Option.bind_some]
  · rw[if_neg c,if_neg c]
end Go.Proofs.Ytienlgcjohpphaa.B
/- LetterOf, by the program and by the reference: one answer; for every list of bytes. -/
namespace Go.Proofs.Ytienlgcjohpphaa.B
open Go.RowKit Go.Proofs.Ytienlgcjohpphaa.P Go.Proofs.YtienlgcjohpphaaW.PrintWords Go.Proofs.YtienlgcjohpphaaW.PrintLast Go.Proofs.YtienlgcjohpphaaW.PrintMore
theorem wraps_i64b (n:Int) (h₀:0≤n) (h₁:n<2 ^ 62):IntKind.i64.wrap n=n:=by rw[IntKind.wrap_i64];omega
theorem two8 (a b:Int) (ha:0≤a∧a<256) (hb:0≤b∧b<256):Go.bits .or .i64 (wrap64 ((wrap64 a)*256)) (wrap64 b)=a*256+b:=by
  rw[wrap_eq a (by omega) (by omega),wrap_eq b (by omega) (by omega),wrap_eq (a*256) (by omega) (by omega)]
  exact bits_join .i64 62 (by decide) wraps_i64b 8 (a*256) b (by omega) (by omega) (by omega) (by omega) (by omega) (by omega)
theorem rd_by (l:List Int) (h:∀ x∈l,0≤x∧x<256) (i:Int):0≤rd l i∧rd l i<256:=by
  unfold rd
  rw[List.getD_eq_getElem?_getD]
  cases e:l[i.toNat]? with
  | none=>simp
  | some x=>exact h x (List.mem_of_getElem? e)
def letterL (l:List Int):Int×List Int×List Int×Bool:=
  if(l.length:Int)<51∨(l.length:Int)>1551∨¬rd l 0=1 then(0,[],[],false) else(rd l 1*256+rd l 2,(l.take 35).drop 3,l.drop 35,true)
theorem letterL_lengths (l:List Int):(letterL l).2.1.length≤32∧(letterL l).2.2.1.length≤1516:=by
  unfold letterL;split
  · simp
  · rename_i h
    simp only[List.length_drop,List.length_take]
    omega
theorem specLetterOf (l:List Int) (hw:∀ x∈l,0≤x∧x<256):spec_LetterOf.f l=some (letterL l):=by
  have h1:=rd_by l hw 1
  have h2:=rd_by l hw 2
  unfold spec_LetterOf.f letterL
  by_cases c1:(l.length:Int)<51
  · rw[if_pos c1,if_pos (.inl c1)]
  rw[if_neg c1]
  by_cases c2:(l.length:Int)>1551
  · rw[if_pos c2,if_pos (.inr (.inl c2))]
  rw[if_neg c2,if_pos (show 0<(l.length:Int) by omega)]
  by_cases c3:rd l 0=1
  · rw[if_pos c3,if_pos (show 1<(l.length:Int) by omega),if_pos (show 2<(l.length:Int) by omega),Option.bind_some,if_pos (by omega),if_pos (show 35≤(l.length:Int) by omega),if_pos (by simp only[List.length_drop,List.length_take,List.length_nil];omega),Option.bind_some,if_pos (by simp only[List.length_drop,List.length_nil];omega)]
    rw[if_neg (show ¬((l.length:Int)<51∨(l.length:Int)>1551∨¬rd l 0=1) from by omega),wrap_eq (rd l 1) (by omega) (by omega),wrap_eq (rd l 2) (by omega) (by omega),wrap_eq (256*rd l 1) (by omega) (by omega),wrap_eq _ (by omega) (by omega),Int.mul_comm]
    rfl
  · rw[if_neg c3,if_pos (show(l.length:Int)<51∨(l.length:Int)>1551∨¬rd l 0=1 from .inr (.inr c3))]
theorem implLetterOf (l:List Int) (hw:∀ x∈l,0≤x∧x<256) (hl:l.length≤1099511627776) (k:Nat) (hk:1<k):impl_LetterOf.f k l=some (letterL l):=by
  obtain⟨k,rfl⟩:∃ m,k=m+1:=⟨k - 1,by omega⟩
  have h1:=rd_by l hw 1
  have h2:=rd_by l hw 2
  unfold impl_LetterOf.f impl_LetterOfV.f letterL
  by_cases c0:(l.length:Int)<35
  · rw[if_pos c0,if_pos (.inl (by omega))];rfl
  rw[if_neg c0,if_pos (show 0<(l.length:Int) by omega)]
  by_cases c3:rd l 0=1
  · rw[bne_eq_false_iff_eq.mpr c3]
    simp only[impl_LetterOfV.j0]
    rw[if_neg (by decide),if_pos (show 1<(l.length:Int) by omega),if_pos (show 2<(l.length:Int) by omega),if_pos (by omega),if_pos (show 35≤(l.length:Int) by omega)]
    rw[joined [(l.take 35).drop 3] (by simp;omega) (by simp),joined [l.drop 35] (by simp;omega) (by simp)]
    simp only[Option.bind_some,List.flatten_cons,List.flatten_nil,List.append_nil]
    rw[two8 _ _ h1 h2]
    unfold impl_LetterOk.f
    rw[implIn,Option.bind_some,if_pos (decide_eq_true (show 0≤rd l 1*256+rd l 2∧rd l 1*256+rd l 2≤65535 from by omega)),if_pos (by simp only[List.length_drop,List.length_take];omega),implIn,Option.bind_some,Option.bind_some]
    by_cases c4:(16:Int)≤((l.drop 35).length:Int)∧((l.drop 35).length:Int)≤1516
    · rw[if_pos (decide_eq_true c4)]
      rw[List.length_drop] at c4
      rw[if_neg (show ¬((l.length:Int)<51∨(l.length:Int)>1551∨¬rd l 0=1) from by omega)]
    · rw[if_neg (by simpa using c4)]
      rw[List.length_drop] at c4
      rw[if_pos (show(l.length:Int)<51∨(l.length:Int)>1551∨¬rd l 0=1 from by omega)]
  · rw[bne_iff_ne.mpr c3,if_pos (show(l.length:Int)<51∨(l.length:Int)>1551∨¬rd l 0=1 from .inr (.inr c3))];rfl
end Go.Proofs.Ytienlgcjohpphaa.B
/- Letters: what is drawn, and that a letter is read from its bytes as it was. -/
namespace Go.Proofs.Ytienlgcjohpphaa.B
open Go.RowKit Go.Proofs.Ytienlgcjohpphaa.P Go.Proofs.YtienlgcjohpphaaW.PrintWords Go.Proofs.YtienlgcjohpphaaW.PrintLast Go.Proofs.YtienlgcjohpphaaW.PrintMore
def byt (l:List Int):Prop:=∀ x∈l,0≤x∧x<256
theorem bentD (d:List Int) (p s:Int) (hd:d.length≤1099511627776) (hp:0≤p) (k:Nat) (hk:100001<k):∃ e f b p' s',spec_l11DrawBent.f k d p s=some (e,f,b,p',s')∧byt f∧byt b∧f.length≤10001∧b.length≤10001∧0≤p':=by
  obtain⟨v1,p1,s1,e1,a1,_,q1⟩:=belowD d p s 3 hd hp
  obtain⟨f,p2,s2,e2,hf,lf,q2⟩:=justD d p1 s1 32 hd q1 (by omega) k hk
  obtain⟨v3,p3,s3,e3,a3,b3,q3⟩:=belowD d p2 s2 40 hd q2
  have b3:=b3 (by omega)
  obtain⟨b,p4,s4,e4,hb,lb,q4⟩:=justD d p3 s3 (16+v3) hd q3 (by omega) k hk
  obtain⟨v5,p5,s5,e5,a5,_,q5⟩:=belowD d p4 s4 8 hd q4
  unfold spec_l11DrawBent.f
  simp only[e1,Option.bind_some,e2,e3,wrap_eq (16+v3) (by omega) (by omega),e4,e5]
  by_cases c0:v5=0
  · obtain⟨v,p6,s6,e6,_,q6⟩:=pickD d p5 s5 [-1,65535,65536] (by decide) hd q5
    rw[if_pos c0]
    simp only[e6,Option.bind_some]
    exact⟨_,_,_,_,_,rfl,hf,hb,by omega,by omega,q6⟩
  rw[if_neg c0]
  by_cases c1:v5=1
  · obtain⟨g,p6,s6,e6,hg,lg,q6⟩:=nearD d p5 s5 31 hd q5 (by omega) (by omega) k hk
    rw[if_pos c1]
    simp only[e6,Option.bind_some]
    exact⟨_,_,_,_,_,rfl,hg,hb,lg,by omega,q6⟩
  rw[if_neg c1]
  by_cases c2:v5=2
  · obtain⟨v,p6,s6,e6,m6,q6⟩:=pickD d p5 s5 [15,16,1516,1517] (by decide) hd q5
    have hv:v≤1517:=by
      simp only[List.mem_cons,List.not_mem_nil,or_false] at m6
      omega
    obtain⟨g,p7,s7,e7,hg,lg,q7⟩:=justD d p6 s6 v hd q6 (by omega) k hk
    rw[if_pos c2]
    simp only[e6,Option.bind_some,e7]
    exact⟨_,_,_,_,_,rfl,hf,hg,by omega,by omega,q7⟩
  rw[if_neg c2]
  exact⟨_,_,_,_,_,rfl,hf,hb,by omega,by omega,q5⟩
theorem drawLetterBytes (l:List Int) (hl:l.length≤1099511627776) (k:Nat) (hk:l.length+100001<k):∃ e f b,spec_DrawLetterBytes.f k l=some (e,f,b)∧byt f∧byt b∧f.length≤10001∧b.length≤10001:=by
  obtain⟨s0,h0⟩:=newD l k hl (by omega)
  obtain⟨e,f,b,p,s,h1,hf,hb,lf,lb,_⟩:=bentD l 0 s0 hl (by omega) k (by omega)
  refine⟨e,f,b,?_,hf,hb,lf,lb⟩
  unfold spec_DrawLetterBytes.f
  simp only[h0,Option.bind_some,h1]
theorem drawLetterOk (l:List Int) (hl:l.length≤1099511627776) (k:Nat) (hk:l.length+100001<k):∃ e f b,spec_DrawLetterOk.f k l=some (e,f,b):=by
  obtain⟨s0,h0⟩:=newD l k hl (by omega)
  obtain⟨e,f,b,p,s,h1,hf,hb,lf,lb,_⟩:=bentD l 0 s0 hl (by omega) k (by omega)
  refine⟨e,f,b,?_⟩
  unfold spec_DrawLetterOk.f
  simp only[h0,Option.bind_some,h1]
theorem drawKeysOf (l:List Int) (hl:l.length≤1099511627776) (k:Nat) (hk:l.length+100001<k):∃ a b c,spec_DrawKeysOf.f k l=some (a,b,c)∧byt a∧byt b∧byt c∧b.length+c.length≤20002:=by
  obtain⟨s0,h0⟩:=newD l k hl (by omega)
  obtain⟨a,p1,s1,e1,ha,la,q1⟩:=nearD l 0 s0 32 hl (by omega) (by omega) (by omega) k (by omega)
  obtain⟨b,p2,s2,e2,hb,lb,q2⟩:=nearD l p1 s1 32 hl q1 (by omega) (by omega) k (by omega)
  obtain⟨c,p3,s3,e3,hc,lc,q3⟩:=nearD l p2 s2 32 hl q2 (by omega) (by omega) k (by omega)
  refine⟨a,b,c,?_,ha,hb,hc,by omega⟩
  unfold spec_DrawKeysOf.f
  simp only[h0,Option.bind_some,e1,e2,e3]
theorem le2 (e:Int) (h:0≤e):leL e 2=[e % 256,e / 256 % 256]:=by
  unfold leL
  rw[if_pos ⟨h,by omega,by omega⟩]
  rfl
theorem letterBytes_form (e:Int) (f b:List Int) (h:letterOk e f b=true):letterBytesL e f b=1 :: (e / 256) :: (e % 256) :: (f++b)∧0≤e∧e≤65535∧f.length=32∧16≤b.length∧b.length≤1516:=by
  have h2:=of_decide_eq_true h
  refine⟨?_,h2⟩
  unfold letterBytesL headL
  rw[if_pos h,le2 e h2.1,show e / 256 % 256=e / 256 from by omega]
  rfl
theorem letterBytes_byt (e:Int) (f b:List Int) (hf:byt f) (hb:byt b):byt (letterBytesL e f b):=by
  by_cases h:letterOk e f b=true
  · obtain⟨h1,h2,h3,_⟩:=letterBytes_form e f b h
    rw[h1]
    intro x hx
    simp only[List.mem_cons,List.mem_append] at hx
    rcases hx with rfl | rfl | rfl | hx | hx
    · omega
    · omega
    · omega
    · exact hf x hx
    · exact hb x hx
  · unfold letterBytesL
    rw[if_neg h]
    intro x hx
    cases hx
theorem letterL_cons (x0 x1 x2:Int) (r:List Int) (h0:x0=1) (h1:48≤r.length) (h2:r.length≤1548):letterL (x0 :: x1 :: x2 :: r)=(x1*256+x2,r.take 32,r.drop 32,true):=by
  unfold letterL
  have e0:rd (x0 :: x1 :: x2 :: r) 0=x0:=rfl
  have e1:rd (x0 :: x1 :: x2 :: r) 1=x1:=rfl
  have e2:rd (x0 :: x1 :: x2 :: r) 2=x2:=rfl
  rw[e0,e1,e2,if_neg (by simp only[List.length_cons];omega)]
  rfl
theorem letter_back (e:Int) (f b:List Int) (h:letterOk e f b=true):letterL (letterBytesL e f b)=(e,f,b,true):=by
  obtain⟨h1,h2,h3,h4,h5,h6⟩:=letterBytes_form e f b h
  rw[h1,letterL_cons 1 _ _ (f++b) rfl (by rw[List.length_append];omega) (by rw[List.length_append];omega)]
  rw[show e / 256*256+e % 256=e from by omega,List.take_left' h4,List.drop_left' h4]
theorem letter_len (e:Int) (f b:List Int) (h:letterOk e f b=true):(letterBytesL e f b).length=35+b.length:=by
  obtain⟨h1,h2,h3,h4,h5,h6⟩:=letterBytes_form e f b h
  rw[h1]
  simp only[List.length_cons,List.length_append]
  omega
theorem letter_cut (l:List Int):(letterL (l.take 40)).2.2.2=false:=by
  unfold letterL
  rw[if_pos (.inl (by rw[List.length_take];omega))]
theorem letter_again (l:List Int) (hb:byt l) (h:(letterL l).2.2.2=true):letterBytesL (letterL l).1 (letterL l).2.1 (letterL l).2.2.1=l:=by
  by_cases c:(l.length:Int)<51∨(l.length:Int)>1551∨¬rd l 0=1
  · unfold letterL at h
    rw[if_pos c] at h
    cases h
  match l,hb,c with
  | [],_,c=>exact absurd (.inl (by decide)) c
  | [_],_,c=>exact absurd (.inl (by simp)) c
  | [_,_],_,c=>exact absurd (.inl (by simp)) c
  | x0 :: x1 :: x2 :: r,hb,c=>
    have e0:rd (x0 :: x1 :: x2 :: r) 0=x0:=rfl
    rw[e0] at c
    simp only[List.length_cons] at c
    have b1:=hb x1 (by simp)
    have b2:=hb x2 (by simp)
    rw[letterL_cons x0 x1 x2 r (by omega) (by omega) (by omega)]
    have ok:letterOk (x1*256+x2) (r.take 32) (r.drop 32)=true:=by
      unfold letterOk
      refine decide_eq_true ⟨by omega,by omega,by rw[List.length_take];omega,by rw[List.length_drop];omega,by rw[List.length_drop];omega⟩
    obtain⟨h1,_⟩:=letterBytes_form _ _ _ ok
    rw[h1,List.take_append_drop]
    rw[show(x1*256+x2) / 256=x1 from by omega,show(x1*256+x2) % 256=x2 from by omega,show x0=1 from by omega]
theorem drawLetterOf (l:List Int) (hl:l.length≤1099511627776) (k:Nat) (hk:l.length+100001<k):∃ x,spec_DrawLetterOf.f k l=some x∧byt x∧x.length≤100000:=by
  obtain⟨s0,h0⟩:=newD l k hl (by omega)
  obtain⟨e,f,b,p,s,h1,hf,hb,lf,lb,hp⟩:=bentD l 0 s0 hl (by omega) k (by omega)
  have h2:=specLetterBytes e f b (by omega) (by omega) k (by omega)
  have h3:=letterBytes_byt e f b hf hb
  have h4:=letterBytesL_length e f b
  generalize letterBytesL e f b=t at h2 h3 h4
  obtain⟨v,p2,s2,e2,_,_,q2⟩:=belowD l p s 6 hl hp
  unfold spec_DrawLetterOf.f
  simp only[h0,Option.bind_some,h1,h2,e2]
  by_cases c0:v=0
  · obtain⟨n,p3,s3,e3,a3,b3,_⟩:=belowD l p2 s2 ((t.length:Int)+1) hl q2
    have b3:=b3 (by omega)
    rw[if_pos c0,wrap_eq _ (by omega) (by omega)]
    simp only[e3,Option.bind_some]
    rw[if_pos a3,if_pos (by omega)]
    exact⟨_,rfl,fun x hx=>h3 x (List.mem_of_mem_take hx),by rw[List.length_take];omega⟩
  rw[if_neg c0]
  by_cases c1:v=1
  · rw[if_pos c1]
    by_cases c2:(t.length:Int)>0
    · rw[if_pos c2,if_pos (by omega)]
      refine⟨_,rfl,fun x hx=>?_,by rw[List.length_set];omega⟩
      rcases List.mem_or_eq_of_mem_set hx with h | h
      · exact h3 x h
      · omega
    · rw[if_neg c2];exact⟨_,rfl,h3,by omega⟩
  · rw[if_neg c1];exact⟨_,rfl,h3,by omega⟩
end Go.Proofs.Ytienlgcjohpphaa.B
/- Words, by the program and by the reference: four bytes a word; for lists of at most 2^40 bytes. -/
namespace Go.Proofs.Ytienlgcjohpphaa.B
open Go.RowKit Go.Proofs.Ytienlgcjohpphaa.P Go.Proofs.YtienlgcjohpphaaW.PrintWords Go.Proofs.YtienlgcjohpphaaW.PrintLast Go.Proofs.YtienlgcjohpphaaW.PrintMore
def w4 (a b c d:Int):Int:=Go.bits .or .i64 (Go.bits .or .i64 (Go.bits .or .i64 (wrap64 ((wrap64 a)*16777216)) (wrap64 ((wrap64 b)*65536))) (wrap64 ((wrap64 c)*256))) (wrap64 d)
def word4 (big:Bool) (a b c d:Int):Int:=if big=true then w4 a b c d else w4 d c b a
/-- The words of a list of bytes. -/
def wordsL (big:Bool):List Int→List Int
  | a :: b :: c :: d :: r=>word4 big a b c d :: wordsL big r
  | _=>[]
theorem wordsL_length (big:Bool):∀ l:List Int,(wordsL big l).length=l.length / 4
  | a :: b :: c :: d :: r=>by simp [wordsL,wordsL_length big r];omega
  | []=>rfl
  | [a]=>by simp [wordsL]
  | [a,b]=>by simp [wordsL]
  | [a,b,c]=>by simp [wordsL]
theorem rd_at (pre l:List Int) (i:Nat) (j:Int) (h:j=(pre.length:Int)+i):rd (pre++l) j=l.getD i 0:=by
  subst h
  unfold rd
  rw[show((pre.length:Int)+i).toNat=pre.length+i from by omega]
  rw[List.getD_eq_getElem?_getD,List.getD_eq_getElem?_getD,List.getElem?_append_right (by omega),show pre.length+i - pre.length=i from by omega]
theorem specWords_l0 (big:Bool):∀ (rest pre acc:List Int) (k:Nat),pre.length+rest.length≤1099511627776→acc.length+rest.length≤4398046511104→rest.length<k→
    spec_Words.l0 k (pre++rest) big acc (pre.length:Int)=some (acc++wordsL big rest)
  | a :: b :: c :: d :: r,pre,acc,k,hb,hc,hk=>by
    obtain⟨k,rfl⟩:∃ m,k=m+1:=⟨k - 1,by omega⟩
    simp only[List.length_cons] at hb hc hk
    have ih:=specWords_l0 big r (pre++[a,b,c,d]) (acc++[word4 big a b c d]) k (by simp;omega) (by simp;omega) (by omega)
    have hl:((pre++a :: b :: c :: d :: r).length:Int)=pre.length+r.length+4:=by simp;omega
    have e1:wrap64 ((pre.length:Int)+1)=pre.length+1:=wrap_eq _ (by omega) (by omega)
    have e2:wrap64 ((pre.length:Int)+2)=pre.length+2:=wrap_eq _ (by omega) (by omega)
    have e3:wrap64 ((pre.length:Int)+3)=pre.length+3:=wrap_eq _ (by omega) (by omega)
    have e4:wrap64 ((pre.length:Int)+4)=((pre++[a,b,c,d]).length:Int):=by rw[wrap_eq _ (by omega) (by omega)];simp
    have r0:rd (pre++a :: b :: c :: d :: r) (pre.length:Int)=a:=rd_at _ _ 0 _ (by omega)
    have r1:rd (pre++a :: b :: c :: d :: r) ((pre.length:Int)+1)=b:=rd_at _ _ 1 _ (by omega)
    have r2:rd (pre++a :: b :: c :: d :: r) ((pre.length:Int)+2)=c:=rd_at _ _ 2 _ (by omega)
    have r3:rd (pre++a :: b :: c :: d :: r) ((pre.length:Int)+3)=d:=rd_at _ _ 3 _ (by omega)
    have hx:pre++a :: b :: c :: d :: r=(pre++[a,b,c,d])++r:=by simp
    simp only[spec_Words.l0,e1,e2,e3,r0,r1,r2,r3]
    rw[hl]
    rw[if_pos (by omega)]
    have hy:(acc++[word4 big a b c d])++wordsL big r=acc++wordsL big (a :: b :: c :: d :: r):=by simp [wordsL]
    rw[← hy, ← ih, ← e4, ← hx]
    cases big
    · rw[if_neg (by decide),if_pos (by omega),if_pos (by omega),if_pos (by omega),if_pos (by omega),if_pos (by omega),if_pos (by omega),if_pos (by omega),if_pos (by omega)]
      rfl
    · rw[if_pos rfl,if_pos (by omega),if_pos (by omega),if_pos (by omega),if_pos (by omega),if_pos (by omega),if_pos (by omega),if_pos (by omega),if_pos (by omega)]
      rfl
  | [],pre,acc,k,hb,hc,hk=>by
    obtain⟨k,rfl⟩:∃ m,k=m+1:=⟨k - 1,by omega⟩
    simp only[spec_Words.l0];rw[wrap_eq _ (by omega) (by simp at hb;omega),if_neg (by simp;omega)];simp [wordsL]
  | [a],pre,acc,k,hb,hc,hk=>by
    obtain⟨k,rfl⟩:∃ m,k=m+1:=⟨k - 1,by omega⟩
    simp only[spec_Words.l0];rw[wrap_eq _ (by omega) (by simp at hb;omega),if_neg (by simp)];simp [wordsL]
  | [a,b],pre,acc,k,hb,hc,hk=>by
    obtain⟨k,rfl⟩:∃ m,k=m+1:=⟨k - 1,by omega⟩
    simp only[spec_Words.l0];rw[wrap_eq _ (by omega) (by simp at hb;omega),if_neg (by simp)];simp [wordsL]
  | [a,b,c],pre,acc,k,hb,hc,hk=>by
    obtain⟨k,rfl⟩:∃ m,k=m+1:=⟨k - 1,by omega⟩
    simp only[spec_Words.l0];rw[wrap_eq _ (by omega) (by simp at hb;omega),if_neg (by simp)];simp [wordsL]
theorem specWords (l:List Int) (big:Bool) (hn:l.length≤1099511627776) (k:Nat) (hk:l.length<k):spec_Words.f k l big=some (wordsL big l):=by
  have h:=specWords_l0 big l [] [] k (by simpa using hn) (by simp;omega) hk
  simpa [spec_Words.f] using h
theorem wordOf4 (big:Bool) (a b c d:Int):impl_wordOf.f [a,b,c,d] big=some (word4 big a b c d):=by
  cases big <;> rfl
theorem implWords_l0 (big:Bool):∀ (rest pre acc:List Int) (k:Nat),pre.length+rest.length≤1099511627776→acc.length+rest.length≤4398046511104→rest.length<k→
    impl_Words.l0 k (pre++rest) big acc (pre.length:Int)=some (acc++wordsL big rest)
  | a :: b :: c :: d :: r,pre,acc,k,hb,hc,hk=>by
    obtain⟨k,rfl⟩:∃ m,k=m+1:=⟨k - 1,by omega⟩
    simp only[List.length_cons] at hb hc hk
    have ih:=implWords_l0 big r (pre++[a,b,c,d]) (acc++[word4 big a b c d]) k (by simp;omega) (by simp;omega) (by omega)
    have hl:((pre++a :: b :: c :: d :: r).length:Int)=pre.length+r.length+4:=by simp;omega
    have e4:wrap64 ((pre.length:Int)+4)=pre.length+4:=wrap_eq _ (by omega) (by omega)
    have e5:(pre.length:Int)+4=((pre++[a,b,c,d]).length:Int):=by simp
    have hx:pre++a :: b :: c :: d :: r=(pre++[a,b,c,d])++r:=by simp
    have ht:((pre++a :: b :: c :: d :: r).take ((pre.length:Int)+4).toNat).drop (pre.length:Int).toNat=[a,b,c,d]:=by
      rw[show((pre.length:Int)+4).toNat=pre.length+4 from by omega]
      simp [List.take_append]
    have hy:(acc++[word4 big a b c d])++wordsL big r=acc++wordsL big (a :: b :: c :: d :: r):=by simp [wordsL]
    simp only[impl_Words.l0,e4,ht,wordOf4,Option.bind_some]
    rw[hl,if_pos (by omega),if_pos (by omega),if_pos (by omega),if_pos (by omega), ← hy, ← ih,e5, ← hx]
  | [],pre,acc,k,hb,hc,hk=>by
    obtain⟨k,rfl⟩:∃ m,k=m+1:=⟨k - 1,by omega⟩
    simp only[impl_Words.l0];rw[wrap_eq _ (by omega) (by simp at hb;omega),if_neg (by simp <;> omega)];simp [wordsL]
  | [a],pre,acc,k,hb,hc,hk=>by
    obtain⟨k,rfl⟩:∃ m,k=m+1:=⟨k - 1,by omega⟩
    simp only[impl_Words.l0];rw[wrap_eq _ (by omega) (by simp at hb;omega),if_neg (by simp <;> omega)];simp [wordsL]
  | [a,b],pre,acc,k,hb,hc,hk=>by
    obtain⟨k,rfl⟩:∃ m,k=m+1:=⟨k - 1,by omega⟩
    simp only[impl_Words.l0];rw[wrap_eq _ (by omega) (by simp at hb;omega),if_neg (by simp <;> omega)];simp [wordsL]
  | [a,b,c],pre,acc,k,hb,hc,hk=>by
    obtain⟨k,rfl⟩:∃ m,k=m+1:=⟨k - 1,by omega⟩
    simp only[impl_Words.l0];rw[wrap_eq _ (by omega) (by simp at hb;omega),if_neg (by simp <;> omega)];simp [wordsL]
theorem implWords (l:List Int) (big:Bool) (hn:l.length≤1099511627776) (k:Nat) (hk:l.length<k):impl_Words.f k l big=some (wordsL big l):=by
  have h:=implWords_l0 big l [] [] k (by simpa using hn) (by simp;omega) hk
  simpa [impl_Words.f] using h
end Go.Proofs.Ytienlgcjohpphaa.B
/- WordBytes, by the program and by the reference: four bytes a word; for lists of at most 2^40 words. -/
namespace Go.Proofs.Ytienlgcjohpphaa.B
open Go.RowKit Go.Proofs.Ytienlgcjohpphaa.P Go.Proofs.YtienlgcjohpphaaW.PrintWords Go.Proofs.YtienlgcjohpphaaW.PrintLast Go.Proofs.YtienlgcjohpphaaW.PrintMore
def wb (big:Bool) (x:Int):List Int:=if big=true then(leL (Go.bits .and .i64 x 4294967295) 4).reverse else leL (Go.bits .and .i64 x 4294967295) 4
theorem wb_length (big:Bool) (x:Int):(wb big x).length=4:=by
  have h:(leL (Go.bits .and .i64 x 4294967295) 4).length=4:=by
    unfold leL;rw[i64_and32,if_pos (by omega),lowL_length];rfl
  unfold wb;cases big <;> simp [h]
def wordBytesL (big:Bool) (l:List Int):List Int:=l.flatMap (wb big)
theorem wordBytesL_length (big:Bool):∀ l:List Int,(wordBytesL big l).length=4*l.length
  | []=>rfl
  | x :: l=>by
    have:=wordBytesL_length big l
    unfold wordBytesL at this ⊢
    rw[List.flatMap_cons,List.length_append,wb_length,this,List.length_cons];omega
theorem specWordBytes_l0 (big:Bool):∀ (rest pre acc:List Int) (k:Nat),pre.length+rest.length≤1099511627776→acc.length+4*rest.length≤43980465111040→rest.length+50<k→
    spec_WordBytes.l0 k (pre++rest) big acc (pre.length:Int)=some (acc++wordBytesL big rest)
  | [],pre,acc,k,hb,hc,hk=>by
    obtain⟨k,rfl⟩:∃ m,k=m+1:=⟨k - 1,by omega⟩
    simp only[spec_WordBytes.l0];rw[if_neg (nlt_end pre)];simp [wordBytesL]
  | x :: rest,pre,acc,k,hb,hc,hk=>by
    obtain⟨k,rfl⟩:∃ m,k=m+1:=⟨k - 1,by omega⟩
    simp only[List.length_cons] at hb hc hk
    have hw:=wb_length big x
    have ih:=specWordBytes_l0 big rest (pre++[x]) (acc++wb big x) k (by simp;omega) (by simp;omega) (by omega)
    have hy:(acc++wb big x)++wordBytesL big rest=acc++wordBytesL big (x :: rest):=by simp [wordBytesL]
    simp(disch:=omega) only[spec_WordBytes.l0,rd_mid,spec_Word.f,Option.bind_some,specGreat,specLittle]
    rw[if_pos (lt_mid pre x rest), ← hy, ← ih,wrap_step pre x (by omega),snoc_app pre x rest]
    cases big
    · rw [if_neg (by decide), if_pos (pre_nonneg pre), if_pos (by have : (leL (Go.bits .and .i64 x 4294967295) 4).length = 4 := hw
                                                                  omega)]
      rfl
    · rw [if_pos rfl, if_pos (pre_nonneg pre), if_pos (by have : (leL (Go.bits .and .i64 x 4294967295) 4).reverse.length = 4 := hw
                                                          omega)]
      rfl
theorem specWordBytes (l:List Int) (big:Bool) (hn:l.length≤1099511627776) (k:Nat) (hk:l.length+50<k):spec_WordBytes.f k l big=some (wordBytesL big l):=by
  have h:=specWordBytes_l0 big l [] [] k (by simpa using hn) (by simp;omega) hk
  simpa [spec_WordBytes.f] using h
theorem implWordBytes_l0 (big:Bool):∀ (rest pre acc:List Int) (n:Int) (k:Nat),n=(((pre++rest).length:Nat):Int)→pre.length+rest.length≤1099511627776→acc.length+4*rest.length≤43980465111040→rest.length+50<k→
    impl_WordBytes.l0 k big acc (pre++rest) n (pre.length:Int)=some (acc++wordBytesL big rest)
  | [],pre,acc,n,k,he,hb,hc,hk=>by
    obtain⟨k,rfl⟩:∃ m,k=m+1:=⟨k - 1,by omega⟩
    simp only[impl_WordBytes.l0];rw[if_neg (by rw[he];exact nlt_end pre)];simp [wordBytesL]
  | x :: rest,pre,acc,n,k,he,hb,hc,hk=>by
    obtain⟨k,rfl⟩:∃ m,k=m+1:=⟨k - 1,by omega⟩
    simp only[List.length_cons] at hb hc hk
    have hw:=wb_length big x
    have ih:=implWordBytes_l0 big rest (pre++[x]) (acc++wb big x) n k (by rw[he];simp) (by simp;omega) (by simp;omega) (by omega)
    have hy:(acc++wb big x)++wordBytesL big rest=acc++wordBytesL big (x :: rest):=by simp [wordBytesL]
    simp(disch:=omega) only[impl_WordBytes.l0,rd_mid,impl_Word.f,Option.bind_some,implGreat,implLittle]
    rw[if_pos (by rw[he];exact lt_mid pre x rest),if_pos (pre_nonneg pre),if_pos (lt_mid pre x rest), ← hy, ← ih,wrap_step pre x (by omega),snoc_app pre x rest]
    cases big
    · rw [if_neg (by decide), if_pos (by have : (leL (Go.bits .and .i64 x 4294967295) 4).length = 4 := hw
                                         omega)]
      rfl
    · rw [if_pos rfl, if_pos (by have : (leL (Go.bits .and .i64 x 4294967295) 4).reverse.length = 4 := hw
                                 omega)]
      rfl
theorem implWordBytes (l:List Int) (big:Bool) (hn:l.length≤1099511627776) (k:Nat) (hk:l.length+50<k):impl_WordBytes.f k l big=some (wordBytesL big l):=by
  have h:=implWordBytes_l0 big l [] [] _ k rfl (by simpa using hn) (by simp;omega) hk
  simpa [impl_WordBytes.f] using h
end Go.Proofs.Ytienlgcjohpphaa.B
/- Words and their bytes, there and back; for all bytes and all numbers. -/
namespace Go.Proofs.Ytienlgcjohpphaa.B
open Go.RowKit Go.Proofs.Ytienlgcjohpphaa.P Go.Proofs.YtienlgcjohpphaaW.PrintWords Go.Proofs.YtienlgcjohpphaaW.PrintLast Go.Proofs.YtienlgcjohpphaaW.PrintMore
theorem wraps_i64n (n:Int) (h₀:0≤n) (h₁:n<2 ^ 62):IntKind.i64.wrap n=n:=by rw[IntKind.wrap_i64];omega
theorem or_join (i:Nat) (x y:Int) (hx₀:0≤x) (hx:x % 2 ^ i=0) (hx₁:x<2 ^ 62) (h₀:0≤y) (h₁:y<2 ^ i) (h₂:y<2 ^ 62):Go.bits .or .i64 x y=x+y:=
  bits_join .i64 62 (by decide) wraps_i64n i x y hx₀ hx hx₁ h₀ h₁ h₂
theorem w4_eq (a b c d:Int) (ha:0≤a∧a<256) (hb:0≤b∧b<256) (hc:0≤c∧c<256) (hd:0≤d∧d<256):w4 a b c d=a*16777216+b*65536+c*256+d:=by
  unfold w4
  rw[wrap_eq a (by omega) (by omega),wrap_eq b (by omega) (by omega),wrap_eq c (by omega) (by omega),wrap_eq d (by omega) (by omega),wrap_eq (a*16777216) (by omega) (by omega),wrap_eq (b*65536) (by omega) (by omega),wrap_eq (c*256) (by omega) (by omega)]
  rw[or_join 24 (a*16777216) (b*65536) (by omega) (by omega) (by omega) (by omega) (by omega) (by omega),or_join 16 _ (c*256) (by omega) (by omega) (by omega) (by omega) (by omega) (by omega),or_join 8 _ d (by omega) (by omega) (by omega) (by omega) (by omega) (by omega)]
theorem leL4 (n:Int) (h:0≤n):leL n 4=[n % 256,n / 256 % 256,n / 256 / 256 % 256,n / 256 / 256 / 256 % 256]:=by
  unfold leL;rw[if_pos (by omega)];rfl
theorem wb_word4 (big:Bool) (a b c d:Int) (ha:0≤a∧a<256) (hb:0≤b∧b<256) (hc:0≤c∧c<256) (hd:0≤d∧d<256):wb big (word4 big a b c d)=[a,b,c,d]:=by
  cases big
  · show leL (Go.bits .and .i64 (w4 d c b a) 4294967295) 4=_
    rw[w4_eq _ _ _ _ hd hc hb ha,i64_and32,leL4 _ (by omega)]
    simp only[List.cons.injEq,and_true];omega
  · show(leL (Go.bits .and .i64 (w4 a b c d) 4294967295) 4).reverse=_
    rw[w4_eq _ _ _ _ ha hb hc hd,i64_and32,leL4 _ (by omega)]
    simp only[List.reverse_cons,List.reverse_nil,List.nil_append,List.cons_append,List.cons.injEq,and_true];omega
theorem bytesBack (big:Bool):∀ l:List Int,(∀ x∈l,0≤x∧x<256)→wordBytesL big (wordsL big l)=l.take (l.length / 4*4)
  | a :: b :: c :: d :: r,h=>by
    have ih:=bytesBack big r (fun x hx=>h x (by simp [hx]))
    have e:(a :: b :: c :: d :: r).length / 4*4=r.length / 4*4+4:=by simp only[List.length_cons];omega
    rw[e]
    unfold wordBytesL at ih ⊢
    rw[wordsL,List.flatMap_cons,wb_word4 big a b c d (h a (by simp)) (h b (by simp)) (h c (by simp)) (h d (by simp)),ih]
    simp
  | [],_=>by simp [wordsL,wordBytesL]
  | [a],_=>by simp [wordsL,wordBytesL]
  | [a,b],_=>by simp [wordsL,wordBytesL]
  | [a,b,c],_=>by simp [wordsL,wordBytesL]
theorem wordsL_wb (big:Bool) (x:Int) (r:List Int):wordsL big (wb big x++r)=Go.bits .and .i64 x 4294967295 :: wordsL big r:=by
  have h:Go.bits .and .i64 x 4294967295=x % 4294967296:=i64_and32 x
  unfold wb
  rw[h,leL4 _ (by omega)]
  cases big
  · rw[if_neg (by decide)]
    show word4 false _ _ _ _ :: wordsL false r=_
    congr 1
    show w4 _ _ _ _=_
    rw[w4_eq _ _ _ _ (by omega) (by omega) (by omega) (by omega)];omega
  · rw[if_pos rfl]
    show word4 true _ _ _ _ :: wordsL true r=_
    congr 1
    show w4 _ _ _ _=_
    rw[w4_eq _ _ _ _ (by omega) (by omega) (by omega) (by omega)];omega
theorem wordsBack (big:Bool):∀ l:List Int,wordsL big (wordBytesL big l)=l.map fun x=>Go.bits .and .i64 x 4294967295
  | []=>by simp [wordsL,wordBytesL]
  | x :: l=>by
    have ih:=wordsBack big l
    unfold wordBytesL at ih ⊢
    rw[List.flatMap_cons,wordsL_wb,ih];rfl
end Go.Proofs.Ytienlgcjohpphaa.B
