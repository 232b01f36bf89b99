import Derived.Test.Ytienlgcjohpphaale37
/- HashBlock, by the program and by the reference: one list of words; for every eight words and every list of bytes. -/
namespace Go.Proofs.Ytienlgcjohpphaa.B
open Go.RowKit Go.Proofs.Ytienlgcjohpphaa.P Go.Proofs.YtienlgcjohpphaaW.PrintWords Go.Proofs.YtienlgcjohpphaaW.PrintLast Go.Proofs.YtienlgcjohpphaaW.PrintMore
theorem ofInt_wrap (v:BitVec 64):BitVec.ofInt 64 (IntKind.i64.wrap (v.toNat:Int))=v:=by
  apply BitVec.eq_of_toNat_eq
  rw[BitVec.toNat_ofInt,IntKind.wrap_i64]
  have:=v.isLt
  omega
theorem ofInt_and (x y:Int):BitVec.ofInt 64 (Go.bits .and .i64 x y)=BitVec.ofInt 64 x &&& BitVec.ofInt 64 y:=ofInt_wrap _
theorem ofInt_or (x y:Int):BitVec.ofInt 64 (Go.bits .or .i64 x y)=BitVec.ofInt 64 x ||| BitVec.ofInt 64 y:=ofInt_wrap _
theorem ofInt_xor (x y:Int):BitVec.ofInt 64 (Go.bits .xor .i64 x y)=BitVec.ofInt 64 x ^^^ BitVec.ofInt 64 y:=ofInt_wrap _
theorem ch_bv (X Y Z M:BitVec 64) (h:X &&& M=X):(X &&& Y) ^^^ ((M ^^^ X) &&& Z)=(X &&& Y) ||| ((M ^^^ X) &&& Z):=by
  rw[← h]
  ext i hi
  simp only[BitVec.getElem_xor,BitVec.getElem_and,BitVec.getElem_or]
  cases X[i] <;> cases Y[i] <;> cases Z[i] <;> cases M[i] <;> rfl
theorem maj_bv (X Y Z:BitVec 64):((X &&& Y) ^^^ (X &&& Z)) ^^^ (Y &&& Z)=((X &&& Y) ||| (X &&& Z)) ||| (Y &&& Z):=by
  ext i hi
  simp only[BitVec.getElem_xor,BitVec.getElem_and,BitVec.getElem_or]
  cases X[i] <;> cases Y[i] <;> cases Z[i] <;> rfl
def W32 (x:Int):Prop:=0≤x∧x<4294967296
def wordV (x:Int):Int:=Go.bits .and .i64 x 4294967295
theorem wordV_w (x:Int):W32 (wordV x):=by unfold W32 wordV;rw[i64_and32];omega
theorem wordV_id (x:Int) (h:W32 x):wordV x=x:=by unfold W32 at h;unfold wordV;rw[i64_and32];omega
def chV (x y z:Int):Int:=Go.bits .or .i64 (Go.bits .and .i64 x y) (Go.bits .and .i64 (Go.bits .xor .i64 4294967295 x) z)
theorem chV_xor (x y z:Int) (h:W32 x):Go.bits .xor .i64 (Go.bits .and .i64 x y) (Go.bits .and .i64 (Go.bits .xor .i64 4294967295 x) z)=chV x y z:=by
  have hm:BitVec.ofInt 64 x &&& BitVec.ofInt 64 4294967295=BitVec.ofInt 64 x:=by rw[← ofInt_and];exact congrArg _ (wordV_id x h)
  show IntKind.i64.wrap ((BitVec.ofInt 64 (Go.bits .and .i64 x y) ^^^ BitVec.ofInt 64 (Go.bits .and .i64 (Go.bits .xor .i64 4294967295 x) z)).toNat:Int)=IntKind.i64.wrap ((BitVec.ofInt 64 (Go.bits .and .i64 x y) ||| BitVec.ofInt 64 (Go.bits .and .i64 (Go.bits .xor .i64 4294967295 x) z)).toNat:Int)
  rw[ofInt_and,ofInt_and,ofInt_xor,ch_bv _ _ _ _ hm]
def majV (x y z:Int):Int:=Go.bits .or .i64 (Go.bits .or .i64 (Go.bits .and .i64 x y) (Go.bits .and .i64 x z)) (Go.bits .and .i64 y z)
theorem majV_xor (x y z:Int):Go.bits .xor .i64 (Go.bits .xor .i64 (Go.bits .and .i64 x y) (Go.bits .and .i64 x z)) (Go.bits .and .i64 y z)=majV x y z:=by
  show IntKind.i64.wrap ((BitVec.ofInt 64 (Go.bits .xor .i64 (Go.bits .and .i64 x y) (Go.bits .and .i64 x z)) ^^^ BitVec.ofInt 64 (Go.bits .and .i64 y z)).toNat:Int)=IntKind.i64.wrap ((BitVec.ofInt 64 (Go.bits .or .i64 (Go.bits .and .i64 x y) (Go.bits .and .i64 x z)) ||| BitVec.ofInt 64 (Go.bits .and .i64 y z)).toNat:Int)
  rw[ofInt_xor,ofInt_or,ofInt_and,ofInt_and,ofInt_and,maj_bv]
def turnV (x m:Int):Int:=wordV (Go.bits .or .i64 (shl .i64 (wordV x) m) (shr .i64 (wordV x) (32 - m)))
theorem implTurnV (x t:Int):impl_Turn.f x t=some (turnV x (t % 32)):=by
  unfold impl_Turn.f impl_Word.f
  simp only[Option.bind_some,i64_and31]
  rw[if_pos (by omega),wrap_eq _ (by omega) (by omega),if_pos (by omega)]
  rfl
theorem specTurnV (x t:Int):spec_Turn.f x t=some (turnV x (t % 32)):=implTurnV x t
def mixV (x a b c:Int) (s:Bool):Int:=Go.bits .xor .i64 (Go.bits .xor .i64 (turnV x ((-a) % 32)) (turnV x ((-b) % 32))) (if s=true then shr .i64 x c else turnV x ((-c) % 32))
theorem implMix (x a b c:Int) (s:Bool) (ha:0≤a∧a≤32) (hb:0≤b∧b≤32) (hc:0≤c∧c≤32):impl_mixed.f x a b c s=some (mixV x a b c s):=by
  unfold impl_mixed.f mixV
  simp only[implTurnV,Option.bind_some]
  rw[wrap_eq (-a) (by omega) (by omega),wrap_eq (-b) (by omega) (by omega),wrap_eq (-c) (by omega) (by omega)]
  cases s
  · rw[if_neg (by decide),if_neg (by decide)]
  · rw[if_pos rfl,if_pos rfl,if_pos (by omega)]
theorem specMix (x a b c:Int) (s:Bool) (hx:s=true→W32 x) (ha:0≤a∧a≤32) (hb:0≤b∧b≤32) (hc:0≤c∧c≤32):spec_l3Mix.f x a b c s=some (mixV x a b c s):=by
  unfold spec_l3Mix.f mixV
  simp only[specTurnV,Option.bind_some]
  rw[wrap_eq (32 - a) (by omega) (by omega),wrap_eq (32 - b) (by omega) (by omega),wrap_eq (32 - c) (by omega) (by omega),show(32 - a) % 32=(-a) % 32 from by omega,show(32 - b) % 32=(-b) % 32 from by omega,show(32 - c) % 32=(-c) % 32 from by omega]
  cases s
  · rw[if_neg (by decide),if_neg (by decide)]
  · have h:spec_Word.f x=some x:=by show some (wordV x)=some x;rw[wordV_id x (hx rfl)]
    rw[if_pos rfl,if_pos rfl,h,Option.bind_some,if_pos (by omega)]
theorem rd_w (l:List Int) (hl:∀ x∈l,W32 x) (i:Int):W32 (rd l i):=by
  unfold rd
  rw[List.getD_eq_getElem?_getD]
  by_cases h:i.toNat<l.length
  · rw[List.getElem?_eq_getElem h];exact hl _ (List.getElem_mem h)
  · rw[List.getElem?_eq_none (by omega)];exact⟨by simp,by simp⟩
/-- The next word of the schedule, from the words so far. -/
def schedV (l:List Int) (i:Int):Int:=wordV (wrap64 (wrap64 (wrap64 (mixV (rd l (i - 2)) 17 19 10 true+rd l (i - 7))+mixV (rd l (i - 15)) 7 18 3 true)+rd l (i - 16)))
def schedL:Nat→List Int→List Int
  | 0,l=>l
  | n+1,l=>schedL n (l++[schedV l l.length])
theorem schedL_length:∀ (n:Nat) (l:List Int),(schedL n l).length=l.length+n
  | 0,l=>rfl
  | n+1,l=>by rw[schedL,schedL_length n];simp;omega
theorem specSched_l0:∀ (n:Nat) (l:List Int) (k:Nat),l.length+n=64→16≤l.length→(∀ x∈l,W32 x)→n<k→spec_l3More.l0 k l (l.length:Int)=some (schedL n l)
  | 0,l,k,hn,h16,hw,hk=>by
    obtain⟨k,rfl⟩:∃ m,k=m+1:=⟨k - 1,by omega⟩
    simp only[spec_l3More.l0];rw[if_neg (by omega)];rfl
  | n+1,l,k,hn,h16,hw,hk=>by
    obtain⟨k,rfl⟩:∃ m,k=m+1:=⟨k - 1,by omega⟩
    have ih:=specSched_l0 n (l++[schedV l l.length]) k (by simp;omega) (by simp;omega) (by intro x hx;rcases List.mem_append.1 hx with h | h;exact hw x h;rw[List.mem_singleton.1 h];exact wordV_w _) (by omega)
    have e1:wrap64 ((l.length:Int) - 2)=l.length - 2:=wrap_eq _ (by omega) (by omega)
    have e2:wrap64 ((l.length:Int) - 7)=l.length - 7:=wrap_eq _ (by omega) (by omega)
    have e3:wrap64 ((l.length:Int) - 15)=l.length - 15:=wrap_eq _ (by omega) (by omega)
    have e4:wrap64 ((l.length:Int) - 16)=l.length - 16:=wrap_eq _ (by omega) (by omega)
    simp only[spec_l3More.l0,e1,e2,e3,e4]
    rw[specMix _ 17 19 10 true (fun _=>rd_w l hw _) (by omega) (by omega) (by omega),specMix _ 7 18 3 true (fun _=>rd_w l hw _) (by omega) (by omega) (by omega)]
    simp only[Option.bind_some,spec_Word.f]
    rw[if_pos (by omega),if_pos (by omega),if_pos (by omega),if_pos (by omega),if_pos (by omega),if_pos (by omega),if_pos (by omega),if_pos (by omega),if_pos (by omega),if_pos (by omega),wrap_step l (schedV l l.length) (by omega)]
    exact ih
theorem implSched_l0:∀ (n:Nat) (l:List Int) (k:Nat),l.length+n=64→16≤l.length→n<k→impl_schedule.l0 k l (l.length:Int)=some (schedL n l)
  | 0,l,k,hn,h16,hk=>by
    obtain⟨k,rfl⟩:∃ m,k=m+1:=⟨k - 1,by omega⟩
    simp only[impl_schedule.l0];rw[if_neg (by omega)];rfl
  | n+1,l,k,hn,h16,hk=>by
    obtain⟨k,rfl⟩:∃ m,k=m+1:=⟨k - 1,by omega⟩
    have ih:=implSched_l0 n (l++[schedV l l.length]) k (by simp;omega) (by simp;omega) (by omega)
    have e1:wrap64 ((l.length:Int) - 2)=l.length - 2:=wrap_eq _ (by omega) (by omega)
    have e2:wrap64 ((l.length:Int) - 7)=l.length - 7:=wrap_eq _ (by omega) (by omega)
    have e3:wrap64 ((l.length:Int) - 15)=l.length - 15:=wrap_eq _ (by omega) (by omega)
    have e4:wrap64 ((l.length:Int) - 16)=l.length - 16:=wrap_eq _ (by omega) (by omega)
    simp only[impl_schedule.l0,e1,e2,e3,e4]
    rw[implMix _ 17 19 10 true (by omega) (by omega) (by omega),implMix _ 7 18 3 true (by omega) (by omega) (by omega)]
    simp only[Option.bind_some,impl_Word.f]
    rw[if_pos (by omega),if_pos (by omega),if_pos (by omega),if_pos (by omega),if_pos (by omega),if_pos (by omega),if_pos (by omega),if_pos (by omega),if_pos (by omega),if_pos (by omega),wrap_step l (schedV l l.length) (by omega)]
    exact ih
theorem wordsL_w:∀ l:List Int,(∀ x∈l,0≤x∧x<256)→∀ x∈wordsL true l,W32 x
  | a :: b :: c :: d :: r,h,x,hx=>by
    rw[wordsL] at hx
    rcases List.mem_cons.1 hx with e | e
    · have ha:=h a (by simp);have hb:=h b (by simp);have hc:=h c (by simp);have hd:=h d (by simp)
      rw[e];show W32 (w4 a b c d)
      rw[w4_eq _ _ _ _ ha hb hc hd];unfold W32;omega
    · exact wordsL_w r (fun y hy=>h y (by simp [hy])) x e
  | [],_,x,hx=>by simp [wordsL] at hx
  | [a],_,x,hx=>by simp [wordsL] at hx
  | [a,b],_,x,hx=>by simp [wordsL] at hx
  | [a,b,c],_,x,hx=>by simp [wordsL] at hx
def moreL (l:List Int):List Int:=schedL 48 (wordsL true l)
theorem specMore (l:List Int) (hl:l.length=64) (hw:∀ x∈l,0≤x∧x<256) (k:Nat) (hk:70<k):spec_l3More.f k l=some (moreL l):=by
  have h16:(wordsL true l).length=16:=by rw[wordsL_length,hl]
  have h:=specSched_l0 48 (wordsL true l) k (by omega) (by omega) (wordsL_w l hw) (by omega)
  rw[h16] at h
  unfold spec_l3More.f
  rw[specWords l true (by omega) k (by omega),Option.bind_some];exact h
theorem implMore (l:List Int) (hl:l.length=64) (k:Nat) (hk:70<k):impl_schedule.f k l=some (moreL l):=by
  have h16:(wordsL true l).length=16:=by rw[wordsL_length,hl]
  have h:=implSched_l0 48 (wordsL true l) k (by omega) (by omega) (by omega)
  rw[h16] at h
  unfold impl_schedule.f
  rw[implWords l true (by omega) k (by omega),Option.bind_some];exact h
theorem moreL_length (l:List Int) (hl:l.length=64):(moreL l).length=64:=by
  unfold moreL;rw[schedL_length,wordsL_length,hl]
def tableL:List Int:=(spec_l3Table.f).getD []
theorem specTable:spec_l3Table.f=some tableL:=rfl
theorem implTable:impl_rounds.f=some tableL:=rfl
theorem tableL_length:tableL.length=64:=by decide
def t1V (e f g h kk ww:Int):Int:=wrap64 (wrap64 (wrap64 (wrap64 (h+mixV e 6 11 25 false)+chV e f g)+kk)+ww)
def t2V (a b c:Int):Int:=wrap64 (mixV a 2 13 22 false+majV a b c)
/-- n rounds, from the ith on. -/
def compL (W:List Int):Nat→Int→Int→Int→Int→Int→Int→Int→Int→Int→List Int
  | 0,_,a,b,c,d,e,f,g,h=>[a,b,c,d,e,f,g,h]
  | n+1,i,a,b,c,d,e,f,g,h=>compL W n (i+1) (wordV (wrap64 (t1V e f g h (rd tableL i) (rd W i)+t2V a b c))) a b c (wordV (wrap64 (d+t1V e f g h (rd tableL i) (rd W i)))) e f g
theorem compL_length (W:List Int):∀ (n:Nat) (i a b c d e f g h:Int),(compL W n i a b c d e f g h).length=8
  | 0,_,_,_,_,_,_,_,_,_=>rfl
  | n+1,i,a,b,c,d,e,f,g,h=>by rw[compL,compL_length W n]
/-- The words at the end. -/
def outL:List Int→List Int→List Int
  | x :: xs,s :: ss=>wordV (wrap64 (s+wordV x)) :: outL xs ss
  | _,_=>[]
theorem outL_length:∀ (xs ss:List Int),xs.length=ss.length→(outL xs ss).length=ss.length
  | [],[],_=>rfl
  | x :: xs,s :: ss,h=>by simp only[List.length_cons] at h;simp [outL,outL_length xs ss (by omega)]
theorem specOut:∀ (xs ss px ps acc:List Int) (k:Nat),px.length=ps.length→xs.length=ss.length→px.length+xs.length=8→acc.length≤8 - xs.length→xs.length<k→
    spec_HashBlock.l1 k (px++xs) (ps++ss) acc (px.length:Int)=some (acc++outL xs ss)
  | [],[],px,ps,acc,k,hp,he,h8,ha,hk=>by
    obtain⟨k,rfl⟩:∃ m,k=m+1:=⟨k - 1,by omega⟩
    simp only[List.length_nil] at h8
    simp only[spec_HashBlock.l1];rw[if_neg (by omega)];simp [outL]
  | x :: xs,s :: ss,px,ps,acc,k,hp,he,h8,ha,hk=>by
    obtain⟨k,rfl⟩:∃ m,k=m+1:=⟨k - 1,by omega⟩
    simp only[List.length_cons] at he h8 ha hk
    have ih:=specOut xs ss (px++[x]) (ps++[s]) (acc++[wordV (wrap64 (s+wordV x))]) k (by simp [hp]) (by omega) (by simp;omega) (by simp;omega) (by omega)
    simp only[spec_HashBlock.l1,spec_Word.f,Option.bind_some]
    rw[if_pos (by omega),if_pos (pre_nonneg px),if_pos (lt_mid2 px ps s ss hp),if_pos (lt_mid px x xs),if_pos (by omega),rd_mid,rd_mid2 px ps s ss hp,wrap_step px x (by omega),snoc_app px x xs,snoc_app ps s ss]
    refine Eq.trans ih ?_
    simp [outL]
theorem implOut:∀ (xs ss px ps acc:List Int) (n:Int) (k:Nat),px.length=ps.length→xs.length=ss.length→n=((ps++ss).length:Int)→px.length+xs.length=8→acc.length≤8 - xs.length→xs.length<k→
    impl_HashBlock.l2 k (px++xs) acc (ps++ss) n (ps.length:Int)=some (acc++outL xs ss)
  | [],[],px,ps,acc,n,k,hp,he,hn,h8,ha,hk=>by
    obtain⟨k,rfl⟩:∃ m,k=m+1:=⟨k - 1,by omega⟩
    simp only[impl_HashBlock.l2];rw[if_neg (by rw[hn];simp)];simp [outL]
  | x :: xs,s :: ss,px,ps,acc,n,k,hp,he,hn,h8,ha,hk=>by
    obtain⟨k,rfl⟩:∃ m,k=m+1:=⟨k - 1,by omega⟩
    simp only[List.length_cons] at he h8 ha hk
    have ih:=implOut xs ss (px++[x]) (ps++[s]) (acc++[wordV (wrap64 (s+wordV x))]) n k (by simp [hp]) (by omega) (by rw[hn];simp) (by simp;omega) (by simp;omega) (by omega)
    simp only[impl_HashBlock.l2,impl_Word.f,Option.bind_some]
    rw[if_pos (by rw[hn];exact lt_mid ps s ss),if_pos (pre_nonneg ps),if_pos (lt_mid ps s ss),if_pos (lt_mid2 ps px x xs hp.symm),if_pos (by omega),rd_mid,rd_mid2 ps px x xs hp.symm,wrap_step ps s (by omega),snoc_app px x xs,snoc_app ps s ss]
    refine Eq.trans ih ?_
    simp [outL]
theorem specComp (x0 W:List Int) (h0:x0.length=8) (hW:W.length=64):∀ (n:Nat) (i a b c d e f g h:Int) (k:Nat),0≤i→i+n=64→W32 e→W32 f→W32 g→n+20<k→
    spec_HashBlock.l0 k x0 W tableL a b c d e f g h i=some (outL x0 (compL W n i a b c d e f g h))
  | 0,i,a,b,c,d,e,f,g,h,k,hi,hn,we,wf,wg,hk=>by
    obtain⟨k,rfl⟩:∃ m,k=m+1:=⟨k - 1,by omega⟩
    simp only[spec_HashBlock.l0];rw[if_neg (by omega)]
    have:=specOut x0 [a,b,c,d,e,f,g,h] [] [] [] k rfl (by rw[h0];rfl) (by simpa using h0) (by simp) (by omega)
    simpa [compL] using this
  | n+1,i,a,b,c,d,e,f,g,h,k,hi,hn,we,wf,wg,hk=>by
    obtain⟨k,rfl⟩:∃ m,k=m+1:=⟨k - 1,by omega⟩
    have ih:=specComp x0 W h0 hW n (i+1) (wordV (wrap64 (t1V e f g h (rd tableL i) (rd W i)+t2V a b c))) a b c (wordV (wrap64 (d+t1V e f g h (rd tableL i) (rd W i)))) e f g k (by omega) (by omega) (wordV_w _) we wf (by omega)
    have ht:=tableL_length
    simp only[spec_HashBlock.l0]
    rw[specMix e 6 11 25 false (fun h=>by cases h) (by omega) (by omega) (by omega),specMix a 2 13 22 false (fun h=>by cases h) (by omega) (by omega) (by omega),chV_xor e f g we,majV_xor]
    simp only[Option.bind_some,spec_Word.f]
    rw[if_pos (by omega),if_pos hi,if_pos (by omega),if_pos (by omega),wrap_eq (i+1) (by omega) (by omega)]
    exact ih
theorem implComp (x0 W:List Int) (h0:x0.length=8) (hW:W.length=64):∀ (n:Nat) (i a b c d e f g h:Int) (k:Nat),0≤i→i+n=64→n+20<k→
    impl_HashBlock.l1 k x0 [a,b,c,d,e,f,g,h] tableL W 64 i=some (outL x0 (compL W n i a b c d e f g h))
  | 0,i,a,b,c,d,e,f,g,h,k,hi,hn,hk=>by
    obtain⟨k,rfl⟩:∃ m,k=m+1:=⟨k - 1,by omega⟩
    simp only[impl_HashBlock.l1];rw[if_neg (by omega)]
    have:=implOut x0 [a,b,c,d,e,f,g,h] [] [] [] 8 k rfl (by rw[h0];rfl) rfl (by simpa using h0) (by simp) (by omega)
    simpa [compL] using this
  | n+1,i,a,b,c,d,e,f,g,h,k,hi,hn,hk=>by
    obtain⟨k,rfl⟩:∃ m,k=m+1:=⟨k - 1,by omega⟩
    have ih:=implComp x0 W h0 hW n (i+1) (wordV (wrap64 (t1V e f g h (rd tableL i) (rd W i)+t2V a b c))) a b c (wordV (wrap64 (d+t1V e f g h (rd tableL i) (rd W i)))) e f g k (by omega) (by omega) (by omega)
    have ht:=tableL_length
    have hl:(([a,b,c,d,e,f,g,h]:List Int).length:Int)=8:=rfl
    have r0:rd [a,b,c,d,e,f,g,h] 0=a:=rfl
    have r1:rd [a,b,c,d,e,f,g,h] 1=b:=rfl
    have r2:rd [a,b,c,d,e,f,g,h] 2=c:=rfl
    have r3:rd [a,b,c,d,e,f,g,h] 3=d:=rfl
    have r4:rd [a,b,c,d,e,f,g,h] 4=e:=rfl
    have r5:rd [a,b,c,d,e,f,g,h] 5=f:=rfl
    have r6:rd [a,b,c,d,e,f,g,h] 6=g:=rfl
    have r7:rd [a,b,c,d,e,f,g,h] 7=h:=rfl
    simp only[impl_HashBlock.l1,hl,r0,r1,r2,r3,r4,r5,r6,r7]
    rw[implMix e 6 11 25 false (by omega) (by omega) (by omega),implMix a 2 13 22 false (by omega) (by omega) (by omega)]
    simp only[Option.bind_some,impl_Word.f]
    rw[if_pos (by omega),if_pos hi,if_pos (by omega),if_pos (by omega),if_pos (by omega),if_pos (by omega),if_pos (by omega),if_pos (by omega),if_pos (by omega),if_pos (by omega),if_pos (by omega),if_pos (by omega),wrap_eq (i+1) (by omega) (by omega)]
    exact ih
theorem implStart:∀ (xs px acc:List Int) (x1:List Int) (k:Nat),px.length+xs.length=8→acc.length=px.length→xs.length<k→
    impl_HashBlock.l0 k (px++xs) x1 acc (px++xs) 8 (px.length:Int)=impl_HashBlock.l0 (k - xs.length) (px++xs) x1 (acc++xs.map wordV) (px++xs) 8 8
  | [],px,acc,x1,k,h8,ha,hk=>by
    simp only[List.length_nil] at h8
    simp only[List.map_nil,List.append_nil,List.length_nil,Nat.sub_zero]
    rw[show(px.length:Int)=8 from by omega]
  | x :: xs,px,acc,x1,k,h8,ha,hk=>by
    obtain⟨k,rfl⟩:∃ m,k=m+1:=⟨k - 1,by omega⟩
    simp only[List.length_cons] at h8 hk
    have ih:=implStart xs (px++[x]) (acc++[wordV x]) x1 k (by simp;omega) (by simp [ha]) (by omega)
    rw[show k+1 - (x :: xs).length=k - xs.length from by simp]
    rw[impl_HashBlock.l0]
    simp only[impl_Word.f,Option.bind_some]
    rw[if_pos (by omega),if_pos (pre_nonneg px),if_pos (lt_mid px x xs),if_pos (by omega),rd_mid,wrap_step px x (by omega),snoc_app px x xs]
    refine Eq.trans ih ?_
    simp
def hashBlockL (x0 x1:List Int):List Int:=
  match x0 with
  | [a,b,c,d,e,f,g,h]=>if x1.length=64 then outL x0 (compL (moreL x1) 64 0 (wordV a) (wordV b) (wordV c) (wordV d) (wordV e) (wordV f) (wordV g) (wordV h)) else []
  | _=>[]
theorem eight (l:List Int) (h:l.length=8):∃ a b c d e f g i,l=[a,b,c,d,e,f,g,i]:=by
  match l,h with
  | [a,b,c,d,e,f,g,i],_=>exact⟨a,b,c,d,e,f,g,i,rfl⟩
theorem hashBlockL_not (x0 x1:List Int) (h:x0.length≠8∨x1.length≠64):hashBlockL x0 x1=[]:=by
  unfold hashBlockL
  split
  · rename_i a b c d e f g i
    rcases h with h | h
    · exact absurd rfl h
    · rw[if_neg h]
  · rfl
theorem hashBlockL_length (x0 x1:List Int):(hashBlockL x0 x1).length≤8:=by
  unfold hashBlockL
  split
  · split
    · rw[outL_length _ _ (by rw[compL_length];rfl),compL_length];omega
    · simp
  · simp
theorem specHashBlock (x0 x1:List Int) (hw:∀ x∈x1,0≤x∧x<256) (k:Nat) (hk:200<k):spec_HashBlock.f k x0 x1=some (hashBlockL x0 x1):=by
  obtain⟨k,rfl⟩:∃ m,k=m+1:=⟨k - 1,by omega⟩
  unfold spec_HashBlock.f
  by_cases h8:x0.length=8
  · rw[if_pos (by omega)]
    by_cases h64:x1.length=64
    · obtain⟨a,b,c,d,e,f,g,i,rfl⟩:=eight x0 h8
      have hm:=moreL_length x1 h64
      have hc:=specComp [a,b,c,d,e,f,g,i] (moreL x1) rfl hm 64 0 (wordV a) (wordV b) (wordV c) (wordV d) (wordV e) (wordV f) (wordV g) (wordV i) k (by omega) (by omega) (wordV_w _) (wordV_w _) (wordV_w _) (by omega)
      rw[show((x1.length:Int) != 64)=false from by rw[h64];rfl,spec_HashBlock.j0,if_neg (by decide),specMore x1 h64 hw k (by omega),Option.bind_some,specTable,Option.bind_some]
      have hl:(([a,b,c,d,e,f,g,i]:List Int).length:Int)=8:=rfl
      simp only[hl,spec_Word.f,Option.bind_some]
      rw[if_pos (by omega),if_pos (by omega),if_pos (by omega),if_pos (by omega),if_pos (by omega),if_pos (by omega),if_pos (by omega),if_pos (by omega)]
      refine Eq.trans hc ?_
      show _=some (if x1.length=64 then _ else [])
      rw[if_pos h64]
    · rw[show((x1.length:Int) != 64)=true from by rw[bne_iff_ne];omega,spec_HashBlock.j0,if_pos rfl,hashBlockL_not x0 x1 (Or.inr h64)]
  · rw[if_neg (by omega),spec_HashBlock.j0,if_pos rfl,hashBlockL_not x0 x1 (Or.inl h8)]
theorem implHashBlock (x0 x1:List Int) (k:Nat) (hk:200<k):impl_HashBlock.f k x0 x1=some (hashBlockL x0 x1):=by
  obtain⟨k,rfl⟩:∃ m,k=m+1:=⟨k - 1,by omega⟩
  unfold impl_HashBlock.f
  by_cases h8:x0.length=8
  · rw[if_pos (by omega)]
    by_cases h64:x1.length=64
    · have hst:=implStart x0 [] [] x1 k (by simpa using h8) rfl (by omega)
      obtain⟨a,b,c,d,e,f,g,i,rfl⟩:=eight x0 h8
      have hm:=moreL_length x1 h64
      rw[show((x1.length:Int) != 64)=false from by rw[h64];rfl,impl_HashBlock.j0,if_neg (by decide)]
      refine Eq.trans hst ?_
      obtain⟨j,hj⟩:∃ j,k - ([a,b,c,d,e,f,g,i]:List Int).length=j+1:=⟨k - 9,by simp;omega⟩
      rw[hj,impl_HashBlock.l0,if_neg (by omega),implTable,Option.bind_some,implMore x1 h64 j (by simp at hj;omega),Option.bind_some,hm]
      have hc:=implComp [a,b,c,d,e,f,g,i] (moreL x1) rfl hm 64 0 (wordV a) (wordV b) (wordV c) (wordV d) (wordV e) (wordV f) (wordV g) (wordV i) j (by omega) (by omega) (by simp at hj;omega)
      refine Eq.trans hc ?_
      show _=some (if x1.length=64 then _ else [])
      rw[if_pos h64]
    · rw[show((x1.length:Int) != 64)=true from by rw[bne_iff_ne];omega,impl_HashBlock.j0,if_pos rfl,hashBlockL_not x0 x1 (Or.inr h64)]
  · rw[if_neg (by omega),impl_HashBlock.j0,if_pos rfl,hashBlockL_not x0 x1 (Or.inl h8)]
end Go.Proofs.Ytienlgcjohpphaa.B
/- HashPad, by the program and by the reference; for every list. -/
namespace Go.Proofs.Ytienlgcjohpphaa.B
open Go.RowKit Go.Proofs.Ytienlgcjohpphaa.P Go.Proofs.YtienlgcjohpphaaW.PrintWords Go.Proofs.YtienlgcjohpphaaW.PrintLast Go.Proofs.YtienlgcjohpphaaW.PrintMore
def hashPadL (l:List Int):List Int:=
  if(l.length:Int)>4000 then [] else(l++[128])++List.replicate ((120 - (l++[128]).length % 64) % 64) 0++(leL (wrap64 (8*(l.length:Int))) 8).reverse
theorem hashPadL_length (l:List Int):(hashPadL l).length≤4100:=by
  have h:=leL_length (wrap64 (8*(l.length:Int))) 8
  unfold hashPadL;split
  · simp
  · simp only[List.length_append,List.length_reverse,List.length_replicate,List.length_cons,List.length_nil];omega
theorem hashPadL_div (l:List Int):(hashPadL l).length % 64=0:=by
  unfold hashPadL;split
  · simp
  · rename_i hh
    have h:(leL (wrap64 (8*(l.length:Int))) 8).length=8:=by
      unfold leL;rw[wrap_eq _ (by omega) (by omega),if_pos (by omega),lowL_length];rfl
    simp only[List.length_append,List.length_reverse,List.length_replicate,List.length_cons,List.length_nil,h];omega
theorem specPad_l0 (l:List Int):∀ (d:Nat) (acc:List Int) (k:Nat),(acc.length+d) % 64=56→d<64→acc.length+d≤4398046511104→d+50<k→
    spec_HashPad.l0 k l acc=some (acc++List.replicate d 0++(leL (wrap64 (8*(l.length:Int))) 8).reverse):=by
  intro d
  induction d with
  | zero=>
    intro acc k hd hd2 hc hk
    obtain⟨k,rfl⟩:∃ m,k=m+1:=⟨k - 1,by omega⟩
    have h:=leL_length (wrap64 (8*(l.length:Int))) 8
    simp only[spec_HashPad.l0];rw[if_pos (by omega),specGreat _ _ _ (by omega),Option.bind_some,if_pos (by rw[List.length_reverse];omega)];simp
  | succ d ihd=>
    intro acc k hd hd2 hc hk
    obtain⟨k,rfl⟩:∃ m,k=m+1:=⟨k - 1,by omega⟩
    have ih:=ihd (acc++[0]) k (by simp only[List.length_append,List.length_cons,List.length_nil];omega) (by omega) (by simp only[List.length_append,List.length_cons,List.length_nil];omega) (by omega)
    simp only[spec_HashPad.l0];rw[if_neg (by omega),if_pos (by omega),ih,List.replicate_succ];simp
theorem implPad_l0 (l:List Int):∀ (d:Nat) (acc:List Int) (k:Nat),(acc.length+d) % 64=56→d<64→acc.length+d≤4398046511104→d+50<k→
    impl_HashPad.l0 k l acc=some (acc++List.replicate d 0++(leL (wrap64 (8*(l.length:Int))) 8).reverse):=by
  intro d
  induction d with
  | zero=>
    intro acc k hd hd2 hc hk
    obtain⟨k,rfl⟩:∃ m,k=m+1:=⟨k - 1,by omega⟩
    have h:=leL_length (wrap64 (8*(l.length:Int))) 8
    simp only[impl_HashPad.l0];rw[if_pos (by omega),implGreat _ _ _ (by omega),Option.bind_some,if_pos (by rw[List.length_reverse];omega)];simp
  | succ d ihd=>
    intro acc k hd hd2 hc hk
    obtain⟨k,rfl⟩:∃ m,k=m+1:=⟨k - 1,by omega⟩
    have ih:=ihd (acc++[0]) k (by simp only[List.length_append,List.length_cons,List.length_nil];omega) (by omega) (by simp only[List.length_append,List.length_cons,List.length_nil];omega) (by omega)
    simp only[impl_HashPad.l0];rw[if_neg (by omega),if_pos (by omega),ih,List.replicate_succ];simp
theorem specHashPad (l:List Int) (k:Nat) (hk:130<k):spec_HashPad.f k l=some (hashPadL l):=by
  unfold spec_HashPad.f hashPadL
  by_cases h:(l.length:Int)>4000
  · rw[if_pos h,if_pos h]
  · rw[if_neg h,if_neg h]
    have h:=specPad_l0 l ((120 - (l++[128]).length % 64) % 64) (l++[128]) k (by omega) (by omega) (by simp only[List.length_append,List.length_cons,List.length_nil];omega) (by omega)
    simp only[Option.bind_some,List.nil_append,List.length_nil]
    rw[if_pos (by omega),if_pos (by omega),h]
theorem implHashPad (l:List Int) (k:Nat) (hk:130<k):impl_HashPad.f k l=some (hashPadL l):=by
  unfold impl_HashPad.f hashPadL
  by_cases h:(l.length:Int)>4000
  · rw[if_pos h,if_pos h]
  · rw[if_neg h,if_neg h]
    have h:=implPad_l0 l ((120 - (l++[128]).length % 64) % 64) (l++[128]) k (by omega) (by omega) (by simp only[List.length_append,List.length_cons,List.length_nil];omega) (by omega)
    rw[joined2 _ _ (by simp;omega)]
    simp only[Option.bind_some]
    rw[h]
end Go.Proofs.Ytienlgcjohpphaa.B
/- Hash, by the program and by the reference: one list; for every list of bytes. -/
namespace Go.Proofs.Ytienlgcjohpphaa.B
open Go.RowKit Go.Proofs.Ytienlgcjohpphaa.P Go.Proofs.YtienlgcjohpphaaW.PrintWords Go.Proofs.YtienlgcjohpphaaW.PrintLast Go.Proofs.YtienlgcjohpphaaW.PrintMore
theorem lowL_by:∀ (m:Nat) (n:Int),∀ x∈lowL m n,0≤x∧x<256
  | 0,n,x,h=>by simp [lowL] at h
  | m+1,n,x,h=>by
    rcases List.mem_cons.1 h with h | h
    · omega
    · exact lowL_by m _ x h
theorem leL_by (n m:Int):∀ x∈leL n m,0≤x∧x<256:=by
  unfold leL;split
  · exact lowL_by _ _
  · simp
theorem hashPadL_bytes (l:List Int) (h:∀ x∈l,0≤x∧x<256):∀ x∈hashPadL l,0≤x∧x<256:=by
  unfold hashPadL;split
  · simp
  · intro x hx
    rcases List.mem_append.1 hx with hx | hx
    · rcases List.mem_append.1 hx with hx | hx
      · rcases List.mem_append.1 hx with hx | hx
        · exact h x hx
        · rw[List.mem_singleton.1 hx];omega
      · rw[List.eq_of_mem_replicate hx];omega
    · exact leL_by _ _ x (List.mem_reverse.1 hx)
/-- So many blocks, one after the other. -/
def blocksL:Nat→List Int→List Int→List Int
  | 0,s,_=>s
  | n+1,s,l=>blocksL n (hashBlockL s (l.take 64)) (l.drop 64)
theorem hashBlockL_eight (s l:List Int) (hs:s.length=8) (hl:l.length=64):(hashBlockL s l).length=8:=by
  obtain⟨a,b,c,d,e,f,g,i,rfl⟩:=eight s hs
  show(if l.length=64 then _ else([]:List Int)).length=8
  rw[if_pos hl,outL_length _ _ (by rw[compL_length];rfl),compL_length]
theorem blocksL_length:∀ (n:Nat) (s l:List Int),s.length=8→l.length=64*n→(blocksL n s l).length=8
  | 0,s,l,hs,hl=>hs
  | n+1,s,l,hs,hl=>blocksL_length n _ _ (hashBlockL_eight s _ hs (by rw[List.length_take];omega)) (by rw[List.length_drop];omega)
theorem mid64 (pre rest:List Int) (j:Int) (hj:j=pre.length+64):(((pre++rest).take j.toNat).drop ((pre.length:Int)).toNat)=rest.take 64:=by
  subst hj
  rw[show((pre.length:Int)+64).toNat=pre.length+64 from by omega,Int.toNat_natCast]
  rw[List.take_append,List.take_of_length_le (by omega),show pre.length+64 - pre.length=64 from by omega,List.drop_left]
def startL:List Int:=[1779033703,3144134277,1013904242,2773480762,1359893119,2600822924,528734635,1541459225]
theorem specHash_l0:∀ (n:Nat) (rest pre s:List Int) (k:Nat),rest.length=64*n→pre.length+rest.length≤100000→s.length=8→(∀ x∈rest,0≤x∧x<256)→n+300<k→
    spec_Hash.l0 k (pre++rest) s (pre.length:Int)=some (wordBytesL true (blocksL n s rest))
  | 0,rest,pre,s,k,hr,hb,hs,hw,hk=>by
    obtain⟨k,rfl⟩:∃ m,k=m+1:=⟨k - 1,by omega⟩
    simp only[spec_Hash.l0]
    rw[wrap_eq _ (by omega) (by omega),if_neg (by rw[List.length_append];omega),specWordBytes s true (by omega) k (by omega)];rfl
  | n+1,rest,pre,s,k,hr,hb,hs,hw,hk=>by
    obtain⟨k,rfl⟩:∃ m,k=m+1:=⟨k - 1,by omega⟩
    have h64:(rest.take 64).length=64:=by rw[List.length_take];omega
    have ih:=specHash_l0 n (rest.drop 64) (pre++rest.take 64) (hashBlockL s (rest.take 64)) k (by rw[List.length_drop];omega) (by rw[List.length_append,List.length_drop];omega) (hashBlockL_eight s _ hs h64) (fun x hx=>hw x (List.mem_of_mem_drop hx)) (by omega)
    rw[List.append_assoc,List.take_append_drop] at ih
    have e1:wrap64 ((pre.length:Int)+63)=pre.length+63:=wrap_eq _ (by omega) (by omega)
    have e2:wrap64 ((pre.length:Int)+64)=pre.length+64:=wrap_eq _ (by omega) (by omega)
    simp only[spec_Hash.l0,e1,e2]
    rw[mid64 pre rest _ rfl,specHashBlock s _ (fun x hx=>hw x (List.mem_of_mem_take hx)) k (by omega),Option.bind_some]
    rw[if_pos (by rw[List.length_append];omega),if_pos (by omega),if_pos (by omega),if_pos (by rw[List.length_append];omega)]
    rw[show(pre.length:Int)+64=((pre++rest.take 64).length:Int) from by rw[List.length_append,h64];omega]
    exact ih
theorem implHash_l0:∀ (n:Nat) (rest pre s:List Int) (k:Nat),rest.length=64*n→pre.length+rest.length≤100000→s.length=8→n+300<k→
    impl_Hash.l0 k s (pre++rest) (pre.length:Int)=some (wordBytesL true (blocksL n s rest))
  | 0,rest,pre,s,k,hr,hb,hs,hk=>by
    obtain⟨k,rfl⟩:∃ m,k=m+1:=⟨k - 1,by omega⟩
    simp only[impl_Hash.l0]
    rw[if_neg (by rw[List.length_append];omega),implWordBytes s true (by omega) k (by omega)];rfl
  | n+1,rest,pre,s,k,hr,hb,hs,hk=>by
    obtain⟨k,rfl⟩:∃ m,k=m+1:=⟨k - 1,by omega⟩
    have h64:(rest.take 64).length=64:=by rw[List.length_take];omega
    have ih:=implHash_l0 n (rest.drop 64) (pre++rest.take 64) (hashBlockL s (rest.take 64)) k (by rw[List.length_drop];omega) (by rw[List.length_append,List.length_drop];omega) (hashBlockL_eight s _ hs h64) (by omega)
    rw[List.append_assoc,List.take_append_drop] at ih
    have e2:wrap64 ((pre.length:Int)+64)=pre.length+64:=wrap_eq _ (by omega) (by omega)
    simp only[impl_Hash.l0,e2]
    rw[mid64 pre rest _ rfl,implHashBlock s _ k (by omega),Option.bind_some]
    rw[if_pos (by rw[List.length_append];omega),if_pos (by omega),if_pos (by omega),if_pos (by rw[List.length_append];omega)]
    rw[show(pre.length:Int)+64=((pre++rest.take 64).length:Int) from by rw[List.length_append,h64];omega]
    exact ih
def stateL (l:List Int):List Int:=blocksL ((hashPadL l).length / 64) startL (hashPadL l)
def hashL (l:List Int):List Int:=if(l.length:Int)>4000 then [] else wordBytesL true (stateL l)
theorem stateL_length (l:List Int):(stateL l).length=8:=by
  have h:=hashPadL_div l
  exact blocksL_length _ _ _ rfl (by omega)
theorem hashL_length (l:List Int) (h:¬(l.length:Int)>4000):(hashL l).length=32:=by
  unfold hashL;rw[if_neg h,wordBytesL_length,stateL_length]
theorem hashL_le (l:List Int):(hashL l).length≤32:=by
  by_cases h:(l.length:Int)>4000
  · unfold hashL;rw[if_pos h];simp
  · rw[hashL_length l h];omega
theorem hashL_bytes (l:List Int):∀ x∈hashL l,0≤x∧x<256:=by
  unfold hashL;split
  · simp
  · intro x hx
    unfold wordBytesL at hx
    obtain⟨y,_,hy⟩:=List.mem_flatMap.1 hx
    unfold wb at hy
    split at hy
    · exact leL_by _ _ x (List.mem_reverse.1 hy)
    · exact leL_by _ _ x hy
theorem specHash (l:List Int) (hw:∀ x∈l,0≤x∧x<256) (k:Nat) (hk:2000<k):spec_Hash.f k l=some (hashL l):=by
  have hp:=hashPadL_length l
  have hd:=hashPadL_div l
  unfold spec_Hash.f hashL
  by_cases h:(l.length:Int)>4000
  · rw[if_pos h,if_pos h]
  · have:=specHash_l0 ((hashPadL l).length / 64) (hashPadL l) [] startL k (by omega) (by simp;omega) rfl (hashPadL_bytes l hw) (by omega)
    rw[if_neg h,if_neg h,specHashPad l k (by omega),Option.bind_some]
    exact this
theorem implHash (l:List Int) (k:Nat) (hk:2000<k):impl_Hash.f k l=some (hashL l):=by
  have hp:=hashPadL_length l
  have hd:=hashPadL_div l
  unfold impl_Hash.f hashL
  by_cases h:(l.length:Int)>4000
  · rw[if_pos h,if_pos h]
  · have:=implHash_l0 ((hashPadL l).length / 64) (hashPadL l) [] startL k (by omega) (by simp;omega) rfl (by omega)
    rw[if_neg h,if_neg h,implHashPad l k (by omega)]
    exact this
end Go.Proofs.Ytienlgcjohpphaa.B
