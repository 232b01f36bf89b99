import Derived.Test.Ytienlgcjohpphaale38
/- Xor, by the program: the two lists byte by byte, as far as the shorter one goes; for lists of at most 2^40 bytes. -/
namespace Go.Proofs.Ytienlgcjohpphaa.B
open Go.RowKit Go.Proofs.Ytienlgcjohpphaa.P Go.Proofs.YtienlgcjohpphaaW.PrintWords Go.Proofs.YtienlgcjohpphaaW.PrintLast Go.Proofs.YtienlgcjohpphaaW.PrintMore
/-- Byte by byte, one or the other, not both. -/
def xorL (a b:List Int):List Int:=List.zipWith (Go.bits .xor .u8) a b
theorem implXor_l0:∀ (a b pa pb acc:List Int) (m:Int) (k:Nat),pa.length=pb.length→m=mn (((pa++a).length:Nat):Int) (((pb++b).length:Nat):Int)→pa.length+a.length≤1099511627776→acc.length+a.length≤2199023255552→a.length<k→
    impl_Xor.l0 k (pa++a) (pb++b) acc m (pa.length:Int)=some (acc++xorL a b)
  | [],b,pa,pb,acc,m,k,he,hm,hb,hc,hk=>by
    obtain⟨k,rfl⟩:∃ m,k=m+1:=⟨k - 1,by omega⟩
    simp only[impl_Xor.l0];rw[if_neg (by rw[hm];unfold mn;simp;split <;> omega)];simp [xorL]
  | x :: a,[],pa,pb,acc,m,k,he,hm,hb,hc,hk=>by
    obtain⟨k,rfl⟩:∃ m,k=m+1:=⟨k - 1,by omega⟩
    simp only[impl_Xor.l0];rw[if_neg (by rw[hm];unfold mn;simp;split <;> omega)];simp [xorL]
  | x :: a,y :: b,pa,pb,acc,m,k,he,hm,hb,hc,hk=>by
    obtain⟨k,rfl⟩:∃ m,k=m+1:=⟨k - 1,by omega⟩
    simp only[List.length_cons] at hb hc hk
    have ih:=implXor_l0 a b (pa++[x]) (pb++[y]) (acc++[Go.bits .xor .u8 x y]) m k (by simp [he]) (by rw[hm];simp) (by simp;omega) (by simp;omega) (by omega)
    simp only[impl_Xor.l0]
    rw[if_pos (by rw[hm];unfold mn;simp;split <;> omega),if_pos (pre_nonneg pa),if_pos (lt_mid pa x a),if_pos (lt_mid2 pa pb y b he),if_pos (by omega),rd_mid,rd_mid2 pa pb y b he,wrap_step pa x (by omega),snoc_app pa x a,snoc_app pb y b,ih]
    simp [xorL]
theorem implXor (a b:List Int) (hn:a.length≤1099511627776) (k:Nat) (hk:a.length<k):impl_Xor.f k a b=some (xorL a b):=by
  have h:=implXor_l0 a b [] [] [] _ k rfl rfl (by simpa using hn) (by simp;omega) hk
  simpa [impl_Xor.f] using h
theorem xorL_length (a b:List Int):(xorL a b).length≤a.length:=by
  simp [xorL];omega
end Go.Proofs.Ytienlgcjohpphaa.B
/- Mac, by the program and by the reference: one list; for every key and every list of bytes. -/
namespace Go.Proofs.Ytienlgcjohpphaa.B
open Go.RowKit Go.Proofs.Ytienlgcjohpphaa.P Go.Proofs.YtienlgcjohpphaaW.PrintWords Go.Proofs.YtienlgcjohpphaaW.PrintLast Go.Proofs.YtienlgcjohpphaaW.PrintMore
/-- Every byte xored with one. -/
def xorB (x:Int) (l:List Int):List Int:=l.map (fun v=>Go.bits .xor .u8 v x)
theorem xorB_length (x:Int) (l:List Int):(xorB x l).length=l.length:=by simp [xorB]
theorem xor_by (v x:Int):0≤Go.bits .xor .u8 v x∧Go.bits .xor .u8 v x<256:=by
  show 0≤IntKind.u8.wrap _∧IntKind.u8.wrap _<256
  rw[IntKind.wrap_u8]
  omega
theorem xorB_bytes (x:Int) (l:List Int):∀ y∈xorB x l,0≤y∧y<256:=by
  intro y hy
  obtain⟨v,_,rfl⟩:=List.mem_map.1 hy
  exact xor_by v x
theorem xorL_rep (x:Int):∀ l:List Int,xorL l (List.replicate l.length x)=xorB x l
  | []=>rfl
  | a :: l=>by
    have ih:=xorL_rep x l
    unfold xorL xorB at*
    rw[List.length_cons,List.replicate_succ,List.zipWith_cons_cons,List.map_cons,ih]
/-- The key as it is used: hashed where it is long, filled up to 64 bytes. -/
def keyL (key:List Int):List Int:=if key.length>64 then hashL key else key
def padK (key:List Int):List Int:=keyL key++List.replicate (64 - (keyL key).length) 0
theorem keyL_le (key:List Int):(keyL key).length≤64:=by
  unfold keyL;split
  · have:=hashL_le key;omega
  · omega
theorem padK_length (key:List Int):(padK key).length=64:=by
  have:=keyL_le key
  unfold padK;rw[List.length_append,List.length_replicate];omega
def macL (key b:List Int):List Int:=if(key.length:Int)>3936∨(b.length:Int)>3936 then [] else hashL (xorB 92 (padK key)++hashL (xorB 54 (padK key)++b))
theorem macL_le (key b:List Int):(macL key b).length≤32:=by
  unfold macL;split
  · simp
  · exact hashL_le _
theorem macL_length (key b:List Int) (hk:key.length≤3936) (hb:b.length≤3936):(macL key b).length=32:=by
  unfold macL
  rw[if_neg (by omega)]
  refine hashL_length _ ?_
  have:=hashL_le (xorB 54 (padK key)++b)
  rw[List.length_append,xorB_length,padK_length]
  omega
theorem macL_bytes (key b:List Int):∀ x∈macL key b,0≤x∧x<256:=by
  unfold macL;split
  · simp
  · exact hashL_bytes _
theorem app_bytes {a b:List Int} (ha:∀ x∈a,0≤x∧x<256) (hb:∀ x∈b,0≤x∧x<256):∀ x∈a++b,0≤x∧x<256:=by
  intro x hx
  rcases List.mem_append.1 hx with h | h
  · exact ha x h
  · exact hb x h
theorem xorB_snoc (x a:Int) (pre:List Int):xorB x (pre++[a])=xorB x pre++[Go.bits .xor .u8 a x]:=by simp [xorB]
theorem specMac_l1 (x1:List Int) (hx:∀ x∈x1,0≤x∧x<256) (hl:x1.length≤3936):∀ (rest pre:List Int) (k:Nat),pre.length+rest.length=64→rest.length+2100<k→
    spec_Mac.l1 k x1 (pre++rest) (xorB 54 pre) (xorB 92 pre) (pre.length:Int)=some (hashL (xorB 92 (pre++rest)++hashL (xorB 54 (pre++rest)++x1)))
  | [],pre,k,hp,hk=>by
    obtain⟨k,rfl⟩:∃ m,k=m+1:=⟨k - 1,by omega⟩
    simp only[List.length_nil] at hp hk
    rw[List.append_nil]
    have h1:=hashL_le (xorB 54 pre++x1)
    simp only[spec_Mac.l1]
    rw[if_neg (by omega),if_pos (by rw[xorB_length];omega),specHash _ (app_bytes (xorB_bytes _ _) hx) k (by omega),Option.bind_some,if_pos (by rw[xorB_length];omega),specHash _ (app_bytes (xorB_bytes _ _) (hashL_bytes _)) k (by omega),Option.bind_some]
  | a :: rest,pre,k,hp,hk=>by
    obtain⟨k,rfl⟩:∃ m,k=m+1:=⟨k - 1,by omega⟩
    simp only[List.length_cons] at hp hk
    have ih:=specMac_l1 x1 hx hl rest (pre++[a]) k (by simp;omega) (by omega)
    simp only[spec_Mac.l1]
    rw[if_pos (by omega),if_pos (pre_nonneg pre),if_pos (lt_mid pre a rest),if_pos (by rw[xorB_length];omega),if_pos (by rw[xorB_length];omega),rd_mid,wrap_step pre a (by omega), ← xorB_snoc, ← xorB_snoc,snoc_app pre a rest]
    exact ih
theorem specMac_l0 (x1:List Int) (hx:∀ x∈x1,0≤x∧x<256) (hl:x1.length≤3936):∀ (d:Nat) (y:List Int) (k:Nat),64 - y.length=d→y.length≤64→d+2300<k→
    spec_Mac.l0 k x1 y=some (hashL (xorB 92 (y++List.replicate d 0)++hashL (xorB 54 (y++List.replicate d 0)++x1)))
  | 0,y,k,hd,hy,hk=>by
    obtain⟨k,rfl⟩:∃ m,k=m+1:=⟨k - 1,by omega⟩
    have h:=specMac_l1 x1 hx hl y [] k (by simp;omega) (by omega)
    simp only[spec_Mac.l0]
    rw[if_neg (by omega),List.replicate_zero,List.append_nil]
    exact h
  | d+1,y,k,hd,hy,hk=>by
    obtain⟨k,rfl⟩:∃ m,k=m+1:=⟨k - 1,by omega⟩
    have ih:=specMac_l0 x1 hx hl d (y++[0]) k (by simp;omega) (by simp;omega) (by omega)
    simp only[spec_Mac.l0]
    rw[if_pos (by omega),if_pos (by omega),ih,List.replicate_succ]
    simp
theorem specMac (key b:List Int) (hw:∀ x∈key,0≤x∧x<256) (hb:∀ x∈b,0≤x∧x<256) (k:Nat) (hk:2500<k):spec_Mac.f k key b=some (macL key b):=by
  obtain⟨k,rfl⟩:∃ m,k=m+2:=⟨k - 2,by omega⟩
  unfold spec_Mac.f macL
  by_cases h1:(key.length:Int)>3936
  · rw[if_pos h1,if_pos (.inl h1)];rfl
  · rw[if_neg h1]
    by_cases h2:(b.length:Int)>3936
    · rw[if_pos (.inr h2),decide_eq_true h2];rfl
    · rw[if_neg (by omega),decide_eq_false h2]
      simp only[spec_Mac.j0]
      rw[if_neg (by decide)]
      simp only[Option.bind_some,List.nil_append,List.length_nil]
      rw[if_pos (by omega)]
      by_cases h3:(key.length:Int)>64
      · rw[if_pos h3,specHash key hw (k+1) (by omega),Option.bind_some]
        have h4:=hashL_le key
        have h:=specMac_l0 b hb (by omega) (64 - (hashL key).length) (hashL key) k rfl (by omega) (by omega)
        simp only[spec_Mac.j1]
        rw[h]
        unfold padK keyL
        rw[if_pos (by omega)]
      · rw[if_neg h3]
        have h:=specMac_l0 b hb (by omega) (64 - key.length) key k rfl (by omega) (by omega)
        simp only[spec_Mac.j1]
        rw[h]
        unfold padK keyL
        rw[if_neg (by omega)]
theorem implXorAll (l:List Int) (x:Int) (hl:l.length=64) (k:Nat) (hk:100<k):impl_xorAll.f k l x=some (xorB x l):=by
  unfold impl_xorAll.f bytes_Repeat.f
  rw[if_pos ⟨rfl,by omega,by omega⟩,Option.bind_some,List.headD_cons,Int.toNat_natCast,implXor l _ (by omega) k (by omega),xorL_rep,Option.bind_some]
theorem implMac_t (y b:List Int) (hy:y.length≤64) (hb:b.length≤3936) (k:Nat) (hk:2500<k):impl_Mac.t k y b=some (hashL (xorB 92 (y++List.replicate (64 - y.length) 0)++hashL (xorB 54 (y++List.replicate (64 - y.length) 0)++b))):=by
  unfold impl_Mac.t
  obtain⟨z,hz⟩:∃ z,z=y++List.replicate (64 - y.length) 0:=⟨_,rfl⟩
  have hzl:z.length=64:=by rw[hz,List.length_append,List.length_replicate];omega
  have h1:=hashL_le (xorB 54 z++b)
  rw[if_pos hy,joined2 _ _ (by rw[List.length_replicate];omega),Option.bind_some, ← hz,implXorAll z 92 hzl k (by omega),Option.bind_some,implXorAll z 54 hzl k (by omega),Option.bind_some,
    joined2 _ _ (by rw[xorB_length];omega),Option.bind_some,implHash _ k (by omega),Option.bind_some,joined2 _ _ (by rw[xorB_length];omega),Option.bind_some,implHash _ k (by omega)]
theorem implMac (key b:List Int) (k:Nat) (hk:2500<k):impl_Mac.f k key b=some (macL key b):=by
  unfold impl_Mac.f macL
  by_cases h2:(b.length:Int)>3936
  · rw[if_pos h2,if_pos (.inr h2)]
  · rw[if_neg h2]
    by_cases h1:(key.length:Int)>3936
    · rw[if_pos h1,if_pos (.inl h1)]
    · rw[if_neg h1]
      rw[if_neg (show ¬((key.length:Int)>3936∨(b.length:Int)>3936) from by omega)]
      unfold padK keyL
      by_cases h3:(key.length:Int)>64
      · have h4:=hashL_le key
        rw[if_pos h3,implHash key k (by omega),Option.bind_some,implMac_t _ b (by omega) (by omega) k hk,if_pos (by omega)]
      · rw[if_neg h3,implMac_t _ b (by omega) (by omega) k hk,if_neg (by omega)]
end Go.Proofs.Ytienlgcjohpphaa.B
/- Extract, Expand and Derive, by the program and by the reference: one list each. -/
namespace Go.Proofs.Ytienlgcjohpphaa.B
open Go.RowKit Go.Proofs.Ytienlgcjohpphaa.P Go.Proofs.YtienlgcjohpphaaW.PrintWords Go.Proofs.YtienlgcjohpphaaW.PrintLast Go.Proofs.YtienlgcjohpphaaW.PrintMore
def extractL (salt b:List Int):List Int:=if(salt.length:Int)=0 then macL (List.replicate 32 0) b else macL salt b
theorem extractL_bytes (salt b:List Int):∀ x∈extractL salt b,0≤x∧x<256:=by
  unfold extractL;split <;> exact macL_bytes _ _
theorem extractL_le (salt b:List Int):(extractL salt b).length≤32:=by
  unfold extractL;split <;> exact macL_le _ _
theorem zeros_bytes (n:Nat):∀ x∈List.replicate n (0:Int),0≤x∧x<256:=by
  intro x hx;rw[List.eq_of_mem_replicate hx];omega
theorem specExtract (salt b:List Int) (hs:∀ x∈salt,0≤x∧x<256) (hb:∀ x∈b,0≤x∧x<256) (k:Nat) (hk:2500<k):spec_Extract.f k salt b=some (extractL salt b):=by
  unfold spec_Extract.f extractL
  split
  · rw[if_pos (by omega),specMac _ _ (zeros_bytes 32) hb k hk];rfl
  · rw[specMac _ _ hs hb k hk];rfl
theorem implExtract (salt b:List Int) (k:Nat) (hk:2500<k):impl_Extract.f k salt b=some (extractL salt b):=by
  unfold impl_Extract.f extractL
  split
  · rw[if_pos (by omega),implMac _ _ k hk];rfl
  · rw[implMac _ _ k hk];rfl
/-- So many codes, one behind the other, each made of the one ahead. -/
def stepL (key info last:List Int) (n:Int):List Int:=macL key (last++info++[n % 256])
def expR (key info:List Int) (many:Int):Nat→List Int→List Int→Int→List Int
  | 0,out,_,_=>out
  | m+1,out,last,n=>if(out.length:Int)<many then expR key info many m (out++stepL key info last n) (stepL key info last n) (n+1) else out
theorem stepL_le (key info last:List Int) (n:Int):(stepL key info last n).length≤32:=macL_le _ _
theorem stepL_length (key info last:List Int) (n:Int) (hk:key.length≤400) (hi:info.length≤400) (hl:last.length≤32):(stepL key info last n).length=32:=
  macL_length _ _ (by omega) (by simp;omega)
theorem stepL_bytes (key info last:List Int) (n:Int):∀ x∈stepL key info last n,0≤x∧x<256:=macL_bytes _ _
theorem text_bytes {last info:List Int} (n:Int) (hl:∀ x∈last,0≤x∧x<256) (hi:∀ x∈info,0≤x∧x<256):∀ x∈last++info++[n % 256],0≤x∧x<256:=
  app_bytes (app_bytes hl hi) (fun x hx=>by rw[List.mem_singleton.1 hx];omega)
theorem expR_ge (key info:List Int) (many:Int) (hk:key.length≤400) (hi:info.length≤400):∀ (m:Nat) (out last:List Int) (n:Int),last.length≤32→many≤out.length+32*(m:Int)→many≤((expR key info many m out last n).length:Int)
  | 0,out,last,n,_,h=>by simpa [expR] using h
  | m+1,out,last,n,hl,h=>by
    unfold expR
    split
    · have h1:=stepL_length key info last n hk hi hl
      exact expR_ge key info many hk hi m _ _ _ (by omega) (by rw[List.length_append];push_cast at h ⊢;omega)
    · omega
theorem expR_le (key info:List Int) (many:Int):∀ (m:Nat) (out last:List Int) (n:Int),(expR key info many m out last n).length≤out.length+32*m
  | 0,out,last,n=>by simp [expR]
  | m+1,out,last,n=>by
    unfold expR
    split
    · have h1:=stepL_le key info last n
      have h2:=expR_le key info many m (out++stepL key info last n) (stepL key info last n) (n+1)
      rw[List.length_append] at h2
      omega
    · omega
theorem expR_bytes (key info:List Int) (many:Int):∀ (m:Nat) (out last:List Int) (n:Int),(∀ x∈out,0≤x∧x<256)→∀ x∈expR key info many m out last n,0≤x∧x<256
  | 0,out,last,n,h=>by simpa [expR] using h
  | m+1,out,last,n,h=>by
    unfold expR
    split
    · exact expR_bytes key info many m _ _ _ (app_bytes h (stepL_bytes _ _ _ _))
    · exact h
theorem specExpand_l0 (key info:List Int) (many:Int) (hm0:1≤many) (hm:many≤8160) (hk:key.length≤400) (hi:info.length≤400) (hkb:∀ x∈key,0≤x∧x<256) (hib:∀ x∈info,0≤x∧x<256):
    ∀ (m:Nat) (out last:List Int) (n:Int) (k:Nat),last.length≤32→(∀ x∈last,0≤x∧x<256)→many≤out.length+32*(m:Int)→out.length+32*m≤100000→0≤n→n+m≤1000→m+2600<k→
      spec_Expand.l0 k key info many out last n=some ((expR key info many m out last n).take many.toNat)
  | 0,out,last,n,k,hl,hlb,h,hb,hn,hn2,hkk=>by
    obtain⟨k,rfl⟩:∃ m,k=m+1:=⟨k - 1,by omega⟩
    simp only[spec_Expand.l0]
    rw[if_neg (by omega)]
    simp only[Option.bind_some,List.nil_append,List.length_nil]
    rw[if_pos (by omega),if_pos (by omega),if_pos (by rw[List.length_take];omega)]
    rfl
  | m+1,out,last,n,k,hl,hlb,h,hb,hn,hn2,hkk=>by
    obtain⟨k,rfl⟩:∃ m,k=m+1:=⟨k - 1,by omega⟩
    simp only[spec_Expand.l0]
    unfold expR
    by_cases hc:(out.length:Int)<many
    · have h1:=stepL_length key info last n hk hi hl
      rw[if_pos hc,if_pos hc]
      simp only[Option.bind_some,List.nil_append,List.length_nil]
      rw[if_pos (by omega),if_pos (by omega),if_pos (by rw[List.length_append];omega),specMac _ _ hkb (text_bytes n hlb hib) k (by omega),Option.bind_some]
      have ih:=specExpand_l0 key info many hm0 hm hk hi hkb hib m (out++stepL key info last n) (stepL key info last n) (n+1) k (by omega) (stepL_bytes _ _ _ _) (by rw[List.length_append];push_cast at h ⊢;omega) (by rw[List.length_append];omega) (by omega) (by push_cast at hn2;omega) (by omega)
      rw[wrap_eq _ (by omega) (by omega),if_pos (by show out.length+(stepL key info last n).length<_;omega)]
      exact ih
    · rw[if_neg hc,if_neg hc]
      simp only[Option.bind_some,List.nil_append,List.length_nil]
      rw[if_pos (by omega),if_pos (by omega),if_pos (by rw[List.length_take];omega)]
theorem implExpand_l0 (key info:List Int) (many:Int) (hm0:1≤many) (hm:many≤8160) (hk:key.length≤400) (hi:info.length≤400):
    ∀ (m:Nat) (out last:List Int) (n:Int) (k:Nat),last.length≤32→many≤out.length+32*(m:Int)→out.length+32*m≤100000→0≤n→n+m≤1000→m+2600<k→
      impl_Expand.l0 k key info many out last n=some ((expR key info many m out last n).take many.toNat)
  | 0,out,last,n,k,hl,h,hb,hn,hn2,hkk=>by
    obtain⟨k,rfl⟩:∃ m,k=m+1:=⟨k - 1,by omega⟩
    simp only[impl_Expand.l0]
    rw[if_neg (by omega),if_pos (by omega),if_pos (by omega)]
    rfl
  | m+1,out,last,n,k,hl,h,hb,hn,hn2,hkk=>by
    obtain⟨k,rfl⟩:∃ m,k=m+1:=⟨k - 1,by omega⟩
    simp only[impl_Expand.l0]
    unfold expR
    by_cases hc:(out.length:Int)<many
    · have h1:=stepL_length key info last n hk hi hl
      rw[if_pos hc,if_pos hc,joined3 _ _ _ (by simp;omega),Option.bind_some,implMac _ _ k (by omega),Option.bind_some]
      have ih:=implExpand_l0 key info many hm0 hm hk hi m (out++stepL key info last n) (stepL key info last n) (n+1) k (by omega) (by rw[List.length_append];push_cast at h ⊢;omega) (by rw[List.length_append];omega) (by omega) (by push_cast at hn2;omega) (by omega)
      rw[wrap_eq _ (by omega) (by omega),if_pos (by show out.length+(stepL key info last n).length<_;omega)]
      exact ih
    · rw[if_neg hc,if_neg hc,if_pos (by omega),if_pos (by omega)]
def expandL (key info:List Int) (many:Int):List Int:=if 1≤many∧many≤8160∧info.length≤400∧key.length≤400 then(expR key info many 255 [] [] 1).take many.toNat else []
theorem expandL_le (key info:List Int) (many:Int):(expandL key info many).length≤8160:=by
  unfold expandL;split
  · rw[List.length_take];omega
  · simp
theorem expandL_length (key info:List Int) (many:Int) (h:1≤many∧many≤8160∧info.length≤400∧key.length≤400):((expandL key info many).length:Int)=many:=by
  have h1:=expR_ge key info many h.2.2.2 h.2.2.1 255 [] [] 1 (by simp) (by simp;omega)
  unfold expandL
  rw[if_pos h,List.length_take]
  omega
theorem expandL_bytes (key info:List Int) (many:Int):∀ x∈expandL key info many,0≤x∧x<256:=by
  unfold expandL;split
  · intro x hx
    exact expR_bytes key info many 255 [] [] 1 (by simp) x (List.mem_of_mem_take hx)
  · simp
theorem specExpand (key info:List Int) (many:Int) (hkb:∀ x∈key,0≤x∧x<256) (hib:∀ x∈info,0≤x∧x<256) (k:Nat) (hkk:2900<k):spec_Expand.f k key info many=some (expandL key info many):=by
  obtain⟨k,rfl⟩:∃ m,k=m+1:=⟨k - 1,by omega⟩
  unfold spec_Expand.f expandL
  rw[Option.bind_some,specIn,Option.bind_some]
  by_cases h1:1≤many∧many≤8160
  · rw[if_pos (decide_eq_true h1)]
    by_cases h2:(info.length:Int)>400
    · rw[if_pos h2,if_neg (by omega)];rfl
    · rw[if_neg h2]
      by_cases h3:(key.length:Int)>400
      · rw[decide_eq_true h3,if_neg (by omega)];rfl
      · rw[decide_eq_false h3,if_pos (by omega)]
        simp only[spec_Expand.j0]
        rw[if_neg (by decide)]
        exact specExpand_l0 key info many (by omega) (by omega) (by omega) (by omega) hkb hib 255 [] [] 1 k (by simp) (by simp) (by simp;omega) (by simp) (by omega) (by omega) (by omega)
  · rw[if_neg (by simpa using h1),if_neg (by omega)];rfl
theorem implExpand (key info:List Int) (many:Int) (k:Nat) (hkk:2900<k):impl_Expand.f k key info many=some (expandL key info many):=by
  obtain⟨k,rfl⟩:∃ m,k=m+1:=⟨k - 1,by omega⟩
  unfold impl_Expand.f expandL
  rw[implIn,Option.bind_some]
  by_cases h1:1≤many∧many≤8160
  · rw[if_pos (decide_eq_true h1)]
    by_cases h2:(info.length:Int)>400
    · rw[if_pos h2,if_neg (by omega)];rfl
    · rw[if_neg h2]
      by_cases h3:(key.length:Int)>400
      · rw[decide_eq_true h3,if_neg (by omega)];rfl
      · rw[decide_eq_false h3,if_pos (by omega)]
        simp only[impl_Expand.j0]
        rw[if_neg (by decide)]
        exact implExpand_l0 key info many (by omega) (by omega) (by omega) (by omega) 255 [] [] 1 k (by simp) (by simp;omega) (by simp) (by omega) (by omega) (by omega)
  · rw[if_neg (by simpa using h1),if_neg (by omega)];rfl
def deriveL (salt b info:List Int) (many:Int):List Int:=expandL (extractL salt b) info many
theorem specDerive (salt b info:List Int) (many:Int) (hs:∀ x∈salt,0≤x∧x<256) (hb:∀ x∈b,0≤x∧x<256) (hi:∀ x∈info,0≤x∧x<256) (k:Nat) (hkk:2900<k):spec_Derive.f k salt b info many=some (deriveL salt b info many):=by
  unfold spec_Derive.f deriveL
  rw[specExtract _ _ hs hb k (by omega),Option.bind_some,specExpand _ _ _ (extractL_bytes _ _) hi k hkk];rfl
theorem implDerive (salt b info:List Int) (many:Int) (k:Nat) (hkk:2900<k):impl_Derive.f k salt b info many=some (deriveL salt b info many):=by
  unfold impl_Derive.f deriveL
  rw[implExtract _ _ k (by omega),Option.bind_some,implExpand _ _ _ k hkk];rfl
end Go.Proofs.Ytienlgcjohpphaa.B
/- KeysOf: the two keys, by the reference and by the program. -/
namespace Go.Proofs.Ytienlgcjohpphaa.B
open Go.RowKit Go.Proofs.Ytienlgcjohpphaa.P Go.Proofs.YtienlgcjohpphaaW.PrintWords Go.Proofs.YtienlgcjohpphaaW.PrintLast Go.Proofs.YtienlgcjohpphaaW.PrintMore
def keysL (a b c:List Int):List Int:=deriveL (b++c) a [112,108,117,109,101] 44
theorem keysL_length (a b c:List Int):(keysL a b c).length=44:=by
  have h:=expandL_length (extractL (b++c) a) [112,108,117,109,101] 44 ⟨by omega,by omega,by decide,by have:=extractL_le (b++c) a;omega⟩
  show(expandL (extractL (b++c) a) [112,108,117,109,101] 44).length=44
  omega
theorem keys_bytes {a b:List Int} (ha:∀ x∈a,0≤x∧x<256) (hb:∀ x∈b,0≤x∧x<256):∀ x∈a++b,0≤x∧x<256:=by
  intro x hx
  rcases List.mem_append.1 hx with h | h
  · exact ha x h
  · exact hb x h
theorem specKeys (a b c:List Int) (ha:∀ x∈a,0≤x∧x<256) (hb:∀ x∈b,0≤x∧x<256) (hc:∀ x∈c,0≤x∧x<256) (hl:b.length+c.length≤10000000) (k:Nat) (hk:2900<k):spec_KeysOf.f k a b c=some ((keysL a b c).take 32,(keysL a b c).drop 32):=by
  unfold spec_KeysOf.f
  rw[if_pos hl,specDerive (b++c) a _ 44 (keys_bytes hb hc) ha (by decide) k hk,Option.bind_some]
  exact if_pos (keysL_length a b c)
theorem joined1 (a:List Int) (h:a.length≤140737488355328):impl_joined.f [a]=some a:=by
  rw[joined _ (by simp;omega) (by simp)];simp
theorem implKeys (a b c:List Int) (hl:b.length+c.length≤10000000) (k:Nat) (hk:2900<k):impl_KeysOf.f k a b c=some ((keysL a b c).take 32,(keysL a b c).drop 32):=by
  unfold impl_KeysOf.f
  rw[joined2 b c (by omega),Option.bind_some,implDerive (b++c) a _ 44 k hk,Option.bind_some]
  show(if(keysL a b c).length=44 then(impl_joined.f [(keysL a b c).take 32]).bind fun x=>(impl_joined.f [(keysL a b c).drop 32]).bind fun y=>some (x,y) else none)=_
  have h:=keysL_length a b c
  rw[if_pos h,joined1 _ (by rw[List.length_take];omega),Option.bind_some,joined1 _ (by rw[List.length_drop];omega),Option.bind_some]
end Go.Proofs.Ytienlgcjohpphaa.B
/- Same, by the program and by the reference: whether two lists of bytes are one. -/
namespace Go.Proofs.Ytienlgcjohpphaa.B
open Go.RowKit Go.Proofs.Ytienlgcjohpphaa.P Go.Proofs.YtienlgcjohpphaaW.PrintWords Go.Proofs.YtienlgcjohpphaaW.PrintLast Go.Proofs.YtienlgcjohpphaaW.PrintMore
def sameL (a b:List Int):Bool:=(strOfNums a).toList==(strOfNums b).toList
theorem implSame (a b:List Int):impl_Same.f a b=some (sameL a b):=rfl
theorem sameL_same (a:List Int):sameL a a=true:=by unfold sameL;simp
end Go.Proofs.Ytienlgcjohpphaa.B
