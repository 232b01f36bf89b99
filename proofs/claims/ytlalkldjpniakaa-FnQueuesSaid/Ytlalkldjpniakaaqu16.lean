import Derived.Test.Ytlalkldjpniakaaqu15
/- slices.DeleteFunc over a list of items of the call's own: what p holds of goes, the others stay in their order. -/
namespace Go.Proofs.Ytlalkldjpniakaa.P
open Go.RowKit Go.Proofs.YtlalkldjpniakaaW.PrintWords Go.Proofs.YtlalkldjpniakaaW.PrintLast Go.Proofs.YtlalkldjpniakaaW.PrintMore
set_option linter.unusedVariables false
set_option linter.unusedSimpArgs false
/-- The places below j that stay. -/
def keptI (p:S34→Bool) (xs:List S34) (j:Nat):List Nat:=(List.range j).filter fun t=> !p (xs.getD t z34)
theorem keptI_succ (p:S34→Bool) (xs:List S34) (j:Nat):keptI p xs (j+1)=keptI p xs j++(if p (xs.getD j z34)=true then [] else [j]):=by
  unfold keptI
  rw[List.range_succ,List.filter_append]
  congr 1
  cases h:p (xs.getD j z34)
  · rw[List.filter_cons_of_pos (by rw[h];rfl),if_neg (by decide)];rfl
  · rw[List.filter_cons_of_neg (by rw[h];decide),if_pos rfl];rfl
theorem keptI_lt {p:S34→Bool} {xs:List S34} {j t:Nat} (h:t∈keptI p xs j):t<j:=by
  unfold keptI at h
  exact List.mem_range.1 (List.mem_filter.1 h).1
theorem keptI_all {p:S34→Bool} {xs:List S34}:∀ (j:Nat),(∀ t,t<j→p (xs.getD t z34)=false)→keptI p xs j=List.range j:=by
  intro j h
  unfold keptI
  rw[List.filter_eq_self]
  intro t ht
  rw[h t (List.mem_range.1 ht)];rfl
theorem keptI_le (p:S34→Bool) (xs:List S34) (j:Nat):(keptI p xs j).length≤j:=by
  unfold keptI
  have:=List.length_filter_le (fun t=> !p (xs.getD t z34)) (List.range j)
  simpa using this
theorem filter_kept (p:S34→Bool) (xs:List S34):xs.filter (fun x=> !p x)=(keptI p xs xs.length).map fun t=>xs.getD t z34:=by
  have h:xs=(List.range xs.length).map fun t=>xs.getD t z34:=by
    apply List.ext_getElem
    · simp
    · intro i h1 h2
      simp [List.getD_eq_getElem?_getD,h1]
  unfold keptI
  conv=>lhs;rw[h]
  rw[List.filter_map]
  rfl
/-- The rows of cells behind j rounds: the first i are those that stayed. -/
structure KInv (rows:List (List Value)) (p:S34→Bool) (xs:List S34) (j i:Nat) (dk:List (List Value)):Prop where
  len:dk.length=rows.length
  num:(keptI p xs j).length=i
  low:dk.take i=(keptI p xs j).map fun t=>rows.getD t []
  high:dk.drop j=rows.drop j
theorem KInv.lt {rows:List (List Value)} {p:S34→Bool} {xs:List S34} {j i:Nat} {dk:List (List Value)} (h:KInv rows p xs j i dk):i≤j:=by
  rw[← h.num];exact keptI_le p xs j
theorem KInv.start {rows:List (List Value)} {p:S34→Bool} {xs:List S34} {k:Nat} (hk:k<rows.length) (hp:p (xs.getD k z34)=true) (ha:∀ t,t<k→p (xs.getD t z34)=false):KInv rows p xs (k+1) k rows:=by
  have hs:keptI p xs (k+1)=List.range k:=by rw[keptI_succ,if_pos hp,List.append_nil,keptI_all k ha]
  refine⟨rfl,by rw[hs,List.length_range],?_,rfl⟩
  rw[hs]
  apply List.ext_getElem
  · simp;omega
  · intro i h1 h2
    simp at h1
    simp [List.getD_eq_getElem?_getD,show i<rows.length by omega]
theorem KInv.skip {rows:List (List Value)} {p:S34→Bool} {xs:List S34} {j i:Nat} {dk:List (List Value)} (h:KInv rows p xs j i dk) (hp:p (xs.getD j z34)=true):KInv rows p xs (j+1) i dk:=by
  have hs:keptI p xs (j+1)=keptI p xs j:=by rw[keptI_succ,if_pos hp,List.append_nil]
  refine⟨h.len,by rw[hs];exact h.num,by rw[hs];exact h.low,?_⟩
  have:=congrArg (List.drop 1) h.high
  simpa [List.drop_drop,Nat.add_comm] using this
theorem KInv.keep {rows:List (List Value)} {p:S34→Bool} {xs:List S34} {j i:Nat} {dk:List (List Value)} (h:KInv rows p xs j i dk) (hp:p (xs.getD j z34)=false) (hj:j<rows.length):KInv rows p xs (j+1) (i+1) (dk.set i (rows.getD j [])):=by
  have hs:keptI p xs (j+1)=keptI p xs j++[j]:=by rw[keptI_succ,if_neg (by rw[hp];decide)]
  have hi:=h.lt
  have hl:=h.len
  refine⟨by rw[List.length_set];exact h.len,by rw[hs,List.length_append,h.num];rfl,?_,?_⟩
  · rw[hs,List.map_append, ← h.low,List.take_succ_eq_append_getElem (by rw[List.length_set];omega),List.take_set_of_le (by omega),List.getElem_set_self]
    rfl
  · rw[List.drop_set_of_lt (by omega)]
    have:=congrArg (List.drop 1) h.high
    simpa [List.drop_drop,Nat.add_comm] using this
theorem KInv.at_ {rows:List (List Value)} {p:S34→Bool} {xs:List S34} {j i:Nat} {dk:List (List Value)} (h:KInv rows p xs j i dk) (hj:j<rows.length):dk.getD j []=rows.getD j []:=by
  have:=congrArg (fun l=>l[0]?) h.high
  simp only[List.getElem?_drop,Nat.add_zero] at this
  rw[List.getD_eq_getElem?_getD,List.getD_eq_getElem?_getD,this]
def zeros4 (n:Nat):List Value:=(Builtin.zeroCells #[.string ⟨#[]⟩, .int .i64 0, .int .i64 0, .slice none 0 0] n).toList
theorem zeros4_length (n:Nat):(zeros4 n).length=n*4:=by simp [zeros4,Builtin.zeroCells]
theorem run_clear4 (w:World) (ty:TypeId) (g o n c:Nat) (hn:0<n) (hc:∀ j,j<n*4→(w.cell? ⟨g,o+j,none⟩).isSome=true) (hf:∀ j,j<n*4→w.frozen? ⟨g,o+j,none⟩=false):
    (Builtin.clear_ #[25] ty #[.slice (some ⟨g,o,none⟩) n c]).run Try.prog w= .ok (.tuple #[]) (w.setCells g o (zeros4 n)):=by
  have hz:∀ w,(zeroValue 34).run Try.prog w= .ok (.agg #[.string ⟨#[]⟩, .int .i64 0, .int .i64 0, .slice none 0 0]) w:=by
    intro w
    kernel_rfl
  have hcs:(Value.agg #[.string ⟨#[]⟩, .int .i64 0, .int .i64 0, .slice none 0 0]).cells= #[.string ⟨#[]⟩, .int .i64 0, .int .i64 0, .slice none 0 0]:=rfl
  obtain⟨seg,hseg⟩:∃ seg,(Builtin.zeroCells #[.string ⟨#[]⟩, .int .i64 0, .int .i64 0, .slice none 0 0] n).toList=seg:=⟨_,rfl⟩
  have hl:seg.length=n*4:=by rw[← hseg];simp [Builtin.zeroCells]
  have h1:∀ v∈seg,v.oneCell'=true:=by
    intro v hv
    rw[← hseg] at hv
    simp only[Builtin.zeroCells,Array.toList_map,List.mem_map] at hv
    obtain⟨i,_,rfl⟩:=hv
    have h4:i % 4<4:=Nat.mod_lt _ (by omega)
    show((#[.string ⟨#[]⟩, .int .i64 0, .int .i64 0, .slice none 0 0]:Array Value)[i % 4]!).oneCell'=true
    match i % 4,h4 with
    | 0,_=>rfl
    | 1,_=>rfl
    | 2,_=>rfl
    | 3,_=>rfl
  have hst:=run_storeCells_cells (P:=Try.prog) g o seg 0 w (by rw[hl];simpa using hc) (by rw[hl];simpa using hf) h1
  simp only[Nat.add_zero] at hst
  unfold zeros4
  rw[hseg]
  obtain⟨m,rfl⟩:∃ m,n=m+1:=⟨n - 1,by omega⟩
  simp [Builtin.clear_,run_underlying Try.underlying25,hz,hcs,hseg,hst]
theorem grown_trans {w w1 w2:World} {r:Option Nat} (h:w.grownBy w1 r) (k:w1.grownBy w2 r):w.grownBy w2 r:=
  ⟨k.os.trans h.os,k.tape.trans h.tape,k.output.trans h.output,Nat.le_trans h.size k.size,fun q hq hr=>(k.block q (Nat.lt_of_lt_of_le hq h.size) hr).trans (h.block q hq hr)⟩
theorem grown_below {w w1 w2:World} {r:Option Nat} (h:Below w.heap.size w w1) (k:w1.grownBy w2 r):w.grownBy w2 r:=grown_trans (grown_of_below h r) k
/-- What is written is newer than w. -/
theorem grown_new {w w1 w2:World} {r:Option Nat} {gb:Nat} (h:w.grownBy w1 r) (k:w1.grownBy w2 (some gb)) (hle:w1.heap.size≤gb):w.grownBy w2 r:=
  ⟨k.os.trans h.os,k.tape.trans h.tape,k.output.trans h.output,Nat.le_trans h.size k.size,fun q hq hr=>(k.block q (Nat.lt_of_lt_of_le hq h.size) (fun e=>by injection e with e;have:=h.size;omega)).trans (h.block q hq hr)⟩
theorem grown_setCells4 (w:World) (g o:Nat) (seg:List Value):w.grownBy (w.setCells g o seg) (some g):=by
  obtain⟨s1,s2,s3,s4⟩:=setCells_same g seg o w
  exact⟨s1,s2,s3,Nat.le_of_eq s4.symm,fun k _ hne=>setCells_far seg o k (fun e=>hne (by rw[e]))⟩
/-- What lies ahead of what is cleared stays. -/
theorem raw_cleared {w:World} {base g n cap:Nat} {okr:Nat→Prop} {rows:List (List Value)} (h:(Kd.raw 4).R 34 w base okr (.slice (some ⟨g,0,none⟩) n cap) rows) (i:Nat) (hi:i≤n) (seg:List Value) (hs:seg.length=(n - i)*4):
    (Kd.raw 4).R 34 (w.setCells g (i*4) seg) base okr (.slice (some ⟨g,0,none⟩) i cap) (rows.take i)∧w.grownBy (w.setCells g (i*4) seg) (some g):=by
  have hn:=(Kd.R_reads' h).1
  have ht:=Kd.R_take h (m:=i) (by omega)
  obtain⟨h0,inner,ho,hr⟩:=ht
  obtain⟨_,inner2,ho2,hr2⟩:=h
  rcases ho2.2 with ⟨hv,_⟩ | ⟨g2,cap2,cur2,hv,hb2,hh2,hnc2,hm2,hsz2,htk2⟩
  · cases hv
  rcases ho.2 with ⟨hv',_⟩ | ⟨g3,cap3,cur3,hv3,hb3,hh3,hnc3,hm3,hsz3,htk3⟩
  · cases hv'
  injection hv with hva hvn hvc
  injection hva with hva
  injection hva with hvg
  injection hv3 with hva3 hvn3 hvc3
  injection hva3 with hva3
  injection hva3 with hvg3
  subst hvg hvg3 hvc hvc3
  rw[hh2] at hh3
  injection hh3 with hh3
  injection hh3 with hh3
  subst hh3
  have hsz:cap*4≤cur2.size:=hsz2
  have m1:n*4≤cap*4:=Nat.mul_le_mul_right _ (by omega)
  have m2:i*4+(n - i)*4=n*4:=by rw[← Nat.add_mul];congr 1;omega
  have m3:i*4≤n*4:=Nat.mul_le_mul_right _ hi
  obtain⟨cur',c1,c2,c3⟩:=setCells_row seg (i*4) w cur2 hh2 (by rw[hs];omega)
  refine⟨⟨h0,inner,⟨ho.1, .inr ⟨g,cap,cur',by rw[← hvn3],hb2,c1,hnc3,hm2,by rw[c2];exact hsz2,?_⟩⟩,hr⟩,?_⟩
  · rw[← htk3,c3, ← hvn3]
    show(cur2.toList.take (i*4)++seg++cur2.toList.drop (i*4+seg.length)).take (i*4)=cur2.toList.take (i*4)
    rw[List.append_assoc,List.take_append_of_le_length (by rw[List.length_take,Array.length_toList];omega),List.take_take,Nat.min_self]
  · exact grown_setCells4 w g (i*4) seg
end Go.Proofs.Ytlalkldjpniakaa.P
