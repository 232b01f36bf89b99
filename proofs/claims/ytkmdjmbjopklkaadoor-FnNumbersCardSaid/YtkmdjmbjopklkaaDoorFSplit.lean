/- Split, by the reference: the pieces between the separators, as strings.Split cuts them at a separator of one byte. -/
import Derived.Test.YtkmdjmbjopklkaaDoorBase
import Derived.Test.YtkmdjmbjopklkaaDoorEv
import Derived.Test.YtkmdjmbjopklkaaDoorPx35
import Derived.Lib.SplitLaws
namespace Go.Proofs.YtkmdjmbjopklkaaDoor.B
open Go.RowKit Go.Proofs.YtkmdjmbjopklkaaDoor.P Go.Proofs.YtkmdjmbjopklkaaDoorW.PrintWords Go.Proofs.YtkmdjmbjopklkaaDoorW.PrintLast Go.Proofs.YtkmdjmbjopklkaaDoorW.PrintMore
def spl (c : UInt8) : List UInt8 → List UInt8 → List (List UInt8)
  | cur, [] => [cur]
  | cur, b :: l => if b = c then cur :: spl c [] l else spl c (cur ++ [b]) l
def front (p : List UInt8) : List (List UInt8) → List (List UInt8)
  | x :: r => (p ++ x) :: r
  | [] => []
theorem splK_hit (c : UInt8) (l : List UInt8) (i : Nat) (h : Lib.indexByte l c = i) : Lib.splitK [c] 0 (Lib.count l [c]) l = l.take i :: Lib.splitK [c] 0 (Lib.count (l.drop (i + 1)) [c]) (l.drop (i + 1)) := by
  have h1 : Lib.index l [c] = i := (Lib.index_one l c).trans h
  rw [Lib.count_hit (by simp) h1, Nat.add_comm 1, Lib.splitK, if_neg (by rw [h1]; simp), h1]
  rfl
theorem splK_miss (c : UInt8) (l : List UInt8) (h : Lib.indexByte l c = -1) : Lib.splitK [c] 0 (Lib.count l [c]) l = [l] := by
  rw [Lib.count_miss ((Lib.index_one l c).trans h)]
  rfl
theorem spl_K (c : UInt8) : ∀ (l cur : List UInt8), spl c cur l = front cur (Lib.splitK [c] 0 (Lib.count l [c]) l)
  | [], cur => by
    rw [splK_miss c [] rfl]
    simp [spl, front]
  | b :: l, cur => by
    by_cases hb : b = c
    · have h0 : Lib.indexByte (b :: l) c = (0 : Nat) := by simp [Lib.indexByte, hb]
      rw [splK_hit c _ 0 h0]
      simp only [spl, if_pos hb, List.take_zero, front, List.append_nil, Nat.zero_add, List.drop_succ_cons, List.drop_zero]
      rw [spl_K c l []]
      cases Lib.splitK [c] 0 (Lib.count l [c]) l <;> simp [front]
    · simp only [spl, if_neg hb]
      rw [spl_K c l (cur ++ [b])]
      by_cases hm : Lib.indexByte l c = -1
      · have h0 : Lib.indexByte (b :: l) c = -1 := by simp [Lib.indexByte, hb, hm]
        rw [splK_miss c l hm, splK_miss c _ h0]
        simp [front]
      · have hg := Lib.indexByte_ge l c
        obtain ⟨i, hi⟩ : ∃ i : Nat, Lib.indexByte l c = i := ⟨(Lib.indexByte l c).toNat, by omega⟩
        have h0 : Lib.indexByte (b :: l) c = ((i + 1 : Nat) : Int) := by
          have hi1 : ¬ ((i : Int) = -1) := by omega
          simp [Lib.indexByte, hb, hi, hi1]
        rw [splK_hit c l i hi, splK_hit c _ (i + 1) h0]
        simp [front]
def ba (l : List UInt8) : ByteArray := ⟨l.toArray⟩
theorem ba_size (l : List UInt8) : (ba l).size = l.length := by simp [ba, ByteArray.size]
theorem ba_extract (d m r : List UInt8) : (ba (d ++ m ++ r)).extract d.length (d.length + m.length) = ba m := by
  apply ByteArray.ext
  rw [ByteArray.data_extract]
  apply Array.toList_inj.1
  simp [ba]
theorem bt_ba (p : List UInt8) (b : UInt8) (r : List UInt8) : bt (ba (p ++ b :: r)) (p.length : Int) = (b.toNat : Int) := by
  unfold bt
  have h : ((p.length : Int)).toNat < (ba (p ++ b :: r)).size := by rw [ba_size]; simp
  rw [dif_pos h]
  congr 1
  show ((ba (p ++ b :: r)).data[(p.length : Int).toNat]).toNat = _
  simp [ba]
theorem split_l0 (c : UInt8) (l : List UInt8) (hl : l.length ≤ 1048576) : ∀ (rest cur done : List UInt8) (parts : List ByteArray), l = done ++ cur ++ rest → parts.length ≤ done.length →
    Ev (fun k => spec_Split.l0 k (ba l) (c.toNat : Int) parts (done.length : Int) ((done.length + cur.length : Nat) : Int)) (parts ++ (spl c cur rest).map ba)
  | [], cur, done, parts, e, hp => by
    have hn : l.length = done.length + cur.length := by rw [e]; simp
    have hs : ((ba l).size : Int) = ((done.length + cur.length : Nat) : Int) := by rw [ba_size, hn]
    refine evUp ?_
    simp only [spec_Split.l0]
    refine evPos (by rw [hs]; exact Int.le_refl _) (evPos hs.symm (evPos (by omega) (evPos (by omega) (evPos (by omega) ?_))))
    have hx : (ba l).extract ((done.length : Int)).toNat (((done.length + cur.length : Nat) : Int)).toNat = ba cur := by
      have := ba_extract done cur []
      rw [← e] at this
      rw [Int.toNat_natCast, Int.toNat_natCast]
      exact this
    rw [hx, wrap_eq _ (by omega) (by omega)]
    refine evUp ?_
    simp only [spec_Split.l0]
    refine evNeg (by rw [hs]; omega) ?_
    simp only [spl, List.map_cons, List.map_nil]
    exact evConst _
  | b :: rest, cur, done, parts, e, hp => by
    have hn : l.length = done.length + cur.length + (rest.length + 1) := by rw [e]; simp; omega
    have hs : ((ba l).size : Int) = (l.length : Int) := by rw [ba_size]
    have hb : bt (ba l) ((done.length + cur.length : Nat) : Int) = (b.toNat : Int) := by
      have := bt_ba (done ++ cur) b rest
      rw [← e, List.length_append] at this
      exact this
    refine evUp ?_
    simp only [spec_Split.l0]
    rw [hb, hs]
    refine evPos (by omega) (evNeg (by omega) (evPos (by omega) (evPos (by omega) ?_)))
    have hw : wrap64 (((done.length + cur.length : Nat) : Int) + 1) = ((done.length + cur.length + 1 : Nat) : Int) := by rw [wrap_eq _ (by omega) (by omega)]; omega
    by_cases hc : b = c
    · refine evPos (by rw [hc]) (evPos (by omega) (evPos (by omega) (evPos (by omega) ?_)))
      have hx : (ba l).extract ((done.length : Int)).toNat (((done.length + cur.length : Nat) : Int)).toNat = ba cur := by
        have := ba_extract done cur (b :: rest)
        rw [← e] at this
        rw [Int.toNat_natCast, Int.toNat_natCast]
        exact this
      have ih := split_l0 c l hl rest [] (done ++ cur ++ [b]) (parts ++ [ba cur]) (by rw [e]; simp) (by simp; omega)
      simp only [List.length_append, List.length_singleton, List.length_nil, Nat.add_zero] at ih
      rw [hx, hw]
      simp only [spl, if_pos hc, List.map_cons]
      rw [show parts ++ ba cur :: (spl c [] rest).map ba = parts ++ [ba cur] ++ (spl c [] rest).map ba from by simp]
      exact ih
    · refine evNeg (fun h => hc (by have h2 : b.toNat = c.toNat := by omega
                                    exact UInt8.toNat_inj.1 h2)) ?_
      have ih := split_l0 c l hl rest (cur ++ [b]) done parts (by rw [e]; simp) hp
      simp only [List.length_append, List.length_singleton] at ih
      rw [hw]
      simp only [spl, if_neg hc]
      exact ih
theorem splitB_spl (c : UInt8) (l : List UInt8) : Lib.splitB (ba [c]) 0 (Lib.countB (ba l) (ba [c])) (ba l) = (spl c [] l).map ba := by
  have h := Lib.splitB_data (ba [c]) 0 (Lib.countB (ba l) (ba [c])) (ba l)
  have e1 : (ba [c]).data.toList = [c] := rfl
  have e2 : (ba l).data.toList = l := by simp [ba]
  have e3 : Lib.countB (ba l) (ba [c]) = Lib.count l [c] := by show Lib.count (ba l).data.toList (ba [c]).data.toList = _; rw [e1, e2]
  rw [e1, e2, e3] at h
  have h2 : spl c [] l = Lib.splitK [c] 0 (Lib.count l [c]) l := by
    rw [spl_K c l []]
    cases Lib.splitK [c] 0 (Lib.count l [c]) l <;> simp [front]
  rw [h2, ← h, List.map_map, e3]
  conv => lhs; rw [← List.map_id (Lib.splitB (ba [c]) 0 (Lib.count l [c]) (ba l))]
  refine List.map_congr_left fun x _ => ?_
  apply ByteArray.ext
  simp [ba]
theorem specSplit (s : ByteArray) (c : UInt8) (hs : s.size ≤ 1048576) : Ev (fun k => spec_Split.f k s (c.toNat : Int)) (Lib.splitB (ba [c]) 0 (Lib.countB s (ba [c])) s) := by
  obtain ⟨l, rfl⟩ : ∃ l, s = ba l := ⟨s.data.toList, by apply ByteArray.ext; simp [ba]⟩
  rw [ba_size] at hs
  rw [splitB_spl]
  have h := split_l0 c l hs l [] [] [] rfl (Nat.le_refl _)
  have h2 : Ev (fun k => spec_Split.l0 k (ba l) (c.toNat : Int) [] 0 0) ((spl c [] l).map ba) := by simpa using h
  exact h2
end Go.Proofs.YtkmdjmbjopklkaaDoor.B
