import Derived.Test.Ytlalkldjpniakaalo42
import Derived.Test.Ytlalkldjpniakaalo25
import Derived.Test.Ytlalkldjpniakaalo39
/- Words, by the reference, and one word by the program; for lists of at most 2^40 bytes. -/
namespace Go.Proofs.Ytlalkldjpniakaa.B
open Go.RowKit Go.Proofs.Ytlalkldjpniakaa.P Go.Proofs.YtlalkldjpniakaaW.PrintWords Go.Proofs.YtlalkldjpniakaaW.PrintLast Go.Proofs.YtlalkldjpniakaaW.PrintMore
def w4 (a b c d : Int) : Int := Go.bits .or .i64 (Go.bits .or .i64 (Go.bits .or .i64 (wrap64 ((wrap64 a) * 16777216)) (wrap64 ((wrap64 b) * 65536))) (wrap64 ((wrap64 c) * 256))) (wrap64 d)
def word4 (big : Bool) (a b c d : Int) : Int := if big = true then w4 a b c d else w4 d c b a
/-- The words of a list of bytes. -/
def wordsL (big : Bool) : List Int → List Int
  | a :: b :: c :: d :: r => word4 big a b c d :: wordsL big r
  | _ => []
theorem wordsL_length (big : Bool) : ∀ l : List Int, (wordsL big l).length = l.length / 4
  | a :: b :: c :: d :: r => by simp [wordsL, wordsL_length big r]; omega
  | [] => rfl
  | [a] => by simp [wordsL]
  | [a, b] => by simp [wordsL]
  | [a, b, c] => by simp [wordsL]
theorem rd_at (pre l : List Int) (i : Nat) (j : Int) (h : j = (pre.length : Int) + i) : rd (pre ++ l) j = l.getD i 0 := by
  subst h
  unfold rd
  rw [show ((pre.length : Int) + i).toNat = pre.length + i from by omega]
  rw [List.getD_eq_getElem?_getD, List.getD_eq_getElem?_getD, List.getElem?_append_right (by omega), show pre.length + i - pre.length = i from by omega]
theorem specWords_l0 (big : Bool) : ∀ (rest pre acc : List Int) (k : Nat), pre.length + rest.length ≤ 1099511627776 → acc.length + rest.length ≤ 4398046511104 → rest.length < k →
    spec_Words.l0 k (pre ++ rest) big acc (pre.length : Int) = some (acc ++ wordsL big rest)
  | a :: b :: c :: d :: r, pre, acc, k, hb, hc, hk => by
    obtain ⟨k, rfl⟩ : ∃ m, k = m + 1 := ⟨k - 1, by omega⟩
    simp only [List.length_cons] at hb hc hk
    have ih := specWords_l0 big r (pre ++ [a, b, c, d]) (acc ++ [word4 big a b c d]) k (by simp; omega) (by simp; omega) (by omega)
    have hl : ((pre ++ a :: b :: c :: d :: r).length : Int) = pre.length + r.length + 4 := by simp; omega
    have e1 : wrap64 ((pre.length : Int) + 1) = pre.length + 1 := wrap_eq _ (by omega) (by omega)
    have e2 : wrap64 ((pre.length : Int) + 2) = pre.length + 2 := wrap_eq _ (by omega) (by omega)
    have e3 : wrap64 ((pre.length : Int) + 3) = pre.length + 3 := wrap_eq _ (by omega) (by omega)
    have e4 : wrap64 ((pre.length : Int) + 4) = ((pre ++ [a, b, c, d]).length : Int) := by rw [wrap_eq _ (by omega) (by omega)]; simp
    have r0 : rd (pre ++ a :: b :: c :: d :: r) (pre.length : Int) = a := rd_at _ _ 0 _ (by omega)
    have r1 : rd (pre ++ a :: b :: c :: d :: r) ((pre.length : Int) + 1) = b := rd_at _ _ 1 _ (by omega)
    have r2 : rd (pre ++ a :: b :: c :: d :: r) ((pre.length : Int) + 2) = c := rd_at _ _ 2 _ (by omega)
    have r3 : rd (pre ++ a :: b :: c :: d :: r) ((pre.length : Int) + 3) = d := rd_at _ _ 3 _ (by omega)
    have hx : pre ++ a :: b :: c :: d :: r = (pre ++ [a, b, c, d]) ++ r := by simp
    simp only [spec_Words.l0, e1, e2, e3, r0, r1, r2, r3]
    rw [hl]
    rw [if_pos (by omega)]
    have hy : (acc ++ [word4 big a b c d]) ++ wordsL big r = acc ++ wordsL big (a :: b :: c :: d :: r) := by simp [wordsL]
    rw [← hy, ← ih, ← e4, ← hx]
    cases big
    · rw [if_neg (by decide), if_pos (by omega), if_pos (by omega), if_pos (by omega), if_pos (by omega), if_pos (by omega), if_pos (by omega), if_pos (by omega), if_pos (by omega)]
      rfl
    · rw [if_pos rfl, if_pos (by omega), if_pos (by omega), if_pos (by omega), if_pos (by omega), if_pos (by omega), if_pos (by omega), if_pos (by omega), if_pos (by omega)]
      rfl
  | [], pre, acc, k, hb, hc, hk => by
    obtain ⟨k, rfl⟩ : ∃ m, k = m + 1 := ⟨k - 1, by omega⟩
    simp only [spec_Words.l0]; rw [wrap_eq _ (by omega) (by simp at hb; omega), if_neg (by simp; omega)]; simp [wordsL]
  | [a], pre, acc, k, hb, hc, hk => by
    obtain ⟨k, rfl⟩ : ∃ m, k = m + 1 := ⟨k - 1, by omega⟩
    simp only [spec_Words.l0]; rw [wrap_eq _ (by omega) (by simp at hb; omega), if_neg (by simp)]; simp [wordsL]
  | [a, b], pre, acc, k, hb, hc, hk => by
    obtain ⟨k, rfl⟩ : ∃ m, k = m + 1 := ⟨k - 1, by omega⟩
    simp only [spec_Words.l0]; rw [wrap_eq _ (by omega) (by simp at hb; omega), if_neg (by simp)]; simp [wordsL]
  | [a, b, c], pre, acc, k, hb, hc, hk => by
    obtain ⟨k, rfl⟩ : ∃ m, k = m + 1 := ⟨k - 1, by omega⟩
    simp only [spec_Words.l0]; rw [wrap_eq _ (by omega) (by simp at hb; omega), if_neg (by simp)]; simp [wordsL]
theorem specWords (l : List Int) (big : Bool) (hn : l.length ≤ 1099511627776) (k : Nat) (hk : l.length < k) : spec_Words.f k l big = some (wordsL big l) := by
  have h := specWords_l0 big l [] [] k (by simpa using hn) (by simp; omega) hk
  simpa [spec_Words.f] using h
theorem wordOf4 (big : Bool) (a b c d : Int) : impl_wordOf.f [a, b, c, d] big = some (word4 big a b c d) := by
  cases big <;> rfl
end Go.Proofs.Ytlalkldjpniakaa.B
/- What a computation with fuel answers, from some fuel on: more lemmas. -/
namespace Go.Proofs.Ytlalkldjpniakaa.B
open Go.Proofs.YtlalkldjpniakaaW.PrintWords
theorem evConst {α : Type} (r : α) : Ev (fun _ => some r) r := ⟨0, fun _ _ => rfl⟩
theorem evUp {α : Type} {f : Nat → Option α} {r : α} (h : Ev (fun k => f (k + 1)) r) : Ev f r := by
  obtain ⟨k0, h⟩ := h
  refine ⟨k0 + 1, fun k hk => ?_⟩
  obtain ⟨m, rfl⟩ : ∃ m, k = m + 1 := ⟨k - 1, by omega⟩
  exact h m (by omega)
theorem evBind {α β : Type} {f : Nat → Option α} {g : Nat → α → Option β} {a : α} {r : β} (h : Ev f a) (h2 : Ev (fun k => g k a) r) : Ev (fun k => (f k).bind fun t => g k t) r := by
  obtain ⟨k0, h⟩ := h
  obtain ⟨k1, h2⟩ := h2
  refine ⟨k0 + k1, fun k hk => ?_⟩
  show (f k).bind (fun t => g k t) = some r
  rw [h k (by omega)]
  exact h2 k (by omega)
theorem evPos {α : Type} {c : Prop} [Decidable c] {f g : Nat → Option α} {r : α} (hc : c) (h : Ev f r) : Ev (fun k => if c then f k else g k) r := by
  obtain ⟨k0, h⟩ := h
  exact ⟨k0, fun k hk => by show (if c then f k else g k) = some r; rw [if_pos hc]; exact h k hk⟩
theorem evNeg {α : Type} {c : Prop} [Decidable c] {f g : Nat → Option α} {r : α} (hc : ¬ c) (h : Ev g r) : Ev (fun k => if c then f k else g k) r := by
  obtain ⟨k0, h⟩ := h
  exact ⟨k0, fun k hk => by show (if c then f k else g k) = some r; rw [if_neg hc]; exact h k hk⟩
theorem evOf {α : Type} {f : Nat → Option α} {r : α} (n : Nat) (h : ∀ k, n < k → f k = some r) : Ev f r := ⟨n + 1, fun k hk => h k (by omega)⟩
end Go.Proofs.Ytlalkldjpniakaa.B
/- LineOf, by the program and by the reference: one line, one end; for bytes of at most 2^20. -/
namespace Go.Proofs.Ytlalkldjpniakaa.B
open Go.RowKit Go.Proofs.Ytlalkldjpniakaa.P Go.Proofs.YtlalkldjpniakaaW.PrintWords Go.Proofs.YtlalkldjpniakaaW.PrintLast Go.Proofs.YtlalkldjpniakaaW.PrintMore
theorem rd_in (l : List Int) (h : ∀ x ∈ l, 0 ≤ x ∧ x < 256) (i : Int) : 0 ≤ rd l i ∧ rd l i ≤ 255 := by
  unfold rd
  rw [List.getD_eq_getElem?_getD]
  cases e : l[i.toNat]? with
  | none => simp
  | some x => have := h x (List.mem_of_getElem? e); simp; omega
theorem rd_drop (l : List Int) (a i : Int) (ha : 0 ≤ a) (hi : 0 ≤ i) : rd (l.drop a.toNat) i = rd l (a + i) := by
  unfold rd
  rw [List.getD_eq_getElem?_getD, List.getD_eq_getElem?_getD, List.getElem?_drop, show (a + i).toNat = a.toNat + i.toNat from by omega]
theorem mid_drop (l : List Int) (a lo hi : Int) (ha : 0 ≤ a) (h0 : 0 ≤ lo) (h1 : lo ≤ hi) : (l.take (a + hi).toNat).drop (a + lo).toNat = ((l.drop a.toNat).take hi.toNat).drop lo.toNat := by
  rw [show (a + hi).toNat = a.toNat + hi.toNat from by omega, show (a + lo).toNat = a.toNat + lo.toNat from by omega, ← List.drop_drop, List.take_drop.symm]
theorem four (l : List Int) (h : l.length = 4) : ∃ a b c d, l = [a, b, c, d] := by
  match l, h with
  | [a, b, c, d], _ => exact ⟨a, b, c, d, rfl⟩
theorem mem_cut {l : List Int} {m n : Nat} {x : Int} (h : x ∈ (l.take m).drop n) : x ∈ l := List.mem_of_mem_take (List.mem_of_mem_drop h)
/-- What is read of a line. -/
def LineGood (l : List Int) (a : Int) (r : Int × ByteArray × Int × Int × List Int × Int × Bool) : Prop :=
  r = (0, ⟨#[]⟩, 0, 0, [], 0, false) ∨ (r.2.2.2.2.2.2 = true ∧ 0 ≤ a ∧ a + 18 ≤ r.2.2.2.2.2.1 ∧ r.2.2.2.2.2.1 ≤ (l.length : Int) ∧ r.2.1.size ≤ 16 ∧ r.2.2.2.2.1.length ≤ 65535 ∧ (∀ x ∈ r.2.2.2.2.1, 0 ≤ x ∧ x < 256) ∧
    ∃ bb, Ev (fun k => spec_LineBytes.f k r.1 r.2.1 r.2.2.1 r.2.2.2.1 r.2.2.2.2.1) bb ∧ Ev (fun k => impl_LineBytes.f k r.1 r.2.1 r.2.2.1 r.2.2.2.1 r.2.2.2.2.1) bb ∧ sameL bb ((l.drop a.toNat).take (r.2.2.2.2.2.1 - a).toNat) = true)
theorem hex_size (l : List Int) : (strOfNums (hexL l)).size = 2 * l.length := by
  rw [← hexL_length l]
  show ((hexL l).map _).toArray.size = _
  simp
theorem lineOf (l : List Int) (a : Int) (hl : l.length ≤ 1048576) (hb : ∀ x ∈ l, 0 ≤ x ∧ x < 256) :
    ∃ r, Ev (fun k => spec_LineOf.f k l a) r ∧ Ev (fun k => impl_LineOf.f k l a) r ∧ LineGood l a r := by
  have hlm : (l.length : Int) ≤ 140737488355232 := by omega
  by_cases c2 : 0 ≤ a ∧ a + 18 ≤ (l.length : Int)
  · have hin : impl_in.f a 0 ((l.length : Int) - 16 - 2) = some true := by
      unfold impl_in.f
      rw [if_pos c2.1, decide_eq_true (by omega)]
    obtain ⟨xs, exs⟩ : ∃ xs, xs = l.drop a.toNat := ⟨_, rfl⟩
    have hxl : (xs.length : Int) = (l.length : Int) - a := by rw [exs, List.length_drop]; omega
    have hxb : ∀ x ∈ xs, 0 ≤ x ∧ x < 256 := fun x hx => hb x (by rw [exs] at hx; exact List.mem_of_mem_drop hx)
    have hr : ∀ i, 0 ≤ i → rd l (a + i) = rd xs i := fun i hi => by rw [exs]; exact (rd_drop l a i c2.1 hi).symm
    have hr0 : rd l a = rd xs 0 := by have := hr 0 (by omega); rwa [Int.add_zero] at this
    have hc3 : (0 ≤ rd xs 0 ∧ rd xs 0 ≤ 255) ∧ (0 ≤ rd xs 9 ∧ rd xs 9 ≤ 255) ∧ (0 ≤ rd xs 14 ∧ rd xs 14 ≤ 255) ∧ (0 ≤ rd xs 15 ∧ rd xs 15 ≤ 255) := ⟨rd_in xs hxb 0, rd_in xs hxb 9, rd_in xs hxb 14, rd_in xs hxb 15⟩
    obtain ⟨n, hn⟩ : ∃ n, n = 256 * rd xs 14 + rd xs 15 := ⟨_, rfl⟩
    have hn0 : 0 ≤ n ∧ n ≤ 65535 := by omega
    have hm : ∀ lo hi, 0 ≤ lo → lo ≤ hi → (l.take (a + hi).toNat).drop (a + lo).toNat = (xs.take hi.toNat).drop lo.toNat := fun lo hi h0 h1 => by rw [exs]; exact mid_drop l a lo hi c2.1 h0 h1
    have hm0 : ∀ hi, 0 ≤ hi → (l.take (a + hi).toNat).drop a.toNat = xs.take hi.toNat := fun hi h0 => by have := hm 0 hi (by omega) h0; simpa using this
    by_cases c4 : 18 + n ≤ (xs.length : Int)
    · obtain ⟨d0, d1, d2, d3, hd⟩ := four ((xs.take (14 : Int).toNat).drop (10 : Int).toNat) (by rw [List.length_drop, List.length_take, show (14 : Int).toNat = 14 from rfl, show (10 : Int).toNat = 10 from rfl]; omega)
      obtain ⟨due, hdue⟩ : ∃ due, due = word4 true d0 d1 d2 d3 := ⟨_, rfl⟩
      obtain ⟨lh, hlh⟩ : ∃ lh, lh = (xs.take (9 : Int).toNat).drop (1 : Int).toNat := ⟨_, rfl⟩
      have hlh8 : lh.length = 8 := by rw [hlh, List.length_drop, List.length_take, show (9 : Int).toNat = 9 from rfl, show (1 : Int).toNat = 1 from rfl]; omega
      obtain ⟨lb, hlb⟩ : ∃ lb, lb = (xs.take (16 + n).toNat).drop (16 : Int).toNat := ⟨_, rfl⟩
      have hlbn : lb.length = n.toNat := by rw [hlb, List.length_drop, List.length_take, show (16 : Int).toNat = 16 from rfl]; omega
      have hlbb : ∀ x ∈ lb, 0 ≤ x ∧ x < 256 := fun x hx => hxb x (mem_cut (by rw [hlb] at hx; exact hx))
      obtain ⟨rt, hrt⟩ : ∃ rt : ByteArray, rt = if rd xs 0 = 3 then ⟨#[]⟩ else strOfNums (hexL lh) := ⟨_, rfl⟩
      have hrs : rt.size ≤ 16 := by
        rw [hrt]
        split
        · exact Nat.zero_le _
        · rw [hex_size, hlh8]; omega
      obtain ⟨bb, hbl, hbb⟩ := lineBytes (rd xs 0) rt (rd xs 9) due lb (by omega) (by omega)
      have eD : Ev (fun k => spec_Words.f k ((xs.take (14 : Int).toNat).drop (10 : Int).toNat) true) [due] := by
        rw [hd, hdue]
        exact evOf 4 fun k hk => specWords [d0, d1, d2, d3] true (by simp) k (by simpa using hk)
      have eW : impl_wordOf.f ((xs.take (14 : Int).toNat).drop (10 : Int).toNat) true = some due := by rw [hd, hdue]; exact wordOf4 true d0 d1 d2 d3
      have hlhb : ∀ x ∈ lh, 0 ≤ x ∧ x < 256 := fun x hx => hxb x (mem_cut (by rw [hlh] at hx; exact hx))
      have eHs : Ev (fun k => spec_Hex.f k lh) (strOfNums (hexL lh)) := evOf lh.length fun k hk => specHex lh hlhb (by omega) k hk
      have eHi : Ev (fun k => impl_Hex.f k lh) (strOfNums (hexL lh)) := evOf lh.length fun k hk => implHex lh hlhb (by omega) k hk
      have eBs : Ev (fun k => spec_LineBytes.f k (rd xs 0) rt (rd xs 9) due lb) bb := evOf (rt.size + 50) fun k hk => (hbb k hk).1
      have eBi : Ev (fun k => impl_LineBytes.f k (rd xs 0) rt (rd xs 9) due lb) bb := evOf (rt.size + 50) fun k hk => (hbb k hk).2
      have eC : slices_Clone_byte_byte.f lb = some lb := by unfold slices_Clone_byte_byte.f; rw [if_pos (by omega)]
      obtain ⟨s, hs⟩ : ∃ s, s = sameL bb (xs.take (16 + n + 2).toNat) := ⟨_, rfl⟩
      have e18 : a + 18 + n = a + (18 + n) := by omega
      have e16 : a + 16 + n = a + (16 + n) := by omega
      refine ⟨if s = true then (rd xs 0, rt, rd xs 9, due, lb, a + 18 + n, true) else (0, ⟨#[]⟩, 0, 0, [], 0, false), ?_, ?_, ?_⟩
      · unfold spec_LineOf.f
        rw [hr 9 (by omega), hr 14 (by omega), hr 15 (by omega), hr0, ← hn]
        refine evPos hlm (evPos c2 (evPos hc3 (evPos (by omega) ?_)))
        rw [hm 10 14 (by omega) (by omega), hm 1 9 (by omega) (by omega), e16, hm 16 (16 + n) (by omega) (by omega), e18, hm0 (18 + n) (by omega), ← hlh, ← hlb]
        refine evBind eD (evPos (by simp) (evBind eHs ?_))
        have hrd : rd [due] 0 = due := rfl
        simp only [← hrt, hrd]
        refine evBind eBs ?_
        rw [show (18 + n).toNat = (16 + n + 2).toNat from by omega]
        simp only [specSame, ← hs, Option.bind_some]
        cases s
        · exact evNeg (by decide) (evConst _)
        · exact evPos rfl (evConst _)
      · unfold impl_LineOf.f
        refine evPos hlm ?_
        rw [hin]
        refine evPos c2 ?_
        rw [← exs]
        unfold impl_LineOf.g
        rw [← hn]
        refine evPos hc3 (evPos c4 ?_)
        rw [← hlh, ← hlb]
        refine evBind eHi ?_
        simp only [← hrt, eW, eC, Option.bind_some]
        refine evBind eBi ?_
        simp only [implSame, ← hs, Option.bind_some]
        rw [show a + (16 + n + 2) = a + 18 + n from by omega]
        cases s
        · exact evNeg (by decide) (evConst _)
        · exact evPos rfl (evConst _)
      · cases s with
        | false => exact .inl rfl
        | true =>
          refine .inr ⟨rfl, c2.1, ?_, ?_, hrs, ?_, hlbb, bb, eBs, eBi, ?_⟩
          · show a + 18 ≤ a + 18 + n; omega
          · show a + 18 + n ≤ _; omega
          · show lb.length ≤ _; omega
          · show sameL bb ((l.drop a.toNat).take (a + 18 + n - a).toNat) = true
            rw [show (a + 18 + n - a).toNat = (16 + n + 2).toNat from by omega, ← exs]
            exact hs.symm
    · refine ⟨(0, ⟨#[]⟩, 0, 0, [], 0, false), ?_, ?_, .inl rfl⟩
      · unfold spec_LineOf.f
        rw [hr 9 (by omega), hr 14 (by omega), hr 15 (by omega), hr0, ← hn]
        exact evPos hlm (evPos c2 (evPos hc3 (evNeg (by omega) (evConst _))))
      · unfold impl_LineOf.f
        refine evPos hlm ?_
        rw [hin]
        refine evPos c2 ?_
        rw [← exs]
        unfold impl_LineOf.g
        rw [← hn]
        exact evPos hc3 (evNeg c4 (evConst _))
  · have hin : impl_in.f a 0 ((l.length : Int) - 16 - 2) = some false := by
      unfold impl_in.f
      by_cases h : a ≥ 0
      · rw [if_pos h, decide_eq_false (by omega)]
      · rw [if_neg h]
    refine ⟨(0, ⟨#[]⟩, 0, 0, [], 0, false), ?_, ?_, .inl rfl⟩
    · unfold spec_LineOf.f
      exact evPos hlm (evNeg c2 (evConst _))
    · unfold impl_LineOf.f
      refine evPos hlm ?_
      rw [hin]
      exact evConst _
end Go.Proofs.Ytlalkldjpniakaa.B
