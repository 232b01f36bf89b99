import Derived.Test.Ytlalkldjpniakaapu19
namespace Go.Proofs.Ytlalkldjpniakaa.P
open Go.RowKit Go.Proofs.YtlalkldjpniakaaW.PrintWords Go.Proofs.YtlalkldjpniakaaW.PrintLast Go.Proofs.YtlalkldjpniakaaW.PrintMore
attribute [local go_sem] zdj zdk zed zee zcy zcz zdl zdm   -- for this text's walks alone
set_option linter.unusedVariables false
set_option linter.unusedSimpArgs false

def laws_markItemS.l0 : Nat → List S34 → Int → Int → Option (Int × List S34)
 | 0, _, _, _ => none
 | k + 1, xs, m, i => if i < (xs.length : Int) then (if 0 ≤ i then (laws_markText.f k m).bind fun t => (laws_markByteS.f k (rd_T34 xs i).f3 (wrap64 (wrap64 (wrap64 (m + 1) + 1) + 1))).bind fun b => laws_markItemS.l0 k (xs.set i.toNat ⟨t, wrap64 (m + 1), wrap64 (wrap64 (m + 1) + 1), b.2⟩) b.1 (wrap64 (i + 1)) else none) else some (m, xs)
def laws_markItemS.f (k : Nat) (l0 : List S34) (a1 : Int) : Option (Int × List S34) := laws_markItemS.l0 k l0 a1 0
theorem laws_markItemS.mono_l : ∀ k, (∀ y0 y1 y2, LeO (laws_markItemS.l0 k y0 y1 y2) (laws_markItemS.l0 (k + 1) y0 y1 y2))
 | 0 => fun _ _ _ r h => by simp [laws_markItemS.l0] at h
 | k + 1 => by
  have ih0 := laws_markItemS.mono_l k
  ·intro y0 y1 y2
   unfold laws_markItemS.l0
   repeat' first
   | (with_reducible exact ih0 _ _ _)
   | (with_reducible exact laws_markText.mono _ _)
   | (with_reducible exact laws_markByteS.mono _ _ _)
   | (with_reducible exact zcn _)
   | (with_reducible exact zda _)
   | (with_reducible refine zdh ?_ ?_)
   | (with_reducible refine zcs ?_ (fun _ => ?_))
theorem laws_markItemS.mono : ∀ a0 a1 k, LeO (laws_markItemS.f k a0 a1) (laws_markItemS.f (k + 1) a0 a1) := by
 intro a0 a1 k
 unfold laws_markItemS.f
 exact laws_markItemS.mono_l k _ _ _
theorem laws_markItemS.put {ops : Array Oper} {rest : List Oper} {o : Oper} {a : Act} {Q : Exit → Act → World → Prop} {W : World} (t : TypeId) (hN : o.dst = none) (hgd : o.guard = none) (p x : Operand) (ho : o.op = .store t p x) {w0 : World} {g n cap o' : Nat} {ok : Nat → Prop} (i : Int) (j : Nat) (xs : List S34) (x' : S34) (u : Value)
  (haddr : a.eval p = .pointer (some ⟨g, o', none⟩)) (hoff : o' = i.toNat * 4 + j) (hx : a.eval x = u) (hu : u.cells.toList = [u]) (ht : (Try.prog.info? t).map (·.size) = some 1) (h1 : u.oneCell' = true)
  (HS : Kd.S k34 34 W w0.heap.size ok (.slice (some ⟨g, 0, none⟩) n cap) xs) (h0 : 0 ≤ i) (hi : i < n) (hj : j + 1 ≤ 4)
  (hx' : ∀ v3 : Value, ([.string (rd_T34 xs i).f0, .int .i64 (rd_T34 xs i).f1, .int .i64 (rd_T34 xs i).f2, v3] : List Value).take j ++ [u] ++ ([.string (rd_T34 xs i).f0, .int .i64 (rd_T34 xs i).f1, .int .i64 (rd_T34 xs i).f2, v3] : List Value).drop (j + [u].length) = [.string x'.f0, .int .i64 x'.f1, .int .i64 x'.f2, v3]) (hf : x'.f3 = (rd_T34 xs i).f3)
  (HB : Below w0.heap.size w0 W)
  (h : ∀ w1, Kd.S k34 34 w1 w0.heap.size ok (.slice (some ⟨g, 0, none⟩) n cap) (xs.set i.toNat x') → Below w0.heap.size w0 w1 → W.grownBy w1 (some g) → wpList Try.prog ops Q rest a w1) : wpList Try.prog ops Q (o :: rest) a W := by
 obtain ⟨oki, c, hcl, hM, hcc, hfr, hoki, hH⟩ := Kd.S_elem HS z34 i h0 hi
 obtain ⟨v3, hc, hR⟩ := k34_openM hM
 refine Kd.H_store k34 w0.heap.size hN hgd t p x ho 34 i j xs x' u [u] c ok oki oki haddr hoff hx hu ht (by intro q hq; rw [List.mem_singleton.1 hq]; exact h1) hH h0 hi hj ?_ (fun _ hk => hk) HB h
 rw [hc]
 have e := hx' v3
 unfold rd_T34 at e
 rw [e]
 refine zfj _ _ _ x' ?_
 rw [hf]
 exact hR
theorem laws_markItemS.lend {W : World} {b g n cap : Nat} {ok : Nat → Prop} {xs : List S34} (HS : Kd.S k34 34 W b ok (.slice (some ⟨g, 0, none⟩) n cap) xs) (i : Int) (h0 : 0 ≤ i) (hi : i < n) :
  ∃ (oki : Nat → Prop) (v3 : Value), W.cell? ⟨g, i.toNat * 4 + 3, none⟩ = some v3 ∧ Kd.R (Kd.int .u8) 5 W b oki v3 (rd_T34 xs i).f3 ∧ (∀ k, oki k → ok k ∧ k ≠ g) ∧
   ∀ W2 y, Kept W W2 oki → Kd.R (Kd.int .u8) 5 W2 b oki v3 y → Kd.S k34 34 W2 b ok (.slice (some ⟨g, 0, none⟩) n cap) (xs.set i.toNat ⟨(rd_T34 xs i).f0, (rd_T34 xs i).f1, (rd_T34 xs i).f2, y⟩) := by
 obtain ⟨oki, c, hcl, hM, hcc, hfr, hoki, hH⟩ := Kd.S_elem HS z34 i h0 hi
 obtain ⟨v3, hc, hR⟩ := k34_openM hM
 subst hc
 exact ⟨oki, v3, hcc 3 v3 rfl, hR, hoki, fun W2 y hk hR2 => Kd.H_back (Kd.H_kept hH hk (fun _ _ h2 h3 => h2 h3)) (zfj _ _ _ ⟨(rd_T34 xs i).f0, (rd_T34 xs i).f1, (rd_T34 xs i).f2, y⟩ hR2) (fun _ hk => hk)⟩
theorem laws_markItemS.set3 (xs : List S34) (i : Int) (h0 : 0 ≤ i) (hi : i < (xs.length : Int)) (x : S34) : rd_T34 (xs.set i.toNat x) i = x := by
 unfold rd_T34
 rw [List.getD_eq_getElem?_getD, List.getElem?_set_self (by omega)]; rfl
set_option maxHeartbeats 8000000 in
set_option maxRecDepth 100000 in
theorem laws_markItemS.calls (k : Nat) (P0_ : Nat → Prop) (u9000_ : Value) (l0 : List S34) (a1 : Int) (r1 : Int) (r2 : List S34) (w0 w : World) (hB : Below w0.heap.size w0 w) (ho0 : Kd.S k34 34 w w0.heap.size P0_ u9000_ l0) (h : laws_markItemS.f k l0 a1 = some (r1, r2)) :
  Calls Try.prog 40 #[u9000_, .int .i64 a1] w fun e w' => e = .returned (.int .i64 r1) ∧ Kd.S k34 34 w' w0.heap.size P0_ u9000_ r2 ∧ Below w0.heap.size w0 w' ∧ Kept w w' P0_ := by
 have hu34 := Try.underlying34
 have HB := Aside0.mk hB
 clear hB
 have hA : ∃ (A : Option Addr) (c : Nat), u9000_ = .slice A l0.length c ∧ (0 < l0.length → ∃ g, A = some ⟨g, 0, none⟩) := by
  rcases Nat.eq_zero_or_pos l0.length with hz | hp
  ·obtain ⟨A, c, rfl⟩ := zfs ho0
   exact ⟨A, c, rfl, fun h => absurd h (by omega)⟩
  ·obtain ⟨g, c, rfl, _⟩ := Kd.S_form ho0 hp
   exact ⟨_, c, rfl, fun _ => ⟨g, rfl⟩⟩
 obtain ⟨A, c, rfl, hg⟩ := hA
 have HG := Aside0.mk hg
 clear hg
 have hn := (zcm ho0).2.2.2.1
 obtain ⟨n, hnn⟩ : ∃ n : Nat, n = l0.length := ⟨_, rfl⟩
 have HL0 : Aside0 (l0.length = n) := ⟨hnn.symm⟩
 have HO0 := Aside0.mk ho0
 have H' := Aside0.mk (show laws_markItemS.l0 k l0 a1 0 = some (r1, r2) from h)
 rw [← hnn] at HO0 HG hn ⊢
 clear ho0 h hnn
 have HK := Aside0.mk (Kept.refl w P0_)
 go_enter Try.func40, Try.ntmps40
 go_wp2
 go_loopg [1, 5] k (fun kq v1 v5 w' => ∃ (xs : List S34) (m i : Int), v1 = .int .i64 m ∧ v5 = .int .i64 i ∧ Aside0 (laws_markItemS.l0 kq xs m i = some (r1, r2)) ∧ Aside0 (xs.length = n) ∧ Aside0 (Kd.S k34 34 w' w0.heap.size P0_ (.slice A n c) xs) ∧ Aside0 (Kept w w' P0_) ∧ Aside0 (Below w0.heap.size w0 w'))
 case atStart => exact ⟨l0, a1, 0, rfl, rfl, H', HL0, HO0, HK, HB⟩
 case round =>
  clear H' HL0 HO0 HK HB
  obtain ⟨xs, m, i, rfl, rfl, HA, HL, HO, HK, HB⟩ := hrel
  cases gk with
  | zero => exact absurd HA.out (by simp [laws_markItemS.l0])
  | succ k1 =>
   have H := HA.out
   clear HA
   simp only [laws_markItemS.l0] at H
   rw [HL.out] at H
   by_cases c3 : i < (n : Int)
   ·rw [if_pos c3] at H
    by_cases c4 : 0 ≤ i
    ·rw [if_pos c4] at H
     obtain ⟨t, ht, H⟩ := zak.1 H
     obtain ⟨⟨m2, b⟩, hb, H⟩ := zak.1 H
     obtain ⟨g, rfl⟩ := HG.out (by omega)
     have HOK : Aside0 (P0_ g) := ⟨(Kd.S_R HO.out).1 g rfl⟩
     clear HG
     generalize hq : rd_T34 xs i = q at hb
     obtain ⟨q0, q1, q2, q3⟩ := q
     have RQ := Aside0.mk hq
     clear hq
     obtain ⟨ya, hya⟩ : ∃ y, y = xs.set i.toNat (⟨t, q1, q2, q3⟩ : S34) := ⟨_, rfl⟩
     obtain ⟨yb, hyb⟩ : ∃ y, y = ya.set i.toNat (⟨t, (wrap64 (m + 1)), q2, q3⟩ : S34) := ⟨_, rfl⟩
     obtain ⟨yc, hyc⟩ : ∃ y, y = yb.set i.toNat (⟨t, (wrap64 (m + 1)), (wrap64 (wrap64 (m + 1) + 1)), q3⟩ : S34) := ⟨_, rfl⟩
     have la : ya.length = n := by rw [hya, List.length_set]; exact HL.out
     have lb : yb.length = n := by rw [hyb, List.length_set]; exact la
     have lc : yc.length = n := by rw [hyc, List.length_set]; exact lb
     have RA : Aside0 (rd_T34 ya i = ⟨t, q1, q2, q3⟩) := ⟨by rw [hya]; exact laws_markItemS.set3 xs i c4 (by rw [HL.out]; exact c3) _⟩
     have RB : Aside0 (rd_T34 yb i = ⟨t, (wrap64 (m + 1)), q2, q3⟩) := ⟨by rw [hyb]; exact laws_markItemS.set3 ya i c4 (by rw [la]; exact c3) _⟩
     have RC : Aside0 (rd_T34 yc i = ⟨t, (wrap64 (m + 1)), (wrap64 (wrap64 (m + 1) + 1)), q3⟩) := ⟨by rw [hyc]; exact laws_markItemS.set3 yb i c4 (by rw [lb]; exact c3) _⟩
     have YD : Aside0 (yc.set i.toNat (⟨t, (wrap64 (m + 1)), (wrap64 (wrap64 (m + 1) + 1)), b⟩ : S34) = xs.set i.toNat ⟨t, (wrap64 (m + 1)), (wrap64 (wrap64 (m + 1) + 1)), b⟩) := ⟨by rw [hyc, hyb, hya]; simp only [List.set_set]⟩
     have NyA := Aside0.mk hya
     have NyB := Aside0.mk hyb
     have NyC := Aside0.mk hyc
     have FT := Aside0.mk ht
     have FM : Aside0 (laws_markByteS.f k1 q3 (wrap64 (wrap64 (wrap64 (m + 1) + 1) + 1)) = some (m2, b)) := ⟨hb⟩
     have FR : Aside0 (laws_markItemS.l0 k1 (xs.set i.toNat ⟨t, (wrap64 (m + 1)), (wrap64 (wrap64 (m + 1) + 1)), b⟩) m2 (wrap64 (i + 1)) = some (r1, r2)) := ⟨H⟩
     have LD : Aside0 ((xs.set i.toNat (⟨t, (wrap64 (m + 1)), (wrap64 (wrap64 (m + 1) + 1)), b⟩ : S34)).length = n) := ⟨by rw [List.length_set]; exact HL.out⟩
     have P0 := Aside0.mk c4
     have P1 := Aside0.mk c3
     clear ht hb H hya hyb hyc la lb lc
     have d3 : decide (i < (n : Int)) = true := zas c3
     have d4 : decide (0 ≤ i) = true := zas c4
     replace c3 := zay c3
     replace c4 := zay c4
     go_wp2_with (first | ((with_reducible refine zbv (f := 98) rfl ?_); refine goesL_ (some 15) rfl rfl Try.func98 (by kernel_rfl) rfl #[.int .i64 m] rfl (by (try simp only [zat, zbe, zbh]); first | done | rfl) ?_; (with_reducible refine (laws_markText.calls k1 m t _ FT.out).mono ?_); rintro e w1 ⟨rfl, hb1⟩; refine ⟨_, rfl, ?_⟩; have n0 := Aside0.mk (zcv HO.out hb1); have n1 := Aside0.mk (Kept.below HK.out hb1); have n2 := Aside0.mk (zai HB.out hb1); clear HO HK HB hb1; have HO := n0; have HK := n1; have HB := n2; clear n0 n1 n2) | ((with_reducible refine zfo (t := 9) (p := 17) rfl ?_); refine laws_markItemS.put 9 rfl rfl (.tmp 17) (.tmp 15) rfl i 0 xs (⟨t, q1, q2, q3⟩ : S34) (.string t) rfl rfl rfl rfl (by kernel_rfl) rfl HO.out P0.out P1.out (by omega) (fun v3 => by rw [RQ.out]; rfl) (by rw [RQ.out]) HB.out ?_; intro w2 hs hb hg; rw [← NyA.out] at hs; have n0 := Aside0.mk hs; have n1 := Aside0.mk (Kept.of_grown hg HK.out (fun k_ e_ => .inl (by injection e_ with e_; subst e_; exact HOK.out))); have n2 := Aside0.mk hb; clear HO HK HB hs hb hg; have HO := n0; have HK := n1; have HB := n2; clear n0 n1 n2) | ((with_reducible refine zfo (t := 3) (p := 24) rfl ?_); refine laws_markItemS.put 3 rfl rfl (.tmp 24) (.tmp 22) rfl i 1 ya (⟨t, wrap64 (m + 1), q2, q3⟩ : S34) (.int .i64 (wrap64 (m + 1))) rfl rfl rfl rfl (by kernel_rfl) rfl HO.out P0.out P1.out (by omega) (fun v3 => by rw [RA.out]; rfl) (by rw [RA.out]) HB.out ?_; intro w3 hs hb hg; rw [← NyB.out] at hs; have n0 := Aside0.mk hs; have n1 := Aside0.mk (Kept.of_grown hg HK.out (fun k_ e_ => .inl (by injection e_ with e_; subst e_; exact HOK.out))); have n2 := Aside0.mk hb; clear HO HK HB hs hb hg; have HO := n0; have HK := n1; have HB := n2; clear n0 n1 n2) | ((with_reducible refine zfo (t := 3) (p := 31) rfl ?_); refine laws_markItemS.put 3 rfl rfl (.tmp 31) (.tmp 29) rfl i 2 yb (⟨t, wrap64 (m + 1), wrap64 (wrap64 (m + 1) + 1), q3⟩ : S34) (.int .i64 (wrap64 (wrap64 (m + 1) + 1))) rfl rfl rfl rfl (by kernel_rfl) rfl HO.out P0.out P1.out (by omega) (fun v3 => by rw [RB.out]; rfl) (by rw [RB.out]) HB.out ?_; intro w4 hs hb hg; rw [← NyC.out] at hs; have n0 := Aside0.mk hs; have n1 := Aside0.mk (Kept.of_grown hg HK.out (fun k_ e_ => .inl (by injection e_ with e_; subst e_; exact HOK.out))); have n2 := Aside0.mk hb; clear HO HK HB hs hb hg; have HO := n0; have HK := n1; have HB := n2; clear n0 n1 n2; obtain ⟨oki, v3, hc3, hr3, hoki, hback⟩ := laws_markItemS.lend HO.out i P0.out P1.out; rw [RC.out] at hr3; rw [RC.out] at hback; have HR3 := Aside0.mk hr3; obtain ⟨A3, c3_, e3⟩ := zci HR3.out; subst e3; have HOKI := Aside0.mk hoki; have HBK := Aside0.mk hback; clear hr3 hoki hback) | ((with_reducible refine zbv (f := 52) rfl ?_); refine goesL_ (some 40) rfl rfl Try.func52 (by kernel_rfl) rfl #[.slice A3 q3.length c3_, .int .i64 (wrap64 (wrap64 (wrap64 (m + 1) + 1) + 1))] rfl (by (try simp only [zat, zbe, zbh]); first | done | rfl) ?_; (with_reducible refine (laws_markByteS.calls k1 oki (.slice A3 q3.length c3_) q3 (wrap64 (wrap64 (wrap64 (m + 1) + 1) + 1)) m2 b w0 _ HB.out HR3.out FM.out).mono ?_); rintro e w5 ⟨rfl, hr5, hb5, hk5⟩; refine ⟨_, rfl, ?_⟩; have n0 := Aside0.mk (HBK.out w5 b hk5 (Kd.R_reok rfl hr5 (fun k_ e_ => HR3.out.1 k_ e_))); have n1 := Aside0.mk (Kept.then_ HK.out hk5 (fun k_ h_ => .inl (HOKI.out k_ h_).1)); have n2 := Aside0.mk hb5; clear HO HK HB HR3 HBK HOKI hr5 hb5 hk5; have HO := n0; have HK := n1; have HB := n2; clear n0 n1 n2) | go_in)
     go_roundg k1
     case measure => omega
     case rel => exact ⟨_, m2, wrap64 (i + 1), rfl, rfl, FR, LD, ⟨by rw [← YD.out]; exact HO.out⟩, HK, HB⟩
    ·rw [if_neg c4] at H
     cases H
   ·rw [if_neg c3] at H
    have d3 : decide (i < (n : Int)) = false := zbj c3
    clear c3
    simp only [zdb, zde] at H
    obtain ⟨rfl, rfl⟩ := H
    go_wp2
    go_ret
    exact ⟨rfl, HO.out, HB.out, HK.out⟩
def laws_heldByteS.l0 : Nat → List Int → Int → Int → Option (Int)
 | 0, _, _, _ => none
 | k + 1, x0, x1, x5 => if x5 < (x0.length : Int) then (if 0 ≤ x5 then (if (rd x0 x5) = ((x1) % 256) then (laws_heldByteS.l0 k x0 (wrap64 (x1 + 1)) (wrap64 (x5 + 1))) else (some (-1))) else (none)) else (some x1)
def laws_heldByteS.f (k : Nat) (l0 : List Int) (a1 : Int) : Option (Int) := laws_heldByteS.l0 k l0 a1 0
theorem laws_heldByteS.mono_l : ∀ k, (∀ y0 y1 y2, LeO (laws_heldByteS.l0 k y0 y1 y2) (laws_heldByteS.l0 (k + 1) y0 y1 y2))
 | 0 => fun _ _ _ r h => by simp [laws_heldByteS.l0] at h
 | k + 1 => by
  have ih0 := laws_heldByteS.mono_l k
  ·intro y0 y1 y2
   unfold laws_heldByteS.l0
   repeat' first
   | (with_reducible exact ih0 _ _ _)
   | (with_reducible exact zcn _)
   | (with_reducible exact zda _)
   | (with_reducible refine zdh ?_ ?_)
   | (with_reducible refine zcs ?_ (fun _ => ?_))
   | exact ih0 _ _ _
theorem laws_heldByteS.mono : ∀ a0 a1 k, LeO (laws_heldByteS.f k a0 a1) (laws_heldByteS.f (k + 1) a0 a1) := by
 intro a0 a1 k
 have ih0 := laws_heldByteS.mono_l k
 unfold laws_heldByteS.f
 repeat' first
   | (with_reducible exact ih0 _ _ _)
   | (with_reducible exact zcn _)
   | (with_reducible exact zda _)
   | (with_reducible refine zdh ?_ ?_)
   | (with_reducible refine zcs ?_ (fun _ => ?_))
   | exact ih0 _ _ _
set_option maxHeartbeats 8000000 in
set_option maxRecDepth 100000 in
theorem laws_heldByteS.calls (k : Nat) (A0 : Option Addr) (c0 : Nat) (l0 : List Int) (a1 : Int) (r : Int) (w : World) (hr0 : Kd.C (Kd.int .u8) w A0 l0.length l0) (hc0 : l0.length ≤ c0) (h : laws_heldByteS.f k l0 a1 = some r) :
  Calls Try.prog 53 #[.slice A0 l0.length c0, .int .i64 a1] w fun e w' => e = .returned (.int .i64 r) ∧ Drawn0 w w' := by
 have HR0 := Aside0.mk hr0
 have HC0 := Aside0.mk hc0
 clear hr0 hc0
 have H : (laws_heldByteS.l0 k l0 a1 0) = some r := h
 clear h
 have H' := Aside0.mk H
 clear H
 go_enter Try.func53, Try.ntmps53
 go_wp2
 go_loopg [1, 5] k (fun kq v1 v5 w' => ∃ (x1_1 : Int) (x5_1 : Int), v1 = .int .i64 x1_1 ∧ v5 = .int .i64 x5_1 ∧ Aside0 (laws_heldByteS.l0 kq l0 x1_1 x5_1 = some r) ∧ Aside0 (kq ≤ k) ∧ Drawn0 w w')
 case atStart => exact ⟨(a1), (0), (by first | rfl | (simp; done) | (simp [*]; done)), (by first | rfl | (simp; done) | (simp [*]; done)), H', ⟨zaw _⟩, by repeat (first | exact Drawn0.refl _ | apply Drawn0.step)⟩
 case round =>
  clear H'
  try clear p2
  obtain ⟨x1_1, x5_1, rfl, rfl, HA, HK1, ⟨m1, rfl⟩⟩ := hrel
  cases gk with
  | zero => exact absurd HA.out (by simp [laws_heldByteS.l0])
  | succ k1 =>
   have H := HA.out
   clear HA
   simp only [laws_heldByteS.l0] at H
   by_cases c3 : x5_1 < (l0.length : Int)
   ·rw [if_pos c3] at H
    have c3b0 : decide (x5_1 < (l0.length : Int)) = true := zas c3
    clear c3
    by_cases c4 : 0 ≤ x5_1
    ·rw [if_pos c4] at H
     have c4b0 : decide (0 ≤ x5_1) = true := zas c4
     clear c4
     by_cases c5 : (rd l0 x5_1) = ((x1_1) % 256)
     ·rw [if_pos c5] at H
      have c5b0 : ((rd l0 x5_1) == ((x1_1) % 256)) = true := zep.mpr c5
      have c5b1 : ((rd l0 x5_1) != ((x1_1) % 256)) = false := zcp.mpr c5
      clear c5
      have H' := Aside0.mk H
      clear H
      have p228 : 0 ≤ (x5_1 : Int) := zad (by first | (with_reducible assumption) | assumption)
      have q228 : x5_1 < (l0.length : Int) := zad (by first | (with_reducible assumption) | assumption)
      obtain ⟨ad228, e228, hx228_0⟩ := Kd.at_int HR0.out x5_1 p228 q228
      cases e228
      replace p228 := zay p228
      replace q228 := zay q228
      go_wp2
      go_roundg k1
      case measure => have := HK1.out; omega
      case rel => exact ⟨(wrap64 (x1_1 + 1)), (wrap64 (x5_1 + 1)), (by first | rfl | (simp; done) | (simp [*]; done)), (by first | rfl | (simp; done) | (simp [*]; done)), H', ⟨by have := HK1.out; omega⟩, by repeat (first | exact Drawn0.refl _ | apply Drawn0.step)⟩
     ·rw [if_neg c5] at H
      have c5b0 : ((rd l0 x5_1) == ((x1_1) % 256)) = false := zcq.mpr c5
      have c5b1 : ((rd l0 x5_1) != ((x1_1) % 256)) = true := zeq.mpr c5
      obtain rfl := Option.some.inj H
      have p228 : 0 ≤ (x5_1 : Int) := zad (by first | (with_reducible assumption) | assumption)
      have q228 : x5_1 < (l0.length : Int) := zad (by first | (with_reducible assumption) | assumption)
      obtain ⟨ad228, e228, hx228_0⟩ := Kd.at_int HR0.out x5_1 p228 q228
      cases e228
      replace p228 := zay p228
      replace q228 := zay q228
      go_wp2
      go_ret
      exact ⟨by first | rfl | (simp; done) | (simp [*]; done), by repeat (first | exact Drawn0.refl _ | apply Drawn0.step)⟩
    ·rw [if_neg c4] at H
     exact absurd H (by simp)
   ·rw [if_neg c3] at H
    have c3b0 : decide (x5_1 < (l0.length : Int)) = false := zbj c3
    clear c3
    obtain rfl := Option.some.inj H
    go_wp2
    go_ret
    exact ⟨by first | rfl | (simp; done) | (simp [*]; done), by repeat (first | exact Drawn0.refl _ | apply Drawn0.step)⟩
end Go.Proofs.Ytlalkldjpniakaa.P
