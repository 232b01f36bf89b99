import Derived.Test.Ytienlgcjohpphaas41
import Derived.Test.Ytienlgcjohpphaas44
namespace Go.Proofs.Ytienlgcjohpphaa.P
open Go.RowKit Go.Proofs.YtienlgcjohpphaaW.PrintWords Go.Proofs.YtienlgcjohpphaaW.PrintLast Go.Proofs.YtienlgcjohpphaaW.PrintMore
attribute [local go_sem] zcx zcy zdl zdm zcm zcn zcz zda   -- for this text's walks alone
set_option linter.unusedVariables false
set_option linter.unusedSimpArgs false

def impl_RouteOf.f (k : Nat) (l0 : List Int) (a1 : Int) : Option (ByteArray) := (impl_keyOf.f l0 a1).bind fun t925 => (if t925 = true then ((impl_named.f k (⟨#[114, 111, 117, 116, 101]⟩ : ByteArray) a1).bind fun t926 => ((impl_Mac.f k l0 t926).bind fun t929 => (if 8 ≤ (t929.length : Int) then ((impl_Hex.f k (t929.take 8)).bind fun t936 => (some t936)) else (none)))) else (some (⟨#[]⟩ : ByteArray)))
theorem impl_RouteOf.mono : ∀ a0 a1 k, LeO (impl_RouteOf.f k a0 a1) (impl_RouteOf.f (k + 1) a0 a1) := by
 intro a0 a1 k
 unfold impl_RouteOf.f
 repeat' first
   | (with_reducible exact impl_Hex.mono _ _)
   | (with_reducible exact impl_Mac.mono _ _ _)
   | (with_reducible exact impl_named.mono _ _ _)
   | (with_reducible exact zck _)
   | (with_reducible exact zbs _)
   | (with_reducible refine zby ?_ ?_)
   | (with_reducible refine zbq ?_ (fun _ => ?_))
   | exact impl_Hex.mono _ _
   | exact impl_Mac.mono _ _ _
   | exact impl_named.mono _ _ _
   | exact zbs _
   | refine zby ?_ ?_
   | refine zbq ?_ (fun _ => ?_)
set_option maxHeartbeats 8000000 in
set_option maxRecDepth 100000 in
theorem impl_RouteOf.calls (k : Nat) (A0 : Option Addr) (c0 : Nat) (l0 : List Int) (a1 : Int) (r : ByteArray) (w : World) (hr0 : Kd.C (Kd.int .u8) w A0 l0.length l0) (hc0 : l0.length ≤ c0) (h : impl_RouteOf.f k l0 a1 = some r) :
  Calls Try.prog 42 #[.slice A0 l0.length c0, .int .i64 a1] w fun e w' => e = .returned (.string r) ∧ Below w.heap.size w w' := by
 have HR0 := Aside0.mk hr0
 have HC0 := Aside0.mk hc0
 clear hr0 hc0
 have HB := Aside0.mk (zbu w.heap.size w)
 have H : ((impl_keyOf.f l0 a1).bind fun t925 => (if t925 = true then ((impl_named.f k (⟨#[114, 111, 117, 116, 101]⟩ : ByteArray) a1).bind fun t926 => ((impl_Mac.f k l0 t926).bind fun t929 => (if 8 ≤ (t929.length : Int) then ((impl_Hex.f k (t929.take 8)).bind fun t936 => (some t936)) else (none)))) else (some (⟨#[]⟩ : ByteArray)))) = some r := h
 clear h
 replace H := zal.mp H
 obtain ⟨t925, A30, H⟩ := H
 replace H : (if t925 = true then ((impl_named.f k (⟨#[114, 111, 117, 116, 101]⟩ : ByteArray) a1).bind fun t926 => ((impl_Mac.f k l0 t926).bind fun t929 => (if 8 ≤ (t929.length : Int) then ((impl_Hex.f k (t929.take 8)).bind fun t936 => (some t936)) else (none)))) else (some (⟨#[]⟩ : ByteArray))) = some r := H
 have A3 := Aside0.mk A30
 clear A30
 by_cases c4 : t925 = true
 ·subst c4
  have H1 : ((impl_named.f k (⟨#[114, 111, 117, 116, 101]⟩ : ByteArray) a1).bind fun t926 => ((impl_Mac.f k l0 t926).bind fun t929 => (if 8 ≤ (t929.length : Int) then ((impl_Hex.f k (t929.take 8)).bind fun t936 => (some t936)) else (none)))) = some r := by rw [if_pos rfl] at H; exact H
  clear H
  have H := H1
  clear H1
  replace H := zal.mp H
  obtain ⟨t926, A50, H⟩ := H
  replace H : ((impl_Mac.f k l0 t926).bind fun t929 => (if 8 ≤ (t929.length : Int) then ((impl_Hex.f k (t929.take 8)).bind fun t936 => (some t936)) else (none))) = some r := H
  have A5 := Aside0.mk A50
  clear A50
  replace H := zal.mp H
  obtain ⟨t929, A60, H⟩ := H
  replace H : (if 8 ≤ (t929.length : Int) then ((impl_Hex.f k (t929.take 8)).bind fun t936 => (some t936)) else (none)) = some r := H
  have A6 := Aside0.mk A60
  clear A60
  by_cases c7 : 8 ≤ (t929.length : Int)
  ·rw [if_pos c7] at H
   have c7b0 := zbk c7
   have c7b1 : decide (8 ≤ (t929.length : Int)) = true := zap c7
   clear c7
   obtain ⟨y932, hy932⟩ : ∃ y_ : List Int, y_ = (t929.take 8) := ⟨_, rfl⟩
   replace H : ((impl_Hex.f k y932).bind fun t936 => (some t936)) = some r := by first | (rw [hy932]; with_reducible exact H) | (have H2_ := (zao _ _).symm.trans H; rw [hy932]; with_reducible exact H2_) | (have H2_ := (zao _ _).symm.trans H; with_reducible exact H2_) | with_reducible exact H | (rw [hy932]; exact H) | exact H
   have Ny932 := Aside0.mk hy932
   clear hy932
   replace H := zal.mp H
   obtain ⟨t936, A80, H⟩ := H
   replace H : (some t936) = some r := H
   have A8 := Aside0.mk A80
   clear A80
   obtain rfl := Option.some.inj H
   go_enter Try.func42, Try.ntmps42
   go_wp2_with (first | ((with_reducible refine zax (f := 91) rfl ?_); refine goesL_ (some 7) rfl rfl Try.func91 (by kernel_rfl) rfl #[.slice A0 l0.length c0, .int .i64 a1] rfl (by (try simp only [zan, zar, zav]); first | done | rfl | (simp only [zah, zag]; rfl) | (simp only [zah, zag]; rw [zat (zay.mpr (zbg (by assumption)))])) ?_; (with_reducible refine (impl_keyOf.calls _ _ l0 a1 true _ ?side1 ?side2 A3.out).mono ?_); (case side1 => repeat (first | exact HR0.out | (with_reducible refine zbe ?_ _) | (with_reducible refine zbf ?_ _) | (with_reducible refine zbl ?_))); (case side2 => exact HC0.out); rintro e w' ⟨rfl, ⟨nd, rfl⟩⟩; refine ⟨_, rfl, ?_⟩) | ((with_reducible refine zax (f := 93) rfl ?_); refine goesL_ (some 11) rfl rfl Try.func93 (by kernel_rfl) rfl #[.string (⟨#[114, 111, 117, 116, 101]⟩ : ByteArray), .int .i64 a1] rfl (by (try simp only [zan, zar, zav]); first | done | rfl | (simp only [zah, zag]; rfl) | (simp only [zah, zag]; rw [zat (zay.mpr (zbg (by assumption)))])) ?_; (with_reducible refine (impl_named.calls k (⟨#[114, 111, 117, 116, 101]⟩ : ByteArray) a1 t926 _ A5.out).mono ?_); rintro e w9 ⟨v927, rfl, ho0, hb⟩; refine ⟨_, rfl, ?_⟩; have n0_ := Aside0.mk (zbm ho0 (zba (by repeat (first | (with_reducible first | exact HB.out | apply zaf | apply zab | apply zae) | exact HB.out)))); have n1_ := Aside0.mk (zbb (by repeat (first | (with_reducible first | exact HB.out | apply zaf | apply zab | apply zae) | exact HB.out)) hb); clear HB; have HO928 := n0_; have HB := n1_; clear n0_ n1_; (try clear hb); (try clear hb2); (try clear hk); (try clear hi); (try clear ho0); obtain ⟨Ao10, co10, eo10⟩ := zbr HO928.out; subst eo10) | ((with_reducible refine zax (f := 38) rfl ?_); refine goesL_ (some 12) rfl rfl Try.func38 (by kernel_rfl) rfl #[.slice A0 l0.length c0, .slice Ao10 t926.length co10] rfl (by (try simp only [zan, zar, zav]); first | done | rfl | (simp only [zah, zag]; rfl) | (simp only [zah, zag]; rw [zat (zay.mpr (zbg (by assumption)))])) ?_; (with_reducible refine (impl_Mac.calls k _ _ l0 _ _ t926 t929 _ ?side1 ?side2 ?side3 ?side4 A6.out).mono ?_); (case side1 => repeat (first | exact (zdo HR0.out HB.out) | (with_reducible refine zbe ?_ _) | (with_reducible refine zbf ?_ _) | (with_reducible refine zbl ?_))); (case side2 => exact HC0.out); (case side3 => repeat (first | exact (zas HO928.out).2.2 | (with_reducible refine zbe ?_ _) | (with_reducible refine zbf ?_ _) | (with_reducible refine zbl ?_))); (case side4 => exact (zas HO928.out).2.1); rintro e w11 ⟨v930, rfl, ho0, hb⟩; refine ⟨_, rfl, ?_⟩; have n0_ := Aside0.mk (zbj (by (with_reducible repeat (first | apply zai | apply zaj | apply zak)); exact HO928.out) (zbt ho0) hb); have n1_ := Aside0.mk (zbm (zbv ho0 (zcb (by (with_reducible repeat (first | apply zai | apply zaj | apply zak)); exact HO928.out))) (zba (by repeat (first | (with_reducible first | exact HB.out | apply zaf | apply zab | apply zae) | exact HB.out)))); have n2_ := Aside0.mk (zbb (by repeat (first | (with_reducible first | exact HB.out | apply zaf | apply zab | apply zae) | exact HB.out)) hb); clear HO928; clear HB; have HO928 := n0_; have HO931 := n1_; have HB := n2_; clear n0_ n1_ n2_; (try clear hb); (try clear hb2); (try clear hk); (try clear hi); (try clear ho0); obtain ⟨Ao13, co13, eo13⟩ := zbr HO931.out; subst eo13; have q12 : (8 : Int) ≤ ((t929.length : Int) : Int) := zaq (by first | (with_reducible assumption) | assumption); obtain ⟨i012, hi012, _, hsz12, _⟩ := info_parts info5; have hroom12 : t929.length ≤ co13 := (zas HO931.out).2.1; have hC12 : Kd.C (Kd.int .u8) _ Ao13 t929.length t929 := (zas HO931.out).2.2; have hcut12 := cut_to (P := Try.prog) 23 5 .i64 Try.underlying23 hi012 Ao13 t929.length co13 8 (by omega) q12 hroom12; have hr12 := Kd.C_take (m := 8) hC12 (by omega); have hy12 : y932.length = (8 : Int).toNat := (by rw [Ny932.out, zag]; omega); rw [← Ny932.out] at hr12; rw [← hy12] at hcut12; have HR935 := Aside0.mk hr12; have HC935 := Aside0.mk (show y932.length ≤ co13 from by omega); clear hr12 hC12 hroom12 hi012 hsz12; have KY12 := Aside0.mk hy12; clear hy12; have KL12 := Aside0.mk (show 8 ≤ t929.length from by omega); replace q12 := zbk q12) | ((with_reducible refine zax (f := 92) rfl ?_); refine goesL_ (some 14) rfl rfl Try.func92 (by kernel_rfl) rfl #[.slice Ao13 y932.length co13] rfl (by (try simp only [zan, zar, zav]); first | done | rfl | (simp only [zah, zag]; rfl) | (simp only [zah, zag]; rw [zat (zay.mpr (zbg (by assumption)))])) ?_; (with_reducible refine (impl_Hex.calls k _ _ y932 t936 _ ?side1 ?side2 A8.out).mono ?_); (case side1 => repeat (first | exact (by repeat (first | (with_reducible exact HR935.out) | (with_reducible refine zbe ?_ _) | (with_reducible refine zbf ?_ _) | (with_reducible refine zbl ?_) | exact HR935.out)) | (with_reducible refine zbe ?_ _) | (with_reducible refine zbf ?_ _) | (with_reducible refine zbl ?_))); (case side2 => exact HC935.out); rintro e w14 ⟨rfl, hb⟩; refine ⟨_, rfl, ?_⟩; have n0_ := Aside0.mk (zeg (by (with_reducible repeat (first | apply zai | apply zaj | apply zak)); exact HO928.out) hb); have n1_ := Aside0.mk (zeg (by (with_reducible repeat (first | apply zai | apply zaj | apply zak)); exact HO931.out) hb); have n2_ := Aside0.mk (zdo (by repeat (first | (with_reducible exact HR935.out) | (with_reducible refine zbe ?_ _) | (with_reducible refine zbf ?_ _) | (with_reducible refine zbl ?_) | exact HR935.out)) hb); have n3_ := Aside0.mk (zbb (by repeat (first | (with_reducible first | exact HB.out | apply zaf | apply zab | apply zae) | exact HB.out)) hb); clear HO928; clear HO931; clear HR935; clear HB; have HO928 := n0_; have HO931 := n1_; have HR935 := n2_; have HB := n3_; clear n0_ n1_ n2_ n3_; (try clear hb); (try clear hb2); (try clear hk); (try clear hi)))
   go_ret
   exact ⟨by first | rfl | (simp [zbn, zbo] <;> rfl) | (simp [*, zbn, zbo] <;> rfl), by repeat (first | (with_reducible first | exact HB.out | apply zaf | apply zab | apply zae) | exact HB.out)⟩
  ·rw [if_neg c7] at H
   exact absurd H (by simp)
 ·replace c4 := zcu.mpr c4
  subst c4
  have H1 : (some (⟨#[]⟩ : ByteArray)) = some r := by rw [if_neg (show ¬ (false = true) by decide)] at H; exact H
  clear H
  have H := H1
  clear H1
  obtain rfl := Option.some.inj H
  go_enter Try.func42, Try.ntmps42
  go_wp2_with (first | ((with_reducible refine zax (f := 91) rfl ?_); refine goesL_ (some 7) rfl rfl Try.func91 (by kernel_rfl) rfl #[.slice A0 l0.length c0, .int .i64 a1] rfl (by (try simp only [zan, zar, zav]); first | done | rfl | (simp only [zah, zag]; rfl) | (simp only [zah, zag]; rw [zat (zay.mpr (zbg (by assumption)))])) ?_; (with_reducible refine (impl_keyOf.calls _ _ l0 a1 false _ ?side1 ?side2 A3.out).mono ?_); (case side1 => repeat (first | exact HR0.out | (with_reducible refine zbe ?_ _) | (with_reducible refine zbf ?_ _) | (with_reducible refine zbl ?_))); (case side2 => exact HC0.out); rintro e w' ⟨rfl, ⟨nd, rfl⟩⟩; refine ⟨_, rfl, ?_⟩))
  go_ret
  exact ⟨by first | rfl | (simp [zbn, zbo] <;> rfl) | (simp [*, zbn, zbo] <;> rfl), by repeat (first | (with_reducible first | exact HB.out | apply zaf | apply zab | apply zae) | exact HB.out)⟩
end Go.Proofs.Ytienlgcjohpphaa.P
/- SecretOf and RouteOf, by the program and by the reference: one answer each. -/
namespace Go.Proofs.Ytienlgcjohpphaa.B
open Go.RowKit Go.Proofs.Ytienlgcjohpphaa.P Go.Proofs.YtienlgcjohpphaaW.PrintWords Go.Proofs.YtienlgcjohpphaaW.PrintLast Go.Proofs.YtienlgcjohpphaaW.PrintMore
def namedL (word : List Int) (n : Int) : List Int := word ++ (leL n 2).reverse
theorem namedL_length (word : List Int) (n : Int) (h : word.length = 5) : (namedL word n).length ≤ 13 := by
  have := leL_length n 2
  unfold namedL; rw [List.length_append, List.length_reverse]; omega
theorem namedL_bytes (word : List Int) (n : Int) (h : ∀ x ∈ word, 0 ≤ x ∧ x < 256) : ∀ x ∈ namedL word n, 0 ≤ x ∧ x < 256 :=
  app_bytes h (fun x hx => leL_by _ _ x (List.mem_reverse.1 hx))
theorem implNamed (a : ByteArray) (word : List Int) (ha : bytesOf a = word) (hs : a.size = 5) (n : Int) (k : Nat) (hk : 40 < k) : impl_named.f k a n = some (namedL word n) := by
  have hl := leL_length n 2
  have hw : word.length = 5 := by rw [← ha, bytesOf_length, hs]
  unfold impl_named.f namedL
  rw [if_pos (by omega), implGreat _ _ k hk, Option.bind_some, ha, joined2 _ _ (by rw [List.length_reverse]; omega)]; rfl
def epochW : List Int := [101, 112, 111, 99, 104]
def routeW : List Int := [114, 111, 117, 116, 101]
theorem epochW_by : ∀ x ∈ epochW, 0 ≤ x ∧ x < 256 := by decide
theorem routeW_by : ∀ x ∈ routeW, 0 ≤ x ∧ x < 256 := by decide
theorem epochW_of : bytesOf (⟨#[101, 112, 111, 99, 104]⟩ : ByteArray) = epochW := by decide
theorem routeW_of : bytesOf (⟨#[114, 111, 117, 116, 101]⟩ : ByteArray) = routeW := by decide
def secretL (seed : List Int) (epoch : Int) : List Int := if (seed.length : Int) = 32 ∧ 0 ≤ epoch ∧ epoch ≤ 40 then deriveL [] seed (namedL epochW epoch) 32 else []
theorem secretL_le (seed : List Int) (epoch : Int) : (secretL seed epoch).length ≤ 8160 := by
  unfold secretL; split
  · exact expandL_le _ _ _
  · simp
theorem leL2_length (n : Int) (h : 0 ≤ n) : (leL n 2).length = 2 := by
  unfold leL
  rw [if_pos (by omega), lowL_length]; rfl
theorem specSecretOf (seed : List Int) (epoch : Int) (hs : ∀ x ∈ seed, 0 ≤ x ∧ x < 256) (k : Nat) (hk : 3000 < k) : spec_SecretOf.f k seed epoch = some (secretL seed epoch) := by
  unfold spec_SecretOf.f secretL
  by_cases h : (seed.length : Int) = 32 ∧ 0 ≤ epoch ∧ epoch ≤ 40
  · have hl := leL2_length epoch h.2.1
    rw [if_pos h, if_pos h, specGreat _ _ k (by omega), Option.bind_some, if_pos (by rw [List.length_reverse]; omega)]
    exact specDerive _ _ _ _ (by simp) hs (namedL_bytes _ _ epochW_by) k (by omega)
  · rw [if_neg h, if_neg h]
theorem implSecretOf (seed : List Int) (epoch : Int) (k : Nat) (hk : 3000 < k) : impl_SecretOf.f k seed epoch = some (secretL seed epoch) := by
  unfold impl_SecretOf.f secretL impl_keyOf.f
  by_cases h1 : (seed.length : Int) = 32
  · rw [if_pos h1, implIn, Option.bind_some, Option.bind_some]
    by_cases h2 : 0 ≤ epoch ∧ epoch ≤ 40
    · rw [if_pos (decide_eq_true h2), if_pos ⟨h1, h2⟩, implNamed _ _ epochW_of rfl _ k (by omega), Option.bind_some, implDerive _ _ _ _ k (by omega)]; rfl
    · rw [if_neg (by simpa using h2), if_neg (by omega)]
  · rw [if_neg h1, if_neg (by omega)]; rfl
def routeL (seed : List Int) (epoch : Int) : ByteArray := if (seed.length : Int) = 32 ∧ 0 ≤ epoch ∧ epoch ≤ 40 then strOfNums (hexL ((macL seed (namedL routeW epoch)).take 8)) else ⟨#[]⟩
theorem specRouteOf (seed : List Int) (epoch : Int) (hs : ∀ x ∈ seed, 0 ≤ x ∧ x < 256) (k : Nat) (hk : 3000 < k) : spec_RouteOf.f k seed epoch = some (routeL seed epoch) := by
  unfold spec_RouteOf.f routeL
  by_cases h : (seed.length : Int) = 32 ∧ 0 ≤ epoch ∧ epoch ≤ 40
  · have hl := leL2_length epoch h.2.1
    have hn := namedL_length routeW epoch rfl
    have hm := macL_length seed (namedL routeW epoch) (by omega) (by omega)
    rw [if_pos h, if_pos h, specGreat _ _ k (by omega), Option.bind_some, if_pos (by rw [List.length_reverse]; omega)]
    rw [show ([114, 111, 117, 116, 101] : List Int) ++ (leL epoch 2).reverse = namedL routeW epoch from rfl, specMac _ _ hs (namedL_bytes _ _ routeW_by) k (by omega), Option.bind_some, if_pos (by omega)]
    exact specHex _ (fun x hx => macL_bytes _ _ x (List.mem_of_mem_take hx)) (by rw [List.length_take]; omega) k (by rw [List.length_take]; omega)
  · rw [if_neg h, if_neg h]
theorem implRouteOf (seed : List Int) (epoch : Int) (k : Nat) (hk : 3000 < k) : impl_RouteOf.f k seed epoch = some (routeL seed epoch) := by
  unfold impl_RouteOf.f routeL impl_keyOf.f
  by_cases h1 : (seed.length : Int) = 32
  · rw [if_pos h1, implIn, Option.bind_some, Option.bind_some]
    by_cases h2 : 0 ≤ epoch ∧ epoch ≤ 40
    · have hn := namedL_length routeW epoch rfl
      have hm := macL_length seed (namedL routeW epoch) (by omega) (by omega)
      rw [if_pos (decide_eq_true h2), if_pos ⟨h1, h2⟩, implNamed _ _ routeW_of rfl _ k (by omega), Option.bind_some, implMac _ _ k (by omega), Option.bind_some, if_pos (by omega), implHex _ (fun x hx => macL_bytes _ _ x (List.mem_of_mem_take hx)) (by rw [List.length_take]; omega) k (by rw [List.length_take]; omega)]; rfl
    · rw [if_neg (by simpa using h2), if_neg (by omega)]
  · rw [if_neg h1, if_neg (by omega)]; rfl
end Go.Proofs.Ytienlgcjohpphaa.B
