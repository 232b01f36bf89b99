import Derived.Test.Ytlalkldjpniakaalo27
namespace Go.Proofs.Ytlalkldjpniakaa.P
open Go.RowKit Go.Proofs.YtlalkldjpniakaaW.PrintWords Go.Proofs.YtlalkldjpniakaaW.PrintLast Go.Proofs.YtlalkldjpniakaaW.PrintMore
attribute [local go_sem] zdk zdl zeh zei zcz zda zdm zdn   -- for this text's walks alone
set_option linter.unusedVariables false
set_option linter.unusedSimpArgs false

def impl_isRoute.f (k : Nat) (a0 : ByteArray) : Option (Bool) := (impl_Unhex.f k a0).bind fun bt186 => (if bt186.2 = true then (some ((a0.size : Int) == 16)) else (some false))
theorem impl_isRoute.mono : ∀ a0 k, LeO (impl_isRoute.f k a0) (impl_isRoute.f (k + 1) a0) := by
 intro a0 k
 unfold impl_isRoute.f
 repeat' first
   | (with_reducible exact impl_Unhex.mono _ _)
   | (with_reducible exact zdd _)
   | (with_reducible exact zde _)
   | (with_reducible refine zdx ?_ ?_)
   | (with_reducible refine zdf ?_ (fun _ => ?_))
set_option maxHeartbeats 8000000 in
set_option maxRecDepth 100000 in
theorem impl_isRoute.calls (k : Nat) (a0 : ByteArray) (r : Bool) (w : World) (h : impl_isRoute.f k a0 = some r) :
  Calls Try.prog 90 #[.string a0] w fun e w' => e = .returned (.bool r) ∧ Below w.heap.size w w' := by
 have HB := Aside0.mk (zbz w.heap.size w)
 have H : ((impl_Unhex.f k a0).bind fun bt186 => (if bt186.2 = true then (some ((a0.size : Int) == 16)) else (some false))) = some r := h
 clear h
 replace H := zaq.mp H
 obtain ⟨⟨t186, t187⟩, A20, H⟩ := H
 try dsimp only at H
 have A2 := Aside0.mk A20
 clear A20
 by_cases c3 : t187 = true
 ·subst c3
  have H1 : (some ((a0.size : Int) == 16)) = some r := by rw [if_pos rfl] at H; exact H
  clear H
  have H := H1
  clear H1
  obtain rfl := Option.some.inj H
  go_enter Try.func90, Try.ntmps90
  go_wp2_with (first | ((with_reducible refine zbl (f := 108) rfl ?_); refine goesL_ (some 7) rfl rfl Try.func108 (by kernel_rfl) rfl #[.string a0] rfl (by (try simp only [zav, zbd, zbh]); first | done | rfl) ?_; (with_reducible refine (impl_Unhex.calls k a0 t186 true _ A2.out).mono ?_); rintro e w4 ⟨v188, rfl, ho0, hb⟩; refine ⟨_, rfl, ?_⟩; have xb_ := below_ofs (by repeat (first | (with_reducible first | exact HB.out | apply zad | apply zaa | apply zac) | exact HB.out)) hb; have n0_ := Aside0.mk (zca ho0 (zan xb_)); have n1_ := Aside0.mk (zat xb_ hb); clear HB; have HO189 := n0_; have HB := n1_; clear n0_ n1_; clear xb_ hb ho0))
  go_ret
  exact ⟨by first | rfl | (simp [zaz, zba] <;> rfl) | (simp [*, zaz, zba] <;> rfl), by repeat (first | (with_reducible first | exact HB.out | apply zad | apply zaa | apply zac) | exact HB.out)⟩
 ·replace c3 := zcn.mpr c3
  subst c3
  have H1 : (some false) = some r := by rw [if_neg (show ¬ (false = true) by decide)] at H; exact H
  clear H
  have H := H1
  clear H1
  obtain rfl := Option.some.inj H
  go_enter Try.func90, Try.ntmps90
  go_wp2_with (first | ((with_reducible refine zbl (f := 108) rfl ?_); refine goesL_ (some 7) rfl rfl Try.func108 (by kernel_rfl) rfl #[.string a0] rfl (by (try simp only [zav, zbd, zbh]); first | done | rfl) ?_; (with_reducible refine (impl_Unhex.calls k a0 t186 false _ A2.out).mono ?_); rintro e w5 ⟨v188, rfl, ho0, hb⟩; refine ⟨_, rfl, ?_⟩; have xb_ := below_ofs (by repeat (first | (with_reducible first | exact HB.out | apply zad | apply zaa | apply zac) | exact HB.out)) hb; have n0_ := Aside0.mk (zca ho0 (zan xb_)); have n1_ := Aside0.mk (zat xb_ hb); clear HB; have HO189 := n0_; have HB := n1_; clear n0_ n1_; clear xb_ hb ho0))
  go_ret
  exact ⟨by first | rfl | (simp [zaz, zba] <;> rfl) | (simp [*, zaz, zba] <;> rfl), by repeat (first | (with_reducible first | exact HB.out | apply zad | apply zaa | apply zac) | exact HB.out)⟩
end Go.Proofs.Ytlalkldjpniakaa.P
