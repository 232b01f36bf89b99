import Derived.Test.YtlalkldjpniakaaRows
import Derived.Test.YtlalkldjpniakaaqmPFnExactPostOk
import Derived.ProofKit
import Derived.OpenShut
import Derived.ShutString
import Derived.ChangeOld
import Derived.SizedLaws
-- Written by a program of this session (wip/drive.py) over the kit's print.
namespace Go.Proofs.Ytlalkldjpniakaa.fnExactPostOk
open Go.ChangeShapes Go.WideShapes Go.ChangeAt Go.RowKit Go.Proofs.YtlalkldjpniakaaW.PrintWords Go.Proofs.Ytlalkldjpniakaa.P
open Go.ChangeMaps (open_string shut_string)
set_option linter.unusedVariables false
theorem own : ownKnob Try.prog.godebug = none := by kernel_rfl
theorem laidOut : laidOutB Try.prog = true := by kernel_rfl
theorem opens_T31 {W : World} : Opens Try.prog W 31 k31 good31 := by
  intro H enc base spare held fuel cs x h
  obtain ⟨hl, n, hf⟩ := opens_fields Try.underlying31 (by kernel_rfl) (by intro i f h; rcases i with _ | _ | _ | _ | i; (repeat' (first | (cases h; exact ⟨rfl, by kernel_rfl⟩))); simp at h) h
  obtain ⟨u0, y0, c0, h0⟩ := hf 0 _ rfl
  obtain ⟨x0, k0_, g0⟩ := (opens_string Try.underlying9) H enc base spare held n _ _ h0
  obtain ⟨u1, y1, c1, h1⟩ := hf 1 _ rfl
  obtain ⟨x1, k1_, g1⟩ := (opens_int Try.underlying3) H enc base spare held n _ _ h1
  obtain ⟨u2, y2, c2, h2⟩ := hf 2 _ rfl
  obtain ⟨x2, k2_, g2⟩ := (opens_int Try.underlying3) H enc base spare held n _ _ h2
  obtain ⟨u3, y3, c3, h3⟩ := hf 3 _ rfl
  obtain ⟨x3, k3_, g3⟩ := (opens_slice 5 Try.underlying29 (by kernel_rfl) (opens_int Try.underlying5)) H enc base spare held n _ _ h3
  have hl4 : cs.length = 4 := hl
  obtain rfl : cs = [u0, u1, u2, u3] := by
    match cs, hl4 with
    | [z0, z1, z2, z3], _ => simp_all
  exact ⟨⟨x0, x1, x2, x3⟩, ⟨[u0], [u1, u2, u3], rfl, k0_, ⟨[u1], [u2, u3], rfl, k1_, ⟨[u2], [u3], rfl, k2_, k3_⟩⟩⟩, ⟨g0, g1, g2, g3⟩⟩
theorem opens_T86 {W : World} : Opens Try.prog W 86 k86 good86 := by
  intro H enc base spare held fuel cs x h
  obtain ⟨hl, n, hf⟩ := opens_fields Try.underlying86 (by kernel_rfl) (by intro i f h; rcases i with _ | _ | _ | _ | i; (repeat' (first | (cases h; exact ⟨rfl, by kernel_rfl⟩))); simp at h) h
  obtain ⟨u0, y0, c0, h0⟩ := hf 0 _ rfl
  obtain ⟨x0, k0_, g0⟩ := (opens_slice 31 Try.underlying22 (by kernel_rfl) (opens_T31)) H enc base spare held n _ _ h0
  obtain ⟨u1, y1, c1, h1⟩ := hf 1 _ rfl
  obtain ⟨x1, k1_, g1⟩ := (opens_int Try.underlying3) H enc base spare held n _ _ h1
  obtain ⟨u2, y2, c2, h2⟩ := hf 2 _ rfl
  obtain ⟨x2, k2_, g2⟩ := (opens_slice 5 Try.underlying29 (by kernel_rfl) (opens_int Try.underlying5)) H enc base spare held n _ _ h2
  obtain ⟨u3, y3, c3, h3⟩ := hf 3 _ rfl
  obtain ⟨x3, k3_, g3⟩ := (opens_int Try.underlying3) H enc base spare held n _ _ h3
  have hl4 : cs.length = 4 := hl
  obtain rfl : cs = [u0, u1, u2, u3] := by
    match cs, hl4 with
    | [z0, z1, z2, z3], _ => simp_all
  exact ⟨⟨x0, x1, x2, x3⟩, ⟨[u0], [u1, u2, u3], rfl, k0_, ⟨[u1], [u2, u3], rfl, k1_, ⟨[u2], [u3], rfl, k2_, k3_⟩⟩⟩, ⟨g0, g1, g2, g3⟩⟩
set_option maxRecDepth 100000 in
theorem lifted (os : Os) (started : os.Started) (H : Type) (enc : TypeId × Value → H) :
    ReturnsInHanded {} Try.checked os 16 .any (Rows.fnExactPostOkSpec.pre6 enc Try.prog Try.f16 Rows.fnExactPostOkRow.domain false) (Rows.fnExactPostOkSpec.post enc Try.prog Try.f16 false true false false) := by
  refine returnsInHanded_of_change_sized (C := Try.checked) own started (by kernel_rfl) Try.func16
    (ChangeSpec.witness6 (enc := enc) (C := Try.checked) false ⟨#[], #[.agg #[.slice none 0 0, .int .i64 0, .slice none 0 0, .int .i64 0]], []⟩ 8 (by kernel_rfl) (by kernel_rfl) (by kernel_rfl) (by kernel_rfl)) ?_
  intro W base args ds gs before hval0 hW hcnd hsz0 _
  have hval : ∀ (j : Nat) t v, Try.f16.params[j]? = some t → args[j]? = some v → Value.okWide Try.prog W .any base t v := hval0
  have hW' := hW
  obtain ⟨p, q, hA0, hV, rfl, hfz, hnd⟩ := hW
  have hA : DataW.TrodAll enc Try.prog W 0 (fun _ => true) true Try.f16.params.toList args.toList ds p := hA0
  rw [Try.params16] at hA hval
  obtain ⟨v0, vs0, d0, ds0, p0, q0, hargs, rfl, rfl, h0, r0⟩ := trodAll_cons hA
  obtain ⟨rfl, rfl, rfl⟩ := trodAll_nil r0
  obtain rfl : args = #[v0] := by cases args; simp_all
  obtain ⟨rfl, rfl⟩ := trodVars_none hV
  have k0 := h0
  have lt0 : ∀ x ∈ p0, x.block < W.heap.size := by obtain ⟨m, hm⟩ := k0; exact DataW.trod_lt m _ _ _ hm
  obtain ⟨cs0, rfl, hz0⟩ := okWide_struct Try.underlying86 (hval 0 86 v0 rfl rfl)
  obtain ⟨f0_, hf0⟩ := h0
  obtain ⟨x0, hK0, hg0⟩ := (opens_T86) H enc _ _ _ _ _ _ hf0
  obtain ⟨A0_0, c0_0, A0_2, c0_2, he0, l0_0, g0_0, l0_2, g0_2⟩ := k86_open hK0
  obtain rfl : cs0 = #[.slice A0_0 x0.f0.length c0_0, .int .i64 x0.f1, .slice A0_2 x0.f2.length c0_2, .int .i64 x0.f3] := by cases cs0; simpa [Value.cells] using he0
  obtain ⟨w0_0, w0_1, w0_2, w0_3⟩ := hg0
  clear hA0 hval0 hsz0
  obtain ⟨k, hP⟩ := Pure.FnExactPostOk x0.f0 x0.f1 x0.f2 x0.f3 w0_0 w0_1 w0_2 w0_3
  refine (laws_FnExactPostOk.calls (h := hP) (w := W) (hr0_0 := g0_0) (hc0_0 := l0_0) (hr0_2 := g0_2) (hc0_2 := l0_2)).mono fun e W' ⟨he, bel0⟩ => ?_
  have bel : Below W.heap.size W W' := bel0
  subst he
  exact ⟨_, rfl, _, _, _, [], _, [], hW', trodAll_mk1 (shut_bool Try.underlying4 _), (trodAll_cons_mk (Below.trod laidOut (by kernel_rfl) (of_decide_eq_true (by kernel_rfl)) k0 bel lt0) trodAll_mk0), rfl, bel.frame _, fun h => by cases h⟩
theorem over : Rows.fnExactPostOkRow.holds Try.pinned (OpenSpec.ofChange Rows.fnExactPostOkSpec) :=
  OpenClaim.holds_of_wide 16 Try.f16 rfl rfl rfl rfl rfl rfl rfl ⟨rfl, rfl, rfl, rfl, rfl⟩ rfl rfl rfl rfl rfl (by kernel_rfl) Try.func16 (by kernel_rfl)
    (of_decide_eq_true (by kernel_rfl)) (by unfold Func.isWrapper; first | (rw [if_pos (by decide +kernel)]; kernel_rfl) | (rw [if_neg (by decide +kernel)]; exact ⟨rfl, rfl⟩))
    (fun os started H enc _ => lifted os started H enc)
theorem proved : Rows.FnExactPostOkSaid := over
end Go.Proofs.Ytlalkldjpniakaa.fnExactPostOk
namespace Go.Proofs.Ytlalkldjpniakaa
/-- The row, under a short name, for the claim. -/
theorem fnExactPostOk_holds : Rows.FnExactPostOkSaid := fnExactPostOk.proved
end Go.Proofs.Ytlalkldjpniakaa
