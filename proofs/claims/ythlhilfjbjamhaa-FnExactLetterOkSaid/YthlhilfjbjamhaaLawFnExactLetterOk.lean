-- Written by a program of this session (wip/drive.py) over the kit's print.
import Derived.Test.YthlhilfjbjamhaaRows
import Derived.Test.YthlhilfjbjamhaaStmFnExactLetterOk
import Derived.Test.YthlhilfjbjamhaaPureFnExactLetterOk
import Derived.WalkKit
import Derived.ProofKit
import Derived.OpenShut
import Derived.ShutString
import Derived.ChangeOld
import Derived.Below
import Derived.SizedLaws
namespace Go.Proofs.Ythlhilfjbjamhaa.fnExactLetterOk
open Go.ChangeShapes Go.WideShapes Go.ChangeAt Go.RowKit Go.Proofs.YthlhilfjbjamhaaW.PrintWords Go.Proofs.Ythlhilfjbjamhaa.P
open Go.ChangeMaps (open_string shut_string)
set_option linter.unusedVariables false
theorem own : ownKnob Try.prog.godebug = none := by kernel_rfl
theorem laidOut : laidOutB Try.prog = true := by kernel_rfl
theorem opens_T40 {W : World} : Opens Try.prog W 40 k40 good40 := by
  intro H enc base spare held fuel cs x h
  obtain ⟨hl, n, hf⟩ := opens_fields Try.underlying40 (by kernel_rfl) (by intro i f h; rcases i with _ | _ | _ | i; (repeat' (first | (cases h; exact ⟨rfl, by kernel_rfl⟩))); simp at h) h
  obtain ⟨u0, y0, c0, h0⟩ := hf 0 _ rfl
  obtain ⟨x0, k0_, g0⟩ := (opens_int Try.underlying3) H enc base spare held n _ _ h0
  obtain ⟨u1, y1, c1, h1⟩ := hf 1 _ rfl
  obtain ⟨x1, k1_, g1⟩ := (opens_slice 5 Try.underlying27 (by kernel_rfl) (opens_int Try.underlying5)) H enc base spare held n _ _ h1
  obtain ⟨u2, y2, c2, h2⟩ := hf 2 _ rfl
  obtain ⟨x2, k2_, g2⟩ := (opens_slice 5 Try.underlying27 (by kernel_rfl) (opens_int Try.underlying5)) H enc base spare held n _ _ h2
  have hl3 : cs.length = 3 := hl
  obtain rfl : cs = [u0, u1, u2] := by
    match cs, hl3 with
    | [z0, z1, z2], _ => simp_all
  exact ⟨⟨x0, x1, x2⟩, ⟨[u0], [u1, u2], rfl, k0_, ⟨[u1], [u2], rfl, k1_, k2_⟩⟩, ⟨g0, g1, g2⟩⟩
set_option maxRecDepth 100000 in
theorem lifted (os : Os) (started : os.Started) (H : Type) (enc : TypeId × Value → H) :
    ReturnsInHanded {} Try.checked os 13 .any (Rows.fnExactLetterOkSpec.pre6 enc Try.prog Try.f13 Rows.fnExactLetterOkRow.domain false) (Rows.fnExactLetterOkSpec.post enc Try.prog Try.f13 false true false false) := by
  refine returnsInHanded_of_change_sized (C := Try.checked) own started (by kernel_rfl) Try.func13
    (ChangeSpec.witness6 (enc := enc) (C := Try.checked) false ⟨#[], #[.agg #[.int .i64 0, .slice none 0 0, .slice none 0 0]], []⟩ 8 (by kernel_rfl) (by kernel_rfl) (by kernel_rfl) (by kernel_rfl)) ?_
  intro W base args ds gs before hval0 hW hcnd hsz0 _
  have hval : ∀ (j : Nat) t v, Try.f13.params[j]? = some t → args[j]? = some v → Value.okWide Try.prog W .any base t v := hval0
  have hW' := hW
  obtain ⟨p, q, hA0, hV, rfl, hfz, hnd⟩ := hW
  have hA : DataW.TrodAll enc Try.prog W 0 (fun _ => true) true Try.f13.params.toList args.toList ds p := hA0
  rw [Try.params13] at hA hval
  obtain ⟨v0, vs0, d0, ds0, p0, q0, hargs, rfl, rfl, h0, r0⟩ := trodAll_cons hA
  obtain ⟨rfl, rfl, rfl⟩ := trodAll_nil r0
  obtain rfl : args = #[v0] := by cases args; simp_all
  obtain ⟨rfl, rfl⟩ := trodVars_none hV
  have k0 := h0
  have lt0 : ∀ x ∈ p0, x.block < W.heap.size := by obtain ⟨m, hm⟩ := k0; exact DataW.trod_lt m _ _ _ hm
  obtain ⟨cs0, rfl, hz0⟩ := okWide_struct Try.underlying40 (hval 0 40 v0 rfl rfl)
  obtain ⟨f0_, hf0⟩ := h0
  obtain ⟨x0, hK0, hg0⟩ := (opens_T40) H enc _ _ _ _ _ _ hf0
  obtain ⟨A0_1, c0_1, A0_2, c0_2, he0, l0_1, g0_1, l0_2, g0_2⟩ := k40_open hK0
  obtain rfl : cs0 = #[.int .i64 x0.f0, .slice A0_1 x0.f1.length c0_1, .slice A0_2 x0.f2.length c0_2] := by cases cs0; simpa [Value.cells] using he0
  obtain ⟨w0_0, w0_1, w0_2⟩ := hg0
  clear hA0 hval0 hsz0
  obtain ⟨k, hP⟩ := Pure.FnExactLetterOk x0.f0 x0.f1 x0.f2 w0_0 w0_1 w0_2
  refine (laws_FnExactLetterOk.calls (h := hP) (w := W) (hr0_1 := g0_1) (hc0_1 := l0_1) (hr0_2 := g0_2) (hc0_2 := l0_2)).mono fun e W' ⟨he, bel0⟩ => ?_
  have bel : Below W.heap.size W W' := bel0
  subst he
  exact ⟨_, rfl, _, _, _, [], _, [], hW', trodAll_mk1 (shut_bool Try.underlying4 _), (trodAll_cons_mk (Below.trod laidOut (by kernel_rfl) (of_decide_eq_true (by kernel_rfl)) k0 bel lt0) trodAll_mk0), rfl, bel.frame _, fun h => by cases h⟩
theorem over : Rows.fnExactLetterOkRow.holds Try.pinned (OpenSpec.ofChange Rows.fnExactLetterOkSpec) :=
  OpenClaim.holds_of_wide 13 Try.f13 rfl rfl rfl rfl rfl rfl rfl ⟨rfl, rfl, rfl, rfl, rfl⟩ rfl rfl rfl rfl rfl (by kernel_rfl) Try.func13 (by kernel_rfl)
    (of_decide_eq_true (by kernel_rfl)) (by unfold Func.isWrapper; first | (rw [if_pos (by decide +kernel)]; kernel_rfl) | (rw [if_neg (by decide +kernel)]; exact ⟨rfl, rfl⟩))
    (fun os started H enc _ => lifted os started H enc)
theorem proved : Rows.FnExactLetterOkSaid := over
end Go.Proofs.Ythlhilfjbjamhaa.fnExactLetterOk
namespace Go.Proofs.Ythlhilfjbjamhaa
/-- The row, under a short name, for the claim. -/
theorem fnExactLetterOk_holds : Rows.FnExactLetterOkSaid := fnExactLetterOk.proved
end Go.Proofs.Ythlhilfjbjamhaa
