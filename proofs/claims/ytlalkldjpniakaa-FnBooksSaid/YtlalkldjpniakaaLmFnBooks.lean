import Derived.Test.YtlalkldjpniakaaRows
import Derived.Test.YtlalkldjpniakaabkPFnBooks
import Derived.ProofKit
import Derived.OpenShut
import Derived.ShutString
import Derived.ChangeOld
import Derived.SizedLaws
-- Written by a program of this session (wip/drive.py) over the kit's print.
namespace Go.Proofs.Ytlalkldjpniakaa.fnBooks
open Go.ChangeShapes Go.WideShapes Go.ChangeAt Go.RowKit Go.Proofs.YtlalkldjpniakaaW.PrintWords Go.Proofs.Ytlalkldjpniakaa.P
open Go.ChangeMaps (open_string shut_string)
set_option linter.unusedVariables false
theorem own:ownKnob Try.prog.godebug=none:=by kernel_rfl
theorem laidOut:laidOutB Try.prog=true:=by kernel_rfl
set_option maxRecDepth 100000 in
theorem lifted (os:Os) (started:os.Started) (H:Type) (enc:TypeId×Value→H):
    ReturnsInHanded {} Try.checked os 15 .any (Rows.fnBooksSpec.pre6 enc Try.prog Try.f15 Rows.fnBooksRow.domain false) (Rows.fnBooksSpec.post enc Try.prog Try.f15 false true false false):=by
  refine returnsInHanded_of_change_sized (C:=Try.checked) own started (by kernel_rfl) Try.func15
    (ChangeSpec.witness6 (enc:=enc) (C:=Try.checked) false ⟨#[], #[.slice none 0 0],[]⟩ 8 (by kernel_rfl) (by kernel_rfl) (by kernel_rfl) (by kernel_rfl)) ?_
  intro W base args ds gs before hval0 hW hcnd hsz0 _
  have hval:∀ (j:Nat) t v,Try.f15.params[j]? =some t→args[j]? =some v→Value.okWide Try.prog W .any base t v:=hval0
  have hW':=hW
  obtain⟨p,q,hA0,hV,rfl,hfz,hnd⟩:=hW
  have hA:DataW.TrodAll enc Try.prog W 0 (fun _=>true) true Try.f15.params.toList args.toList ds p:=hA0
  rw[Try.params15] at hA hval
  obtain⟨v0,vs0,d0,ds0,p0,q0,hargs,rfl,rfl,h0,r0⟩:=trodAll_cons hA
  obtain⟨rfl,rfl,rfl⟩:=trodAll_nil r0
  obtain rfl:args= #[v0]:=by cases args;simp_all
  obtain⟨rfl,rfl⟩:=trodVars_none hV
  have k0:=h0
  have lt0:∀ x∈p0,x.block<W.heap.size:=by obtain⟨m,hm⟩:=k0;exact DataW.trod_lt m _ _ _ hm
  obtain⟨a0_,len0,cap0,rfl⟩:=okWide_slice Try.underlying29 (hval 0 29 v0 rfl rfl)
  obtain⟨f0_,hf0⟩:=h0
  obtain⟨x0,hK0,hg0⟩:=(opens_slice 5 Try.underlying29 (by kernel_rfl) (opens_int Try.underlying5)) H enc _ _ _ _ _ _ hf0
  obtain⟨A0,c0,he0,l0,g0⟩:=hK0
  have hv0:Value.slice a0_ len0 cap0= .slice A0 x0.length c0:=by simpa [Value.cells] using he0
  cases hv0
  clear hA0 hval0 hsz0
  obtain⟨k,hP⟩:=Pure.FnBooks x0 hg0
  refine(laws_FnBooks.calls (h:=hP) (w:=W) (hr0:=g0) (hc0:=l0)).mono fun e W' ⟨he,bel0⟩=>?_
  have bel:Below W.heap.size W W':=bel0
  subst he
  exact⟨_,rfl,_,_,_,[],_,[],hW',trodAll_mk1 (shut_bool Try.underlying4 _),(trodAll_cons_mk (Below.trod laidOut (by kernel_rfl) (of_decide_eq_true (by kernel_rfl)) k0 bel lt0) trodAll_mk0),rfl,bel.frame _,fun h=>by cases h⟩
theorem over:Rows.fnBooksRow.holds Try.pinned (OpenSpec.ofChange Rows.fnBooksSpec):=
  OpenClaim.holds_of_wide 15 Try.f15 rfl rfl rfl rfl rfl rfl rfl ⟨rfl,rfl,rfl,rfl,rfl⟩ rfl rfl rfl rfl rfl (by kernel_rfl) Try.func15 (by kernel_rfl)
    (of_decide_eq_true (by kernel_rfl)) (by unfold Func.isWrapper;first | (rw[if_pos (by decide+kernel)];kernel_rfl) | (rw[if_neg (by decide+kernel)];exact⟨rfl,rfl⟩))
    (fun os started H enc _=>lifted os started H enc)
theorem proved:Rows.FnBooksSaid:=over
end Go.Proofs.Ytlalkldjpniakaa.fnBooks
namespace Go.Proofs.Ytlalkldjpniakaa
/-- The row, under a short name, for the claim. -/
theorem fnBooks_holds:Rows.FnBooksSaid:=fnBooks.proved
end Go.Proofs.Ytlalkldjpniakaa
