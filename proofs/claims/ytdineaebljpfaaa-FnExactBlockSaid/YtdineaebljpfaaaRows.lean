/-
  No cell of these rows narrows 'for every input' (looked for: loops, veiled, ifaces, maps, wideKeys, modest, calm, conditions, laid).
  DERIVED. THE GIVEN ROWS OF THIS SEAT. 6 by the template 'for every input the law returns true; each argument reads behind the call as it read before'; 0 by the template 'total and deterministic' (their statements: YtdineaebljpfaaaTotals.lean).
  GIVEN WITH THE SEED: the statements are not yours to turn. If you find one false, say at which input.
  Laid BY PROGRAM, IN A SANDBOX (cutbox-rows.mjs): the forced cells as the released guide's own fill.sh prints them over the translation 81f137c75b7f3f21… (all of the seat's roots in one cut). By AI agents, Wed Nov 11 2026. No macro, syntax, notation, axiom, sorry.
-/
import Derived.Test.YtdineaebljpfaaaChecked
import GoSem.Claim
import GoSem.ClaimJoined
import GoSem.ClaimMapViews
import Derived.JoinedTies
import Derived.KernelRfl
namespace Go.Proofs.Ytdineaebljpfaaa
/- THE CELL 'sum', in the pinned program and in every row, IS THE sha256 OF THE DUMP (.gsa) THAT YtdineaebljpfaaaProg.lean LOADS. Nothing in Lean hashes anything: it is a label: what it is worth is what the hold of that sum in a sandbox is worth. -/
noncomputable def Try.pinned : Pinned := { name := "ytdineaebljpfaaa", sum := "81f137c75b7f3f21fc4f96bf3d9a33a4488622f5d19c0ab8f5d0807f2f9afc56", checked := Try.checked }
namespace Rows
def none {H : Type} : Left H := { results := [], args := [] }

/-- 'laws.FnExactLetterOf': WHATEVER THE INPUT: true; the input reads as it did. -/
def fnExactLetterOfSpec : ChangeSpec := { name := "fnExactLetterOf", fn := fun _ => fun
  | [d] => { results := [.lit (.bool true)], args := [d] }
  | _ => none }
def fnExactLetterOfRow : OpenClaim := { program := "ytdineaebljpfaaa", sum := "81f137c75b7f3f21fc4f96bf3d9a33a4488622f5d19c0ab8f5d0807f2f9afc56", func := "loop.example/g00473/laws.FnExactLetterOf", spec := "fnExactLetterOf", inPlace := ["internal/bytealg.MakeNoZero"], apart := false }
def FnExactLetterOfSaid : Prop := fnExactLetterOfRow.holds Try.pinned (OpenSpec.ofChange fnExactLetterOfSpec)

/-- ITS FALSE NEIGHBOUR: 'it returns false'. Refute it at one input. -/
def fnExactLetterOfWrong : ChangeSpec := { name := "fnExactLetterOf", fn := fun _ => fun
  | [d] => { results := [.lit (.bool false)], args := [d] }
  | _ => none }
def FnExactLetterOfWrongFalsely : Prop := fnExactLetterOfRow.holds Try.pinned (OpenSpec.ofChange fnExactLetterOfWrong)

/-- 'laws.FnExactQuarter': WHATEVER THE INPUT: true; the input reads as it did. -/
def fnExactQuarterSpec : ChangeSpec := { name := "fnExactQuarter", fn := fun _ => fun
  | [d1, d2, d3, d4, d5] => { results := [.lit (.bool true)], args := [d1, d2, d3, d4, d5] }
  | _ => none }
def fnExactQuarterRow : OpenClaim := { program := "ytdineaebljpfaaa", sum := "81f137c75b7f3f21fc4f96bf3d9a33a4488622f5d19c0ab8f5d0807f2f9afc56", func := "loop.example/g00473/laws.FnExactQuarter", spec := "fnExactQuarter", apart := false }
def FnExactQuarterSaid : Prop := fnExactQuarterRow.holds Try.pinned (OpenSpec.ofChange fnExactQuarterSpec)

/-- ITS FALSE NEIGHBOUR: 'it returns false'. Refute it at one input. -/
def fnExactQuarterWrong : ChangeSpec := { name := "fnExactQuarter", fn := fun _ => fun
  | [d1, d2, d3, d4, d5] => { results := [.lit (.bool false)], args := [d1, d2, d3, d4, d5] }
  | _ => none }
def FnExactQuarterWrongFalsely : Prop := fnExactQuarterRow.holds Try.pinned (OpenSpec.ofChange fnExactQuarterWrong)

/-- 'laws.FnExactBlock': WHATEVER THE INPUT: true; the input reads as it did. -/
def fnExactBlockSpec : ChangeSpec := { name := "fnExactBlock", fn := fun _ => fun
  | [d1, d2, d3] => { results := [.lit (.bool true)], args := [d1, d2, d3] }
  | _ => none }
def fnExactBlockRow : OpenClaim := { program := "ytdineaebljpfaaa", sum := "81f137c75b7f3f21fc4f96bf3d9a33a4488622f5d19c0ab8f5d0807f2f9afc56", func := "loop.example/g00473/laws.FnExactBlock", spec := "fnExactBlock", apart := false }
def FnExactBlockSaid : Prop := fnExactBlockRow.holds Try.pinned (OpenSpec.ofChange fnExactBlockSpec)

/-- ITS FALSE NEIGHBOUR: 'it returns false'. Refute it at one input. -/
def fnExactBlockWrong : ChangeSpec := { name := "fnExactBlock", fn := fun _ => fun
  | [d1, d2, d3] => { results := [.lit (.bool false)], args := [d1, d2, d3] }
  | _ => none }
def FnExactBlockWrongFalsely : Prop := fnExactBlockRow.holds Try.pinned (OpenSpec.ofChange fnExactBlockWrong)

/-- 'laws.FnExactStream': WHATEVER THE INPUT: true; the input reads as it did. -/
def fnExactStreamSpec : ChangeSpec := { name := "fnExactStream", fn := fun _ => fun
  | [d1, d2, d3, d4] => { results := [.lit (.bool true)], args := [d1, d2, d3, d4] }
  | _ => none }
def fnExactStreamRow : OpenClaim := { program := "ytdineaebljpfaaa", sum := "81f137c75b7f3f21fc4f96bf3d9a33a4488622f5d19c0ab8f5d0807f2f9afc56", func := "loop.example/g00473/laws.FnExactStream", spec := "fnExactStream", apart := false }
def FnExactStreamSaid : Prop := fnExactStreamRow.holds Try.pinned (OpenSpec.ofChange fnExactStreamSpec)

/-- ITS FALSE NEIGHBOUR: 'it returns false'. Refute it at one input. -/
def fnExactStreamWrong : ChangeSpec := { name := "fnExactStream", fn := fun _ => fun
  | [d1, d2, d3, d4] => { results := [.lit (.bool false)], args := [d1, d2, d3, d4] }
  | _ => none }
def FnExactStreamWrongFalsely : Prop := fnExactStreamRow.holds Try.pinned (OpenSpec.ofChange fnExactStreamWrong)

/-- 'laws.FnBlocks': WHATEVER THE INPUT: true; the input reads as it did. -/
def fnBlocksSpec : ChangeSpec := { name := "fnBlocks", fn := fun _ => fun
  | [d] => { results := [.lit (.bool true)], args := [d] }
  | _ => none }
def fnBlocksRow : OpenClaim := { program := "ytdineaebljpfaaa", sum := "81f137c75b7f3f21fc4f96bf3d9a33a4488622f5d19c0ab8f5d0807f2f9afc56", func := "loop.example/g00473/laws.FnBlocks", spec := "fnBlocks", apart := false }
def FnBlocksSaid : Prop := fnBlocksRow.holds Try.pinned (OpenSpec.ofChange fnBlocksSpec)

/-- ITS FALSE NEIGHBOUR: 'it returns false'. Refute it at one input. -/
def fnBlocksWrong : ChangeSpec := { name := "fnBlocks", fn := fun _ => fun
  | [d] => { results := [.lit (.bool false)], args := [d] }
  | _ => none }
def FnBlocksWrongFalsely : Prop := fnBlocksRow.holds Try.pinned (OpenSpec.ofChange fnBlocksWrong)

/-- 'laws.FnStreams': WHATEVER THE INPUT: true; the input reads as it did. -/
def fnStreamsSpec : ChangeSpec := { name := "fnStreams", fn := fun _ => fun
  | [d] => { results := [.lit (.bool true)], args := [d] }
  | _ => none }
def fnStreamsRow : OpenClaim := { program := "ytdineaebljpfaaa", sum := "81f137c75b7f3f21fc4f96bf3d9a33a4488622f5d19c0ab8f5d0807f2f9afc56", func := "loop.example/g00473/laws.FnStreams", spec := "fnStreams", apart := false }
def FnStreamsSaid : Prop := fnStreamsRow.holds Try.pinned (OpenSpec.ofChange fnStreamsSpec)

/-- ITS FALSE NEIGHBOUR: 'it returns false'. Refute it at one input. -/
def fnStreamsWrong : ChangeSpec := { name := "fnStreams", fn := fun _ => fun
  | [d] => { results := [.lit (.bool false)], args := [d] }
  | _ => none }
def FnStreamsWrongFalsely : Prop := fnStreamsRow.holds Try.pinned (OpenSpec.ofChange fnStreamsWrong)

/- THE SECOND FORM. 'bulk': how many values and letters a reading holds, each counted each time it is reached (what is shared counts as often as it is met; a slice's spare places count too). A statement '..UptoSaid' is the law's where the arguments, and the package variables that the reading takes, are together of bulk at most 1048576: NARROWER than '..Said'. Prove '..Said' where nothing that the law and all that it calls make is longer than what came in: it says more and counts as full. Else prove '..UptoSaid'. A law counts once. -/
mutual
def uptoBulk {H : Type} : DataW H → Nat
  | .lit (.string bytes) => bytes.length + 1
  | .lit _ => 1
  | .nil => 1
  | .ptr d => uptoBulk d + 1
  | .slice elems spare => uptoBulkAll elems + uptoBulkAll spare + 1
  | .agg parts => uptoBulkAll parts + 1
  | .iface _ d => uptoBulk d + 1
  | .map entries => uptoBulkEntries entries + 1
  | .held _ => 1
def uptoBulkAll {H : Type} : List (DataW H) → Nat
  | [] => 0
  | d :: r => uptoBulk d + uptoBulkAll r
def uptoBulkEntries {H : Type} : List (Lit × DataW H) → Nat
  | [] => 0
  | x :: r => uptoBulkEntry x + uptoBulkEntries r
def uptoBulkEntry {H : Type} : Lit × DataW H → Nat
  | (.string bytes, d) => bytes.length + uptoBulk d + 1
  | (_, d) => uptoBulk d + 1
 end
def uptoSmall : (H : Type) → List (DataW H) → Bool := fun _ ds => decide (uptoBulkAll ds ≤ 1048576)
def OpenSpec.upto (s : _root_.Go.ChangeSpec) : _root_.Go.OpenSpec := { _root_.Go.OpenSpec.ofChange s with cond := some uptoSmall }

/-- 'laws.FnExactLetterOf', WHERE WHAT IT READS IS OF BULK AT MOST 1048576: true; the input reads as it did. -/
def fnExactLetterOfUptoRow : OpenClaim := { program := "ytdineaebljpfaaa", sum := "81f137c75b7f3f21fc4f96bf3d9a33a4488622f5d19c0ab8f5d0807f2f9afc56", func := "loop.example/g00473/laws.FnExactLetterOf", spec := "fnExactLetterOf", inPlace := ["internal/bytealg.MakeNoZero"], apart := false, narrowed := true }
def FnExactLetterOfUptoSaid : Prop := fnExactLetterOfUptoRow.holds Try.pinned (OpenSpec.upto fnExactLetterOfSpec)

/-- 'laws.FnExactQuarter', WHERE WHAT IT READS IS OF BULK AT MOST 1048576: true; the input reads as it did. -/
def fnExactQuarterUptoRow : OpenClaim := { program := "ytdineaebljpfaaa", sum := "81f137c75b7f3f21fc4f96bf3d9a33a4488622f5d19c0ab8f5d0807f2f9afc56", func := "loop.example/g00473/laws.FnExactQuarter", spec := "fnExactQuarter", apart := false, narrowed := true }
def FnExactQuarterUptoSaid : Prop := fnExactQuarterUptoRow.holds Try.pinned (OpenSpec.upto fnExactQuarterSpec)

/-- 'laws.FnExactBlock', WHERE WHAT IT READS IS OF BULK AT MOST 1048576: true; the input reads as it did. -/
def fnExactBlockUptoRow : OpenClaim := { program := "ytdineaebljpfaaa", sum := "81f137c75b7f3f21fc4f96bf3d9a33a4488622f5d19c0ab8f5d0807f2f9afc56", func := "loop.example/g00473/laws.FnExactBlock", spec := "fnExactBlock", apart := false, narrowed := true }
def FnExactBlockUptoSaid : Prop := fnExactBlockUptoRow.holds Try.pinned (OpenSpec.upto fnExactBlockSpec)

/-- 'laws.FnExactStream', WHERE WHAT IT READS IS OF BULK AT MOST 1048576: true; the input reads as it did. -/
def fnExactStreamUptoRow : OpenClaim := { program := "ytdineaebljpfaaa", sum := "81f137c75b7f3f21fc4f96bf3d9a33a4488622f5d19c0ab8f5d0807f2f9afc56", func := "loop.example/g00473/laws.FnExactStream", spec := "fnExactStream", apart := false, narrowed := true }
def FnExactStreamUptoSaid : Prop := fnExactStreamUptoRow.holds Try.pinned (OpenSpec.upto fnExactStreamSpec)

/-- 'laws.FnBlocks', WHERE WHAT IT READS IS OF BULK AT MOST 1048576: true; the input reads as it did. -/
def fnBlocksUptoRow : OpenClaim := { program := "ytdineaebljpfaaa", sum := "81f137c75b7f3f21fc4f96bf3d9a33a4488622f5d19c0ab8f5d0807f2f9afc56", func := "loop.example/g00473/laws.FnBlocks", spec := "fnBlocks", apart := false, narrowed := true }
def FnBlocksUptoSaid : Prop := fnBlocksUptoRow.holds Try.pinned (OpenSpec.upto fnBlocksSpec)

/-- 'laws.FnStreams', WHERE WHAT IT READS IS OF BULK AT MOST 1048576: true; the input reads as it did. -/
def fnStreamsUptoRow : OpenClaim := { program := "ytdineaebljpfaaa", sum := "81f137c75b7f3f21fc4f96bf3d9a33a4488622f5d19c0ab8f5d0807f2f9afc56", func := "loop.example/g00473/laws.FnStreams", spec := "fnStreams", apart := false, narrowed := true }
def FnStreamsUptoSaid : Prop := fnStreamsUptoRow.holds Try.pinned (OpenSpec.upto fnStreamsSpec)

end Rows
end Go.Proofs.Ytdineaebljpfaaa
