/-
  No cell of these rows narrows 'for every input' (looked for: loops, veiled, ifaces, maps, wideKeys, modest, calm, conditions, laid).
  DERIVED. THE GIVEN ROWS OF THIS SEAT. 12 by the template 'for every input the law returns true; each argument reads behind the call as it read before'; 0 by the template 'total and deterministic' (their statements: YthlhilfjbjamhaaTotals.lean).
  GIVEN WITH THE SEED: the statements are not yours to turn. If you find one false, say at which input.
  Laid BY PROGRAM, IN A SANDBOX (cutbox-rows.mjs): the forced cells as the released guide's own fill.sh prints them over the translation d3abd2d07f18feb1… (all of the seat's roots in one cut). By AI agents, Wed Nov 11 2026. No macro, syntax, notation, axiom, sorry.
-/
import Derived.Test.YthlhilfjbjamhaaChecked
import GoSem.Claim
import GoSem.ClaimJoined
import GoSem.ClaimMapViews
import Derived.JoinedTies
import Derived.KernelRfl
namespace Go.Proofs.Ythlhilfjbjamhaa
/- THE CELL 'sum', in the pinned program and in every row, IS THE sha256 OF THE DUMP (.gsa) THAT YthlhilfjbjamhaaProg.lean LOADS. Nothing in Lean hashes anything: it is a label: what it is worth is what the hold of that sum in a sandbox is worth. -/
noncomputable def Try.pinned : Pinned := { name := "ythlhilfjbjamhaa", sum := "d3abd2d07f18feb1f4586b371e9fef2f0da1f94e2969e02600fb4ecc4c4153e1", checked := Try.checked }
namespace Rows
def none {H : Type} : Left H := { results := [], args := [] }

/-- 'laws.FnExactConstants': WHATEVER THE INPUT: true; the input reads as it did. -/
def fnExactConstantsSpec : ChangeSpec := { name := "fnExactConstants", fn := fun _ => fun
  | [] => { results := [.lit (.bool true)], args := [] }
  | _ => none }
def fnExactConstantsRow : OpenClaim := { program := "ythlhilfjbjamhaa", sum := "d3abd2d07f18feb1f4586b371e9fef2f0da1f94e2969e02600fb4ecc4c4153e1", func := "loop.example/g00473/laws.FnExactConstants", spec := "fnExactConstants", apart := false }
def FnExactConstantsSaid : Prop := fnExactConstantsRow.holds Try.pinned (OpenSpec.ofChange fnExactConstantsSpec)

/-- ITS FALSE NEIGHBOUR: 'it returns false'. Refute it at one input. -/
def fnExactConstantsWrong : ChangeSpec := { name := "fnExactConstants", fn := fun _ => fun
  | [] => { results := [.lit (.bool false)], args := [] }
  | _ => none }
def FnExactConstantsWrongFalsely : Prop := fnExactConstantsRow.holds Try.pinned (OpenSpec.ofChange fnExactConstantsWrong)

/-- 'laws.FnExactWord': WHATEVER THE INPUT: true; the input reads as it did. -/
def fnExactWordSpec : ChangeSpec := { name := "fnExactWord", fn := fun _ => fun
  | [d] => { results := [.lit (.bool true)], args := [d] }
  | _ => none }
def fnExactWordRow : OpenClaim := { program := "ythlhilfjbjamhaa", sum := "d3abd2d07f18feb1f4586b371e9fef2f0da1f94e2969e02600fb4ecc4c4153e1", func := "loop.example/g00473/laws.FnExactWord", spec := "fnExactWord", apart := false }
def FnExactWordSaid : Prop := fnExactWordRow.holds Try.pinned (OpenSpec.ofChange fnExactWordSpec)

/-- ITS FALSE NEIGHBOUR: 'it returns false'. Refute it at one input. -/
def fnExactWordWrong : ChangeSpec := { name := "fnExactWord", fn := fun _ => fun
  | [d] => { results := [.lit (.bool false)], args := [d] }
  | _ => none }
def FnExactWordWrongFalsely : Prop := fnExactWordRow.holds Try.pinned (OpenSpec.ofChange fnExactWordWrong)

/-- 'laws.FnExactCurrent': WHATEVER THE INPUT: true; the input reads as it did. -/
def fnExactCurrentSpec : ChangeSpec := { name := "fnExactCurrent", fn := fun _ => fun
  | [d1, d2] => { results := [.lit (.bool true)], args := [d1, d2] }
  | _ => none }
def fnExactCurrentRow : OpenClaim := { program := "ythlhilfjbjamhaa", sum := "d3abd2d07f18feb1f4586b371e9fef2f0da1f94e2969e02600fb4ecc4c4153e1", func := "loop.example/g00473/laws.FnExactCurrent", spec := "fnExactCurrent", apart := false }
def FnExactCurrentSaid : Prop := fnExactCurrentRow.holds Try.pinned (OpenSpec.ofChange fnExactCurrentSpec)

/-- ITS FALSE NEIGHBOUR: 'it returns false'. Refute it at one input. -/
def fnExactCurrentWrong : ChangeSpec := { name := "fnExactCurrent", fn := fun _ => fun
  | [d1, d2] => { results := [.lit (.bool false)], args := [d1, d2] }
  | _ => none }
def FnExactCurrentWrongFalsely : Prop := fnExactCurrentRow.holds Try.pinned (OpenSpec.ofChange fnExactCurrentWrong)

/-- 'laws.FnExactTurn': WHATEVER THE INPUT: true; the input reads as it did. -/
def fnExactTurnSpec : ChangeSpec := { name := "fnExactTurn", fn := fun _ => fun
  | [d1, d2] => { results := [.lit (.bool true)], args := [d1, d2] }
  | _ => none }
def fnExactTurnRow : OpenClaim := { program := "ythlhilfjbjamhaa", sum := "d3abd2d07f18feb1f4586b371e9fef2f0da1f94e2969e02600fb4ecc4c4153e1", func := "loop.example/g00473/laws.FnExactTurn", spec := "fnExactTurn", apart := false }
def FnExactTurnSaid : Prop := fnExactTurnRow.holds Try.pinned (OpenSpec.ofChange fnExactTurnSpec)

/-- ITS FALSE NEIGHBOUR: 'it returns false'. Refute it at one input. -/
def fnExactTurnWrong : ChangeSpec := { name := "fnExactTurn", fn := fun _ => fun
  | [d1, d2] => { results := [.lit (.bool false)], args := [d1, d2] }
  | _ => none }
def FnExactTurnWrongFalsely : Prop := fnExactTurnRow.holds Try.pinned (OpenSpec.ofChange fnExactTurnWrong)

/-- 'laws.FnExactSame': WHATEVER THE INPUT: true; the input reads as it did. -/
def fnExactSameSpec : ChangeSpec := { name := "fnExactSame", fn := fun _ => fun
  | [d1, d2] => { results := [.lit (.bool true)], args := [d1, d2] }
  | _ => none }
def fnExactSameRow : OpenClaim := { program := "ythlhilfjbjamhaa", sum := "d3abd2d07f18feb1f4586b371e9fef2f0da1f94e2969e02600fb4ecc4c4153e1", func := "loop.example/g00473/laws.FnExactSame", spec := "fnExactSame", apart := false }
def FnExactSameSaid : Prop := fnExactSameRow.holds Try.pinned (OpenSpec.ofChange fnExactSameSpec)

/-- ITS FALSE NEIGHBOUR: 'it returns false'. Refute it at one input. -/
def fnExactSameWrong : ChangeSpec := { name := "fnExactSame", fn := fun _ => fun
  | [d1, d2] => { results := [.lit (.bool false)], args := [d1, d2] }
  | _ => none }
def FnExactSameWrongFalsely : Prop := fnExactSameRow.holds Try.pinned (OpenSpec.ofChange fnExactSameWrong)

/-- 'laws.FnExactHex': WHATEVER THE INPUT: true; the input reads as it did. -/
def fnExactHexSpec : ChangeSpec := { name := "fnExactHex", fn := fun _ => fun
  | [d] => { results := [.lit (.bool true)], args := [d] }
  | _ => none }
def fnExactHexRow : OpenClaim := { program := "ythlhilfjbjamhaa", sum := "d3abd2d07f18feb1f4586b371e9fef2f0da1f94e2969e02600fb4ecc4c4153e1", func := "loop.example/g00473/laws.FnExactHex", spec := "fnExactHex", apart := false }
def FnExactHexSaid : Prop := fnExactHexRow.holds Try.pinned (OpenSpec.ofChange fnExactHexSpec)

/-- ITS FALSE NEIGHBOUR: 'it returns false'. Refute it at one input. -/
def fnExactHexWrong : ChangeSpec := { name := "fnExactHex", fn := fun _ => fun
  | [d] => { results := [.lit (.bool false)], args := [d] }
  | _ => none }
def FnExactHexWrongFalsely : Prop := fnExactHexRow.holds Try.pinned (OpenSpec.ofChange fnExactHexWrong)

/-- 'laws.FnExactHashStart': WHATEVER THE INPUT: true; the input reads as it did. -/
def fnExactHashStartSpec : ChangeSpec := { name := "fnExactHashStart", fn := fun _ => fun
  | [] => { results := [.lit (.bool true)], args := [] }
  | _ => none }
def fnExactHashStartRow : OpenClaim := { program := "ythlhilfjbjamhaa", sum := "d3abd2d07f18feb1f4586b371e9fef2f0da1f94e2969e02600fb4ecc4c4153e1", func := "loop.example/g00473/laws.FnExactHashStart", spec := "fnExactHashStart", apart := false }
def FnExactHashStartSaid : Prop := fnExactHashStartRow.holds Try.pinned (OpenSpec.ofChange fnExactHashStartSpec)

/-- ITS FALSE NEIGHBOUR: 'it returns false'. Refute it at one input. -/
def fnExactHashStartWrong : ChangeSpec := { name := "fnExactHashStart", fn := fun _ => fun
  | [] => { results := [.lit (.bool false)], args := [] }
  | _ => none }
def FnExactHashStartWrongFalsely : Prop := fnExactHashStartRow.holds Try.pinned (OpenSpec.ofChange fnExactHashStartWrong)

/-- 'laws.FnExactXor': WHATEVER THE INPUT: true; the input reads as it did. -/
def fnExactXorSpec : ChangeSpec := { name := "fnExactXor", fn := fun _ => fun
  | [d1, d2] => { results := [.lit (.bool true)], args := [d1, d2] }
  | _ => none }
def fnExactXorRow : OpenClaim := { program := "ythlhilfjbjamhaa", sum := "d3abd2d07f18feb1f4586b371e9fef2f0da1f94e2969e02600fb4ecc4c4153e1", func := "loop.example/g00473/laws.FnExactXor", spec := "fnExactXor", apart := false }
def FnExactXorSaid : Prop := fnExactXorRow.holds Try.pinned (OpenSpec.ofChange fnExactXorSpec)

/-- ITS FALSE NEIGHBOUR: 'it returns false'. Refute it at one input. -/
def fnExactXorWrong : ChangeSpec := { name := "fnExactXor", fn := fun _ => fun
  | [d1, d2] => { results := [.lit (.bool false)], args := [d1, d2] }
  | _ => none }
def FnExactXorWrongFalsely : Prop := fnExactXorRow.holds Try.pinned (OpenSpec.ofChange fnExactXorWrong)

/-- 'laws.FnExactLittle': WHATEVER THE INPUT: true; the input reads as it did. -/
def fnExactLittleSpec : ChangeSpec := { name := "fnExactLittle", fn := fun _ => fun
  | [d1, d2] => { results := [.lit (.bool true)], args := [d1, d2] }
  | _ => none }
def fnExactLittleRow : OpenClaim := { program := "ythlhilfjbjamhaa", sum := "d3abd2d07f18feb1f4586b371e9fef2f0da1f94e2969e02600fb4ecc4c4153e1", func := "loop.example/g00473/laws.FnExactLittle", spec := "fnExactLittle", apart := false }
def FnExactLittleSaid : Prop := fnExactLittleRow.holds Try.pinned (OpenSpec.ofChange fnExactLittleSpec)

/-- ITS FALSE NEIGHBOUR: 'it returns false'. Refute it at one input. -/
def fnExactLittleWrong : ChangeSpec := { name := "fnExactLittle", fn := fun _ => fun
  | [d1, d2] => { results := [.lit (.bool false)], args := [d1, d2] }
  | _ => none }
def FnExactLittleWrongFalsely : Prop := fnExactLittleRow.holds Try.pinned (OpenSpec.ofChange fnExactLittleWrong)

/-- 'laws.FnExactClamp': WHATEVER THE INPUT: true; the input reads as it did. -/
def fnExactClampSpec : ChangeSpec := { name := "fnExactClamp", fn := fun _ => fun
  | [d] => { results := [.lit (.bool true)], args := [d] }
  | _ => none }
def fnExactClampRow : OpenClaim := { program := "ythlhilfjbjamhaa", sum := "d3abd2d07f18feb1f4586b371e9fef2f0da1f94e2969e02600fb4ecc4c4153e1", func := "loop.example/g00473/laws.FnExactClamp", spec := "fnExactClamp", apart := false }
def FnExactClampSaid : Prop := fnExactClampRow.holds Try.pinned (OpenSpec.ofChange fnExactClampSpec)

/-- ITS FALSE NEIGHBOUR: 'it returns false'. Refute it at one input. -/
def fnExactClampWrong : ChangeSpec := { name := "fnExactClamp", fn := fun _ => fun
  | [d] => { results := [.lit (.bool false)], args := [d] }
  | _ => none }
def FnExactClampWrongFalsely : Prop := fnExactClampRow.holds Try.pinned (OpenSpec.ofChange fnExactClampWrong)

/-- 'laws.FnExactLetterOk': WHATEVER THE INPUT: true; the input reads as it did. -/
def fnExactLetterOkSpec : ChangeSpec := { name := "fnExactLetterOk", fn := fun _ => fun
  | [d] => { results := [.lit (.bool true)], args := [d] }
  | _ => none }
def fnExactLetterOkRow : OpenClaim := { program := "ythlhilfjbjamhaa", sum := "d3abd2d07f18feb1f4586b371e9fef2f0da1f94e2969e02600fb4ecc4c4153e1", func := "loop.example/g00473/laws.FnExactLetterOk", spec := "fnExactLetterOk", apart := false }
def FnExactLetterOkSaid : Prop := fnExactLetterOkRow.holds Try.pinned (OpenSpec.ofChange fnExactLetterOkSpec)

/-- ITS FALSE NEIGHBOUR: 'it returns false'. Refute it at one input. -/
def fnExactLetterOkWrong : ChangeSpec := { name := "fnExactLetterOk", fn := fun _ => fun
  | [d] => { results := [.lit (.bool false)], args := [d] }
  | _ => none }
def FnExactLetterOkWrongFalsely : Prop := fnExactLetterOkRow.holds Try.pinned (OpenSpec.ofChange fnExactLetterOkWrong)

/-- 'laws.FnExactGreat': WHATEVER THE INPUT: true; the input reads as it did. -/
def fnExactGreatSpec : ChangeSpec := { name := "fnExactGreat", fn := fun _ => fun
  | [d1, d2] => { results := [.lit (.bool true)], args := [d1, d2] }
  | _ => none }
def fnExactGreatRow : OpenClaim := { program := "ythlhilfjbjamhaa", sum := "d3abd2d07f18feb1f4586b371e9fef2f0da1f94e2969e02600fb4ecc4c4153e1", func := "loop.example/g00473/laws.FnExactGreat", spec := "fnExactGreat", apart := false }
def FnExactGreatSaid : Prop := fnExactGreatRow.holds Try.pinned (OpenSpec.ofChange fnExactGreatSpec)

/-- ITS FALSE NEIGHBOUR: 'it returns false'. Refute it at one input. -/
def fnExactGreatWrong : ChangeSpec := { name := "fnExactGreat", fn := fun _ => fun
  | [d1, d2] => { results := [.lit (.bool false)], args := [d1, d2] }
  | _ => none }
def FnExactGreatWrongFalsely : Prop := fnExactGreatRow.holds Try.pinned (OpenSpec.ofChange fnExactGreatWrong)

/- THE SECOND FORM. 'bulk': how many values and letters a reading holds, each counted each time it is reached (what is shared counts as often as it is met; a slice's spare places count too). A statement '..UptoSaid' is the law's where the arguments, and the package variables that the reading takes, are together of bulk at most 1048576: NARROWER than '..Said'. Prove '..Said' where nothing that the law and all that it calls make is longer than what came in: it says more and counts as full. Else prove '..UptoSaid'. A law counts once. -/
mutual
def uptoBulk {H : Type} : DataW H → Nat
  | .lit (.string bytes) => bytes.length + 1
  | .lit _ => 1
  | .nil => 1
  | .ptr d => uptoBulk d + 1
  | .slice elems spare => uptoBulkAll elems + uptoBulkAll spare + 1
  | .agg parts => uptoBulkAll parts + 1
  | .iface _ d => uptoBulk d + 1
  | .map entries => uptoBulkEntries entries + 1
  | .held _ => 1
def uptoBulkAll {H : Type} : List (DataW H) → Nat
  | [] => 0
  | d :: r => uptoBulk d + uptoBulkAll r
def uptoBulkEntries {H : Type} : List (Lit × DataW H) → Nat
  | [] => 0
  | x :: r => uptoBulkEntry x + uptoBulkEntries r
def uptoBulkEntry {H : Type} : Lit × DataW H → Nat
  | (.string bytes, d) => bytes.length + uptoBulk d + 1
  | (_, d) => uptoBulk d + 1
 end
def uptoSmall : (H : Type) → List (DataW H) → Bool := fun _ ds => decide (uptoBulkAll ds ≤ 1048576)
def OpenSpec.upto (s : _root_.Go.ChangeSpec) : _root_.Go.OpenSpec := { _root_.Go.OpenSpec.ofChange s with cond := some uptoSmall }

/-- 'laws.FnExactConstants', WHERE WHAT IT READS IS OF BULK AT MOST 1048576: true; the input reads as it did. -/
def fnExactConstantsUptoRow : OpenClaim := { program := "ythlhilfjbjamhaa", sum := "d3abd2d07f18feb1f4586b371e9fef2f0da1f94e2969e02600fb4ecc4c4153e1", func := "loop.example/g00473/laws.FnExactConstants", spec := "fnExactConstants", apart := false, narrowed := true }
def FnExactConstantsUptoSaid : Prop := fnExactConstantsUptoRow.holds Try.pinned (OpenSpec.upto fnExactConstantsSpec)

/-- 'laws.FnExactWord', WHERE WHAT IT READS IS OF BULK AT MOST 1048576: true; the input reads as it did. -/
def fnExactWordUptoRow : OpenClaim := { program := "ythlhilfjbjamhaa", sum := "d3abd2d07f18feb1f4586b371e9fef2f0da1f94e2969e02600fb4ecc4c4153e1", func := "loop.example/g00473/laws.FnExactWord", spec := "fnExactWord", apart := false, narrowed := true }
def FnExactWordUptoSaid : Prop := fnExactWordUptoRow.holds Try.pinned (OpenSpec.upto fnExactWordSpec)

/-- 'laws.FnExactCurrent', WHERE WHAT IT READS IS OF BULK AT MOST 1048576: true; the input reads as it did. -/
def fnExactCurrentUptoRow : OpenClaim := { program := "ythlhilfjbjamhaa", sum := "d3abd2d07f18feb1f4586b371e9fef2f0da1f94e2969e02600fb4ecc4c4153e1", func := "loop.example/g00473/laws.FnExactCurrent", spec := "fnExactCurrent", apart := false, narrowed := true }
def FnExactCurrentUptoSaid : Prop := fnExactCurrentUptoRow.holds Try.pinned (OpenSpec.upto fnExactCurrentSpec)

/-- 'laws.FnExactTurn', WHERE WHAT IT READS IS OF BULK AT MOST 1048576: true; the input reads as it did. -/
def fnExactTurnUptoRow : OpenClaim := { program := "ythlhilfjbjamhaa", sum := "d3abd2d07f18feb1f4586b371e9fef2f0da1f94e2969e02600fb4ecc4c4153e1", func := "loop.example/g00473/laws.FnExactTurn", spec := "fnExactTurn", apart := false, narrowed := true }
def FnExactTurnUptoSaid : Prop := fnExactTurnUptoRow.holds Try.pinned (OpenSpec.upto fnExactTurnSpec)

/-- 'laws.FnExactSame', WHERE WHAT IT READS IS OF BULK AT MOST 1048576: true; the input reads as it did. -/
def fnExactSameUptoRow : OpenClaim := { program := "ythlhilfjbjamhaa", sum := "d3abd2d07f18feb1f4586b371e9fef2f0da1f94e2969e02600fb4ecc4c4153e1", func := "loop.example/g00473/laws.FnExactSame", spec := "fnExactSame", apart := false, narrowed := true }
def FnExactSameUptoSaid : Prop := fnExactSameUptoRow.holds Try.pinned (OpenSpec.upto fnExactSameSpec)

/-- 'laws.FnExactHex', WHERE WHAT IT READS IS OF BULK AT MOST 1048576: true; the input reads as it did. -/
def fnExactHexUptoRow : OpenClaim := { program := "ythlhilfjbjamhaa", sum := "d3abd2d07f18feb1f4586b371e9fef2f0da1f94e2969e02600fb4ecc4c4153e1", func := "loop.example/g00473/laws.FnExactHex", spec := "fnExactHex", apart := false, narrowed := true }
def FnExactHexUptoSaid : Prop := fnExactHexUptoRow.holds Try.pinned (OpenSpec.upto fnExactHexSpec)

/-- 'laws.FnExactHashStart', WHERE WHAT IT READS IS OF BULK AT MOST 1048576: true; the input reads as it did. -/
def fnExactHashStartUptoRow : OpenClaim := { program := "ythlhilfjbjamhaa", sum := "d3abd2d07f18feb1f4586b371e9fef2f0da1f94e2969e02600fb4ecc4c4153e1", func := "loop.example/g00473/laws.FnExactHashStart", spec := "fnExactHashStart", apart := false, narrowed := true }
def FnExactHashStartUptoSaid : Prop := fnExactHashStartUptoRow.holds Try.pinned (OpenSpec.upto fnExactHashStartSpec)

/-- 'laws.FnExactXor', WHERE WHAT IT READS IS OF BULK AT MOST 1048576: true; the input reads as it did. -/
def fnExactXorUptoRow : OpenClaim := { program := "ythlhilfjbjamhaa", sum := "d3abd2d07f18feb1f4586b371e9fef2f0da1f94e2969e02600fb4ecc4c4153e1", func := "loop.example/g00473/laws.FnExactXor", spec := "fnExactXor", apart := false, narrowed := true }
def FnExactXorUptoSaid : Prop := fnExactXorUptoRow.holds Try.pinned (OpenSpec.upto fnExactXorSpec)

/-- 'laws.FnExactLittle', WHERE WHAT IT READS IS OF BULK AT MOST 1048576: true; the input reads as it did. -/
def fnExactLittleUptoRow : OpenClaim := { program := "ythlhilfjbjamhaa", sum := "d3abd2d07f18feb1f4586b371e9fef2f0da1f94e2969e02600fb4ecc4c4153e1", func := "loop.example/g00473/laws.FnExactLittle", spec := "fnExactLittle", apart := false, narrowed := true }
def FnExactLittleUptoSaid : Prop := fnExactLittleUptoRow.holds Try.pinned (OpenSpec.upto fnExactLittleSpec)

/-- 'laws.FnExactClamp', WHERE WHAT IT READS IS OF BULK AT MOST 1048576: true; the input reads as it did. -/
def fnExactClampUptoRow : OpenClaim := { program := "ythlhilfjbjamhaa", sum := "d3abd2d07f18feb1f4586b371e9fef2f0da1f94e2969e02600fb4ecc4c4153e1", func := "loop.example/g00473/laws.FnExactClamp", spec := "fnExactClamp", apart := false, narrowed := true }
def FnExactClampUptoSaid : Prop := fnExactClampUptoRow.holds Try.pinned (OpenSpec.upto fnExactClampSpec)

/-- 'laws.FnExactLetterOk', WHERE WHAT IT READS IS OF BULK AT MOST 1048576: true; the input reads as it did. -/
def fnExactLetterOkUptoRow : OpenClaim := { program := "ythlhilfjbjamhaa", sum := "d3abd2d07f18feb1f4586b371e9fef2f0da1f94e2969e02600fb4ecc4c4153e1", func := "loop.example/g00473/laws.FnExactLetterOk", spec := "fnExactLetterOk", apart := false, narrowed := true }
def FnExactLetterOkUptoSaid : Prop := fnExactLetterOkUptoRow.holds Try.pinned (OpenSpec.upto fnExactLetterOkSpec)

/-- 'laws.FnExactGreat', WHERE WHAT IT READS IS OF BULK AT MOST 1048576: true; the input reads as it did. -/
def fnExactGreatUptoRow : OpenClaim := { program := "ythlhilfjbjamhaa", sum := "d3abd2d07f18feb1f4586b371e9fef2f0da1f94e2969e02600fb4ecc4c4153e1", func := "loop.example/g00473/laws.FnExactGreat", spec := "fnExactGreat", apart := false, narrowed := true }
def FnExactGreatUptoSaid : Prop := fnExactGreatUptoRow.holds Try.pinned (OpenSpec.upto fnExactGreatSpec)

end Rows
end Go.Proofs.Ythlhilfjbjamhaa
