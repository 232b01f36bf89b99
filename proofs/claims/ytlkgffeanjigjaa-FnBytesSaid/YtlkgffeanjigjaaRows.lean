/-
  No cell of these rows narrows 'for every input' (looked for: loops, veiled, ifaces, maps, wideKeys, modest, calm, conditions, laid).
  DERIVED. THE GIVEN ROWS OF THIS SEAT. 12 by the template 'for every input the law returns true; each argument reads behind the call as it read before'; 0 by the template 'total and deterministic' (their statements: YtlkgffeanjigjaaTotals.lean).
  GIVEN WITH THE SEED: the statements are not yours to turn. If you find one false, say at which input.
  Laid BY PROGRAM, IN A SANDBOX (cutbox-rows.mjs): the forced cells as the released guide's own fill.sh prints them over the translation fb83154e08ca2f82… (all of the seat's roots in one cut). By AI agents, Wed Nov 11 2026. No macro, syntax, notation, axiom, sorry.
-/
import Derived.Test.YtlkgffeanjigjaaChecked
import GoSem.Claim
import GoSem.ClaimJoined
import GoSem.ClaimMapViews
import Derived.JoinedTies
import Derived.KernelRfl
namespace Go.Proofs.Ytlkgffeanjigjaa
/- THE CELL 'sum', in the pinned program and in every row, IS THE sha256 OF THE DUMP (.gsa) THAT YtlkgffeanjigjaaProg.lean LOADS. Nothing in Lean hashes anything: it is a label: what it is worth is what the hold of that sum in a sandbox is worth. -/
noncomputable def Try.pinned : Pinned := { name := "ytlkgffeanjigjaa", sum := "fb83154e08ca2f820ec6aa27d882e42bf160622697caecd21f1d104c5d1cc777", checked := Try.checked }
namespace Rows
def none {H : Type} : Left H := { results := [], args := [] }

/-- 'laws.FnExactUnhex': WHATEVER THE INPUT: true; the input reads as it did. -/
def fnExactUnhexSpec : ChangeSpec := { name := "fnExactUnhex", fn := fun _ => fun
  | [d] => { results := [.lit (.bool true)], args := [d] }
  | _ => none }
def fnExactUnhexRow : OpenClaim := { program := "ytlkgffeanjigjaa", sum := "fb83154e08ca2f820ec6aa27d882e42bf160622697caecd21f1d104c5d1cc777", func := "loop.example/g00473/laws.FnExactUnhex", spec := "fnExactUnhex", inPlace := ["internal/bytealg.IndexByteString"], apart := false }
def FnExactUnhexSaid : Prop := fnExactUnhexRow.holds Try.pinned (OpenSpec.ofChange fnExactUnhexSpec)

/-- ITS FALSE NEIGHBOUR: 'it returns false'. Refute it at one input. -/
def fnExactUnhexWrong : ChangeSpec := { name := "fnExactUnhex", fn := fun _ => fun
  | [d] => { results := [.lit (.bool false)], args := [d] }
  | _ => none }
def FnExactUnhexWrongFalsely : Prop := fnExactUnhexRow.holds Try.pinned (OpenSpec.ofChange fnExactUnhexWrong)

/-- 'laws.FnExactWords': WHATEVER THE INPUT: true; the input reads as it did. -/
def fnExactWordsSpec : ChangeSpec := { name := "fnExactWords", fn := fun _ => fun
  | [d1, d2] => { results := [.lit (.bool true)], args := [d1, d2] }
  | _ => none }
def fnExactWordsRow : OpenClaim := { program := "ytlkgffeanjigjaa", sum := "fb83154e08ca2f820ec6aa27d882e42bf160622697caecd21f1d104c5d1cc777", func := "loop.example/g00473/laws.FnExactWords", spec := "fnExactWords", apart := false }
def FnExactWordsSaid : Prop := fnExactWordsRow.holds Try.pinned (OpenSpec.ofChange fnExactWordsSpec)

/-- ITS FALSE NEIGHBOUR: 'it returns false'. Refute it at one input. -/
def fnExactWordsWrong : ChangeSpec := { name := "fnExactWords", fn := fun _ => fun
  | [d1, d2] => { results := [.lit (.bool false)], args := [d1, d2] }
  | _ => none }
def FnExactWordsWrongFalsely : Prop := fnExactWordsRow.holds Try.pinned (OpenSpec.ofChange fnExactWordsWrong)

/-- 'laws.FnExactWordBytes': WHATEVER THE INPUT: true; the input reads as it did. -/
def fnExactWordBytesSpec : ChangeSpec := { name := "fnExactWordBytes", fn := fun _ => fun
  | [d1, d2] => { results := [.lit (.bool true)], args := [d1, d2] }
  | _ => none }
def fnExactWordBytesRow : OpenClaim := { program := "ytlkgffeanjigjaa", sum := "fb83154e08ca2f820ec6aa27d882e42bf160622697caecd21f1d104c5d1cc777", func := "loop.example/g00473/laws.FnExactWordBytes", spec := "fnExactWordBytes", apart := false }
def FnExactWordBytesSaid : Prop := fnExactWordBytesRow.holds Try.pinned (OpenSpec.ofChange fnExactWordBytesSpec)

/-- ITS FALSE NEIGHBOUR: 'it returns false'. Refute it at one input. -/
def fnExactWordBytesWrong : ChangeSpec := { name := "fnExactWordBytes", fn := fun _ => fun
  | [d1, d2] => { results := [.lit (.bool false)], args := [d1, d2] }
  | _ => none }
def FnExactWordBytesWrongFalsely : Prop := fnExactWordBytesRow.holds Try.pinned (OpenSpec.ofChange fnExactWordBytesWrong)

/-- 'laws.FnExactTagText': WHATEVER THE INPUT: true; the input reads as it did. -/
def fnExactTagTextSpec : ChangeSpec := { name := "fnExactTagText", fn := fun _ => fun
  | [d1, d2] => { results := [.lit (.bool true)], args := [d1, d2] }
  | _ => none }
def fnExactTagTextRow : OpenClaim := { program := "ytlkgffeanjigjaa", sum := "fb83154e08ca2f820ec6aa27d882e42bf160622697caecd21f1d104c5d1cc777", func := "loop.example/g00473/laws.FnExactTagText", spec := "fnExactTagText", inPlace := ["internal/bytealg.MakeNoZero"], apart := false }
def FnExactTagTextSaid : Prop := fnExactTagTextRow.holds Try.pinned (OpenSpec.ofChange fnExactTagTextSpec)

/-- ITS FALSE NEIGHBOUR: 'it returns false'. Refute it at one input. -/
def fnExactTagTextWrong : ChangeSpec := { name := "fnExactTagText", fn := fun _ => fun
  | [d1, d2] => { results := [.lit (.bool false)], args := [d1, d2] }
  | _ => none }
def FnExactTagTextWrongFalsely : Prop := fnExactTagTextRow.holds Try.pinned (OpenSpec.ofChange fnExactTagTextWrong)

/-- 'laws.FnExactHashPad': WHATEVER THE INPUT: true; the input reads as it did. -/
def fnExactHashPadSpec : ChangeSpec := { name := "fnExactHashPad", fn := fun _ => fun
  | [d] => { results := [.lit (.bool true)], args := [d] }
  | _ => none }
def fnExactHashPadRow : OpenClaim := { program := "ytlkgffeanjigjaa", sum := "fb83154e08ca2f820ec6aa27d882e42bf160622697caecd21f1d104c5d1cc777", func := "loop.example/g00473/laws.FnExactHashPad", spec := "fnExactHashPad", inPlace := ["internal/bytealg.MakeNoZero"], apart := false }
def FnExactHashPadSaid : Prop := fnExactHashPadRow.holds Try.pinned (OpenSpec.ofChange fnExactHashPadSpec)

/-- ITS FALSE NEIGHBOUR: 'it returns false'. Refute it at one input. -/
def fnExactHashPadWrong : ChangeSpec := { name := "fnExactHashPad", fn := fun _ => fun
  | [d] => { results := [.lit (.bool false)], args := [d] }
  | _ => none }
def FnExactHashPadWrongFalsely : Prop := fnExactHashPadRow.holds Try.pinned (OpenSpec.ofChange fnExactHashPadWrong)

/-- 'laws.FnExactLetterOf': WHATEVER THE INPUT: true; the input reads as it did. -/
def fnExactLetterOfSpec : ChangeSpec := { name := "fnExactLetterOf", fn := fun _ => fun
  | [d] => { results := [.lit (.bool true)], args := [d] }
  | _ => none }
def fnExactLetterOfRow : OpenClaim := { program := "ytlkgffeanjigjaa", sum := "fb83154e08ca2f820ec6aa27d882e42bf160622697caecd21f1d104c5d1cc777", func := "loop.example/g00473/laws.FnExactLetterOf", spec := "fnExactLetterOf", inPlace := ["internal/bytealg.MakeNoZero"], apart := false }
def FnExactLetterOfSaid : Prop := fnExactLetterOfRow.holds Try.pinned (OpenSpec.ofChange fnExactLetterOfSpec)

/-- ITS FALSE NEIGHBOUR: 'it returns false'. Refute it at one input. -/
def fnExactLetterOfWrong : ChangeSpec := { name := "fnExactLetterOf", fn := fun _ => fun
  | [d] => { results := [.lit (.bool false)], args := [d] }
  | _ => none }
def FnExactLetterOfWrongFalsely : Prop := fnExactLetterOfRow.holds Try.pinned (OpenSpec.ofChange fnExactLetterOfWrong)

/-- 'laws.FnExactLetterBytes': WHATEVER THE INPUT: true; the input reads as it did. -/
def fnExactLetterBytesSpec : ChangeSpec := { name := "fnExactLetterBytes", fn := fun _ => fun
  | [d] => { results := [.lit (.bool true)], args := [d] }
  | _ => none }
def fnExactLetterBytesRow : OpenClaim := { program := "ytlkgffeanjigjaa", sum := "fb83154e08ca2f820ec6aa27d882e42bf160622697caecd21f1d104c5d1cc777", func := "loop.example/g00473/laws.FnExactLetterBytes", spec := "fnExactLetterBytes", inPlace := ["internal/bytealg.MakeNoZero"], apart := false }
def FnExactLetterBytesSaid : Prop := fnExactLetterBytesRow.holds Try.pinned (OpenSpec.ofChange fnExactLetterBytesSpec)

/-- ITS FALSE NEIGHBOUR: 'it returns false'. Refute it at one input. -/
def fnExactLetterBytesWrong : ChangeSpec := { name := "fnExactLetterBytes", fn := fun _ => fun
  | [d] => { results := [.lit (.bool false)], args := [d] }
  | _ => none }
def FnExactLetterBytesWrongFalsely : Prop := fnExactLetterBytesRow.holds Try.pinned (OpenSpec.ofChange fnExactLetterBytesWrong)

/-- 'laws.FnExactPadded': WHATEVER THE INPUT: true; the input reads as it did. -/
def fnExactPaddedSpec : ChangeSpec := { name := "fnExactPadded", fn := fun _ => fun
  | [d] => { results := [.lit (.bool true)], args := [d] }
  | _ => none }
def fnExactPaddedRow : OpenClaim := { program := "ytlkgffeanjigjaa", sum := "fb83154e08ca2f820ec6aa27d882e42bf160622697caecd21f1d104c5d1cc777", func := "loop.example/g00473/laws.FnExactPadded", spec := "fnExactPadded", inPlace := ["internal/bytealg.MakeNoZero"], apart := false }
def FnExactPaddedSaid : Prop := fnExactPaddedRow.holds Try.pinned (OpenSpec.ofChange fnExactPaddedSpec)

/-- ITS FALSE NEIGHBOUR: 'it returns false'. Refute it at one input. -/
def fnExactPaddedWrong : ChangeSpec := { name := "fnExactPadded", fn := fun _ => fun
  | [d] => { results := [.lit (.bool false)], args := [d] }
  | _ => none }
def FnExactPaddedWrongFalsely : Prop := fnExactPaddedRow.holds Try.pinned (OpenSpec.ofChange fnExactPaddedWrong)

/-- 'laws.FnExactUnpadded': WHATEVER THE INPUT: true; the input reads as it did. -/
def fnExactUnpaddedSpec : ChangeSpec := { name := "fnExactUnpadded", fn := fun _ => fun
  | [d] => { results := [.lit (.bool true)], args := [d] }
  | _ => none }
def fnExactUnpaddedRow : OpenClaim := { program := "ytlkgffeanjigjaa", sum := "fb83154e08ca2f820ec6aa27d882e42bf160622697caecd21f1d104c5d1cc777", func := "loop.example/g00473/laws.FnExactUnpadded", spec := "fnExactUnpadded", inPlace := ["internal/bytealg.MakeNoZero"], apart := false }
def FnExactUnpaddedSaid : Prop := fnExactUnpaddedRow.holds Try.pinned (OpenSpec.ofChange fnExactUnpaddedSpec)

/-- ITS FALSE NEIGHBOUR: 'it returns false'. Refute it at one input. -/
def fnExactUnpaddedWrong : ChangeSpec := { name := "fnExactUnpadded", fn := fun _ => fun
  | [d] => { results := [.lit (.bool false)], args := [d] }
  | _ => none }
def FnExactUnpaddedWrongFalsely : Prop := fnExactUnpaddedRow.holds Try.pinned (OpenSpec.ofChange fnExactUnpaddedWrong)

/-- 'laws.FnWords': WHATEVER THE INPUT: true; the input reads as it did. -/
def fnWordsSpec : ChangeSpec := { name := "fnWords", fn := fun _ => fun
  | [d] => { results := [.lit (.bool true)], args := [d] }
  | _ => none }
def fnWordsRow : OpenClaim := { program := "ytlkgffeanjigjaa", sum := "fb83154e08ca2f820ec6aa27d882e42bf160622697caecd21f1d104c5d1cc777", func := "loop.example/g00473/laws.FnWords", spec := "fnWords", apart := false }
def FnWordsSaid : Prop := fnWordsRow.holds Try.pinned (OpenSpec.ofChange fnWordsSpec)

/-- ITS FALSE NEIGHBOUR: 'it returns false'. Refute it at one input. -/
def fnWordsWrong : ChangeSpec := { name := "fnWords", fn := fun _ => fun
  | [d] => { results := [.lit (.bool false)], args := [d] }
  | _ => none }
def FnWordsWrongFalsely : Prop := fnWordsRow.holds Try.pinned (OpenSpec.ofChange fnWordsWrong)

/-- 'laws.FnSizes': WHATEVER THE INPUT: true; the input reads as it did. -/
def fnSizesSpec : ChangeSpec := { name := "fnSizes", fn := fun _ => fun
  | [d] => { results := [.lit (.bool true)], args := [d] }
  | _ => none }
def fnSizesRow : OpenClaim := { program := "ytlkgffeanjigjaa", sum := "fb83154e08ca2f820ec6aa27d882e42bf160622697caecd21f1d104c5d1cc777", func := "loop.example/g00473/laws.FnSizes", spec := "fnSizes", inPlace := ["internal/bytealg.MakeNoZero"], apart := false }
def FnSizesSaid : Prop := fnSizesRow.holds Try.pinned (OpenSpec.ofChange fnSizesSpec)

/-- ITS FALSE NEIGHBOUR: 'it returns false'. Refute it at one input. -/
def fnSizesWrong : ChangeSpec := { name := "fnSizes", fn := fun _ => fun
  | [d] => { results := [.lit (.bool false)], args := [d] }
  | _ => none }
def FnSizesWrongFalsely : Prop := fnSizesRow.holds Try.pinned (OpenSpec.ofChange fnSizesWrong)

/-- 'laws.FnBytes': WHATEVER THE INPUT: true; the input reads as it did. -/
def fnBytesSpec : ChangeSpec := { name := "fnBytes", fn := fun _ => fun
  | [d] => { results := [.lit (.bool true)], args := [d] }
  | _ => none }
def fnBytesRow : OpenClaim := { program := "ytlkgffeanjigjaa", sum := "fb83154e08ca2f820ec6aa27d882e42bf160622697caecd21f1d104c5d1cc777", func := "loop.example/g00473/laws.FnBytes", spec := "fnBytes", inPlace := ["internal/bytealg.IndexByteString"], apart := false }
def FnBytesSaid : Prop := fnBytesRow.holds Try.pinned (OpenSpec.ofChange fnBytesSpec)

/-- ITS FALSE NEIGHBOUR: 'it returns false'. Refute it at one input. -/
def fnBytesWrong : ChangeSpec := { name := "fnBytes", fn := fun _ => fun
  | [d] => { results := [.lit (.bool false)], args := [d] }
  | _ => none }
def FnBytesWrongFalsely : Prop := fnBytesRow.holds Try.pinned (OpenSpec.ofChange fnBytesWrong)

/- THE SECOND FORM. 'bulk': how many values and letters a reading holds, each counted each time it is reached (what is shared counts as often as it is met; a slice's spare places count too). A statement '..UptoSaid' is the law's where the arguments, and the package variables that the reading takes, are together of bulk at most 1048576: NARROWER than '..Said'. Prove '..Said' where nothing that the law and all that it calls make is longer than what came in: it says more and counts as full. Else prove '..UptoSaid'. A law counts once. -/
mutual
def uptoBulk {H : Type} : DataW H → Nat
  | .lit (.string bytes) => bytes.length + 1
  | .lit _ => 1
  | .nil => 1
  | .ptr d => uptoBulk d + 1
  | .slice elems spare => uptoBulkAll elems + uptoBulkAll spare + 1
  | .agg parts => uptoBulkAll parts + 1
  | .iface _ d => uptoBulk d + 1
  | .map entries => uptoBulkEntries entries + 1
  | .held _ => 1
def uptoBulkAll {H : Type} : List (DataW H) → Nat
  | [] => 0
  | d :: r => uptoBulk d + uptoBulkAll r
def uptoBulkEntries {H : Type} : List (Lit × DataW H) → Nat
  | [] => 0
  | x :: r => uptoBulkEntry x + uptoBulkEntries r
def uptoBulkEntry {H : Type} : Lit × DataW H → Nat
  | (.string bytes, d) => bytes.length + uptoBulk d + 1
  | (_, d) => uptoBulk d + 1
 end
def uptoSmall : (H : Type) → List (DataW H) → Bool := fun _ ds => decide (uptoBulkAll ds ≤ 1048576)
def OpenSpec.upto (s : _root_.Go.ChangeSpec) : _root_.Go.OpenSpec := { _root_.Go.OpenSpec.ofChange s with cond := some uptoSmall }

/-- 'laws.FnExactUnhex', WHERE WHAT IT READS IS OF BULK AT MOST 1048576: true; the input reads as it did. -/
def fnExactUnhexUptoRow : OpenClaim := { program := "ytlkgffeanjigjaa", sum := "fb83154e08ca2f820ec6aa27d882e42bf160622697caecd21f1d104c5d1cc777", func := "loop.example/g00473/laws.FnExactUnhex", spec := "fnExactUnhex", inPlace := ["internal/bytealg.IndexByteString"], apart := false, narrowed := true }
def FnExactUnhexUptoSaid : Prop := fnExactUnhexUptoRow.holds Try.pinned (OpenSpec.upto fnExactUnhexSpec)

/-- 'laws.FnExactWords', WHERE WHAT IT READS IS OF BULK AT MOST 1048576: true; the input reads as it did. -/
def fnExactWordsUptoRow : OpenClaim := { program := "ytlkgffeanjigjaa", sum := "fb83154e08ca2f820ec6aa27d882e42bf160622697caecd21f1d104c5d1cc777", func := "loop.example/g00473/laws.FnExactWords", spec := "fnExactWords", apart := false, narrowed := true }
def FnExactWordsUptoSaid : Prop := fnExactWordsUptoRow.holds Try.pinned (OpenSpec.upto fnExactWordsSpec)

/-- 'laws.FnExactWordBytes', WHERE WHAT IT READS IS OF BULK AT MOST 1048576: true; the input reads as it did. -/
def fnExactWordBytesUptoRow : OpenClaim := { program := "ytlkgffeanjigjaa", sum := "fb83154e08ca2f820ec6aa27d882e42bf160622697caecd21f1d104c5d1cc777", func := "loop.example/g00473/laws.FnExactWordBytes", spec := "fnExactWordBytes", apart := false, narrowed := true }
def FnExactWordBytesUptoSaid : Prop := fnExactWordBytesUptoRow.holds Try.pinned (OpenSpec.upto fnExactWordBytesSpec)

/-- 'laws.FnExactTagText', WHERE WHAT IT READS IS OF BULK AT MOST 1048576: true; the input reads as it did. -/
def fnExactTagTextUptoRow : OpenClaim := { program := "ytlkgffeanjigjaa", sum := "fb83154e08ca2f820ec6aa27d882e42bf160622697caecd21f1d104c5d1cc777", func := "loop.example/g00473/laws.FnExactTagText", spec := "fnExactTagText", inPlace := ["internal/bytealg.MakeNoZero"], apart := false, narrowed := true }
def FnExactTagTextUptoSaid : Prop := fnExactTagTextUptoRow.holds Try.pinned (OpenSpec.upto fnExactTagTextSpec)

/-- 'laws.FnExactHashPad', WHERE WHAT IT READS IS OF BULK AT MOST 1048576: true; the input reads as it did. -/
def fnExactHashPadUptoRow : OpenClaim := { program := "ytlkgffeanjigjaa", sum := "fb83154e08ca2f820ec6aa27d882e42bf160622697caecd21f1d104c5d1cc777", func := "loop.example/g00473/laws.FnExactHashPad", spec := "fnExactHashPad", inPlace := ["internal/bytealg.MakeNoZero"], apart := false, narrowed := true }
def FnExactHashPadUptoSaid : Prop := fnExactHashPadUptoRow.holds Try.pinned (OpenSpec.upto fnExactHashPadSpec)

/-- 'laws.FnExactLetterOf', WHERE WHAT IT READS IS OF BULK AT MOST 1048576: true; the input reads as it did. -/
def fnExactLetterOfUptoRow : OpenClaim := { program := "ytlkgffeanjigjaa", sum := "fb83154e08ca2f820ec6aa27d882e42bf160622697caecd21f1d104c5d1cc777", func := "loop.example/g00473/laws.FnExactLetterOf", spec := "fnExactLetterOf", inPlace := ["internal/bytealg.MakeNoZero"], apart := false, narrowed := true }
def FnExactLetterOfUptoSaid : Prop := fnExactLetterOfUptoRow.holds Try.pinned (OpenSpec.upto fnExactLetterOfSpec)

/-- 'laws.FnExactLetterBytes', WHERE WHAT IT READS IS OF BULK AT MOST 1048576: true; the input reads as it did. -/
def fnExactLetterBytesUptoRow : OpenClaim := { program := "ytlkgffeanjigjaa", sum := "fb83154e08ca2f820ec6aa27d882e42bf160622697caecd21f1d104c5d1cc777", func := "loop.example/g00473/laws.FnExactLetterBytes", spec := "fnExactLetterBytes", inPlace := ["internal/bytealg.MakeNoZero"], apart := false, narrowed := true }
def FnExactLetterBytesUptoSaid : Prop := fnExactLetterBytesUptoRow.holds Try.pinned (OpenSpec.upto fnExactLetterBytesSpec)

/-- 'laws.FnExactPadded', WHERE WHAT IT READS IS OF BULK AT MOST 1048576: true; the input reads as it did. -/
def fnExactPaddedUptoRow : OpenClaim := { program := "ytlkgffeanjigjaa", sum := "fb83154e08ca2f820ec6aa27d882e42bf160622697caecd21f1d104c5d1cc777", func := "loop.example/g00473/laws.FnExactPadded", spec := "fnExactPadded", inPlace := ["internal/bytealg.MakeNoZero"], apart := false, narrowed := true }
def FnExactPaddedUptoSaid : Prop := fnExactPaddedUptoRow.holds Try.pinned (OpenSpec.upto fnExactPaddedSpec)

/-- 'laws.FnExactUnpadded', WHERE WHAT IT READS IS OF BULK AT MOST 1048576: true; the input reads as it did. -/
def fnExactUnpaddedUptoRow : OpenClaim := { program := "ytlkgffeanjigjaa", sum := "fb83154e08ca2f820ec6aa27d882e42bf160622697caecd21f1d104c5d1cc777", func := "loop.example/g00473/laws.FnExactUnpadded", spec := "fnExactUnpadded", inPlace := ["internal/bytealg.MakeNoZero"], apart := false, narrowed := true }
def FnExactUnpaddedUptoSaid : Prop := fnExactUnpaddedUptoRow.holds Try.pinned (OpenSpec.upto fnExactUnpaddedSpec)

/-- 'laws.FnWords', WHERE WHAT IT READS IS OF BULK AT MOST 1048576: true; the input reads as it did. -/
def fnWordsUptoRow : OpenClaim := { program := "ytlkgffeanjigjaa", sum := "fb83154e08ca2f820ec6aa27d882e42bf160622697caecd21f1d104c5d1cc777", func := "loop.example/g00473/laws.FnWords", spec := "fnWords", apart := false, narrowed := true }
def FnWordsUptoSaid : Prop := fnWordsUptoRow.holds Try.pinned (OpenSpec.upto fnWordsSpec)

/-- 'laws.FnSizes', WHERE WHAT IT READS IS OF BULK AT MOST 1048576: true; the input reads as it did. -/
def fnSizesUptoRow : OpenClaim := { program := "ytlkgffeanjigjaa", sum := "fb83154e08ca2f820ec6aa27d882e42bf160622697caecd21f1d104c5d1cc777", func := "loop.example/g00473/laws.FnSizes", spec := "fnSizes", inPlace := ["internal/bytealg.MakeNoZero"], apart := false, narrowed := true }
def FnSizesUptoSaid : Prop := fnSizesUptoRow.holds Try.pinned (OpenSpec.upto fnSizesSpec)

/-- 'laws.FnBytes', WHERE WHAT IT READS IS OF BULK AT MOST 1048576: true; the input reads as it did. -/
def fnBytesUptoRow : OpenClaim := { program := "ytlkgffeanjigjaa", sum := "fb83154e08ca2f820ec6aa27d882e42bf160622697caecd21f1d104c5d1cc777", func := "loop.example/g00473/laws.FnBytes", spec := "fnBytes", inPlace := ["internal/bytealg.IndexByteString"], apart := false, narrowed := true }
def FnBytesUptoSaid : Prop := fnBytesUptoRow.holds Try.pinned (OpenSpec.upto fnBytesSpec)

end Rows
end Go.Proofs.Ytlkgffeanjigjaa
