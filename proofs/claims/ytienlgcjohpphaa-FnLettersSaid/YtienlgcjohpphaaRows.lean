/-
  No cell of these rows narrows 'for every input' (looked for: loops, veiled, ifaces, maps, wideKeys, modest, calm, conditions, laid).
  DERIVED. THE GIVEN ROWS OF THIS SEAT. 12 by the template 'for every input the law returns true; each argument reads behind the call as it read before'; 0 by the template 'total and deterministic' (their statements: YtienlgcjohpphaaTotals.lean).
  GIVEN WITH THE SEED: the statements are not yours to turn. If you find one false, say at which input.
  Laid BY PROGRAM, IN A SANDBOX (cutbox-rows.mjs): the forced cells as the released guide's own fill.sh prints them over the translation 93e544fdd69c01a6… (all of the seat's roots in one cut). By AI agents, Wed Nov 11 2026. No macro, syntax, notation, axiom, sorry.
-/
import Derived.Test.YtienlgcjohpphaaChecked
import GoSem.Claim
import GoSem.ClaimJoined
import GoSem.ClaimMapViews
import Derived.JoinedTies
import Derived.KernelRfl
namespace Go.Proofs.Ytienlgcjohpphaa
/- THE CELL 'sum', in the pinned program and in every row, IS THE sha256 OF THE DUMP (.gsa) THAT YtienlgcjohpphaaProg.lean LOADS. Nothing in Lean hashes anything: it is a label: what it is worth is what the hold of that sum in a sandbox is worth. -/
noncomputable def Try.pinned : Pinned := { name := "ytienlgcjohpphaa", sum := "93e544fdd69c01a6a3906ed0094b9c295da3389794f4df66c193430cd27b4b23", checked := Try.checked }
namespace Rows
def none {H : Type} : Left H := { results := [], args := [] }

/-- 'laws.FnExactHashBlock': WHATEVER THE INPUT: true; the input reads as it did. -/
def fnExactHashBlockSpec : ChangeSpec := { name := "fnExactHashBlock", fn := fun _ => fun
  | [d1, d2] => { results := [.lit (.bool true)], args := [d1, d2] }
  | _ => none }
def fnExactHashBlockRow : OpenClaim := { program := "ytienlgcjohpphaa", sum := "93e544fdd69c01a6a3906ed0094b9c295da3389794f4df66c193430cd27b4b23", func := "loop.example/g00473/laws.FnExactHashBlock", spec := "fnExactHashBlock", apart := false }
def FnExactHashBlockSaid : Prop := fnExactHashBlockRow.holds Try.pinned (OpenSpec.ofChange fnExactHashBlockSpec)

/-- ITS FALSE NEIGHBOUR: 'it returns false'. Refute it at one input. -/
def fnExactHashBlockWrong : ChangeSpec := { name := "fnExactHashBlock", fn := fun _ => fun
  | [d1, d2] => { results := [.lit (.bool false)], args := [d1, d2] }
  | _ => none }
def FnExactHashBlockWrongFalsely : Prop := fnExactHashBlockRow.holds Try.pinned (OpenSpec.ofChange fnExactHashBlockWrong)

/-- 'laws.FnExactHash': WHATEVER THE INPUT: true; the input reads as it did. -/
def fnExactHashSpec : ChangeSpec := { name := "fnExactHash", fn := fun _ => fun
  | [d] => { results := [.lit (.bool true)], args := [d] }
  | _ => none }
def fnExactHashRow : OpenClaim := { program := "ytienlgcjohpphaa", sum := "93e544fdd69c01a6a3906ed0094b9c295da3389794f4df66c193430cd27b4b23", func := "loop.example/g00473/laws.FnExactHash", spec := "fnExactHash", inPlace := ["internal/bytealg.MakeNoZero"], apart := false }
def FnExactHashSaid : Prop := fnExactHashRow.holds Try.pinned (OpenSpec.ofChange fnExactHashSpec)

/-- ITS FALSE NEIGHBOUR: 'it returns false'. Refute it at one input. -/
def fnExactHashWrong : ChangeSpec := { name := "fnExactHash", fn := fun _ => fun
  | [d] => { results := [.lit (.bool false)], args := [d] }
  | _ => none }
def FnExactHashWrongFalsely : Prop := fnExactHashRow.holds Try.pinned (OpenSpec.ofChange fnExactHashWrong)

/-- 'laws.FnHashes': WHATEVER THE INPUT: true; the input reads as it did. -/
def fnHashesSpec : ChangeSpec := { name := "fnHashes", fn := fun _ => fun
  | [d] => { results := [.lit (.bool true)], args := [d] }
  | _ => none }
def fnHashesRow : OpenClaim := { program := "ytienlgcjohpphaa", sum := "93e544fdd69c01a6a3906ed0094b9c295da3389794f4df66c193430cd27b4b23", func := "loop.example/g00473/laws.FnHashes", spec := "fnHashes", inPlace := ["internal/bytealg.MakeNoZero"], apart := false }
def FnHashesSaid : Prop := fnHashesRow.holds Try.pinned (OpenSpec.ofChange fnHashesSpec)

/-- ITS FALSE NEIGHBOUR: 'it returns false'. Refute it at one input. -/
def fnHashesWrong : ChangeSpec := { name := "fnHashes", fn := fun _ => fun
  | [d] => { results := [.lit (.bool false)], args := [d] }
  | _ => none }
def FnHashesWrongFalsely : Prop := fnHashesRow.holds Try.pinned (OpenSpec.ofChange fnHashesWrong)

/-- 'laws.FnExactMac': WHATEVER THE INPUT: true; the input reads as it did. -/
def fnExactMacSpec : ChangeSpec := { name := "fnExactMac", fn := fun _ => fun
  | [d1, d2] => { results := [.lit (.bool true)], args := [d1, d2] }
  | _ => none }
def fnExactMacRow : OpenClaim := { program := "ytienlgcjohpphaa", sum := "93e544fdd69c01a6a3906ed0094b9c295da3389794f4df66c193430cd27b4b23", func := "loop.example/g00473/laws.FnExactMac", spec := "fnExactMac", inPlace := ["internal/bytealg.MakeNoZero"], apart := false }
def FnExactMacSaid : Prop := fnExactMacRow.holds Try.pinned (OpenSpec.ofChange fnExactMacSpec)

/-- ITS FALSE NEIGHBOUR: 'it returns false'. Refute it at one input. -/
def fnExactMacWrong : ChangeSpec := { name := "fnExactMac", fn := fun _ => fun
  | [d1, d2] => { results := [.lit (.bool false)], args := [d1, d2] }
  | _ => none }
def FnExactMacWrongFalsely : Prop := fnExactMacRow.holds Try.pinned (OpenSpec.ofChange fnExactMacWrong)

/-- 'laws.FnExactExtract': WHATEVER THE INPUT: true; the input reads as it did. -/
def fnExactExtractSpec : ChangeSpec := { name := "fnExactExtract", fn := fun _ => fun
  | [d1, d2] => { results := [.lit (.bool true)], args := [d1, d2] }
  | _ => none }
def fnExactExtractRow : OpenClaim := { program := "ytienlgcjohpphaa", sum := "93e544fdd69c01a6a3906ed0094b9c295da3389794f4df66c193430cd27b4b23", func := "loop.example/g00473/laws.FnExactExtract", spec := "fnExactExtract", inPlace := ["internal/bytealg.MakeNoZero"], apart := false }
def FnExactExtractSaid : Prop := fnExactExtractRow.holds Try.pinned (OpenSpec.ofChange fnExactExtractSpec)

/-- ITS FALSE NEIGHBOUR: 'it returns false'. Refute it at one input. -/
def fnExactExtractWrong : ChangeSpec := { name := "fnExactExtract", fn := fun _ => fun
  | [d1, d2] => { results := [.lit (.bool false)], args := [d1, d2] }
  | _ => none }
def FnExactExtractWrongFalsely : Prop := fnExactExtractRow.holds Try.pinned (OpenSpec.ofChange fnExactExtractWrong)

/-- 'laws.FnExactRouteOf': WHATEVER THE INPUT: true; the input reads as it did. -/
def fnExactRouteOfSpec : ChangeSpec := { name := "fnExactRouteOf", fn := fun _ => fun
  | [d1, d2] => { results := [.lit (.bool true)], args := [d1, d2] }
  | _ => none }
def fnExactRouteOfRow : OpenClaim := { program := "ytienlgcjohpphaa", sum := "93e544fdd69c01a6a3906ed0094b9c295da3389794f4df66c193430cd27b4b23", func := "loop.example/g00473/laws.FnExactRouteOf", spec := "fnExactRouteOf", inPlace := ["internal/bytealg.MakeNoZero"], apart := false }
def FnExactRouteOfSaid : Prop := fnExactRouteOfRow.holds Try.pinned (OpenSpec.ofChange fnExactRouteOfSpec)

/-- ITS FALSE NEIGHBOUR: 'it returns false'. Refute it at one input. -/
def fnExactRouteOfWrong : ChangeSpec := { name := "fnExactRouteOf", fn := fun _ => fun
  | [d1, d2] => { results := [.lit (.bool false)], args := [d1, d2] }
  | _ => none }
def FnExactRouteOfWrongFalsely : Prop := fnExactRouteOfRow.holds Try.pinned (OpenSpec.ofChange fnExactRouteOfWrong)

/-- 'laws.FnExactExpand': WHATEVER THE INPUT: true; the input reads as it did. -/
def fnExactExpandSpec : ChangeSpec := { name := "fnExactExpand", fn := fun _ => fun
  | [d1, d2, d3] => { results := [.lit (.bool true)], args := [d1, d2, d3] }
  | _ => none }
def fnExactExpandRow : OpenClaim := { program := "ytienlgcjohpphaa", sum := "93e544fdd69c01a6a3906ed0094b9c295da3389794f4df66c193430cd27b4b23", func := "loop.example/g00473/laws.FnExactExpand", spec := "fnExactExpand", inPlace := ["internal/bytealg.MakeNoZero"], apart := false }
def FnExactExpandSaid : Prop := fnExactExpandRow.holds Try.pinned (OpenSpec.ofChange fnExactExpandSpec)

/-- ITS FALSE NEIGHBOUR: 'it returns false'. Refute it at one input. -/
def fnExactExpandWrong : ChangeSpec := { name := "fnExactExpand", fn := fun _ => fun
  | [d1, d2, d3] => { results := [.lit (.bool false)], args := [d1, d2, d3] }
  | _ => none }
def FnExactExpandWrongFalsely : Prop := fnExactExpandRow.holds Try.pinned (OpenSpec.ofChange fnExactExpandWrong)

/-- 'laws.FnExactDerive': WHATEVER THE INPUT: true; the input reads as it did. -/
def fnExactDeriveSpec : ChangeSpec := { name := "fnExactDerive", fn := fun _ => fun
  | [d1, d2, d3, d4] => { results := [.lit (.bool true)], args := [d1, d2, d3, d4] }
  | _ => none }
def fnExactDeriveRow : OpenClaim := { program := "ytienlgcjohpphaa", sum := "93e544fdd69c01a6a3906ed0094b9c295da3389794f4df66c193430cd27b4b23", func := "loop.example/g00473/laws.FnExactDerive", spec := "fnExactDerive", inPlace := ["internal/bytealg.MakeNoZero"], apart := false }
def FnExactDeriveSaid : Prop := fnExactDeriveRow.holds Try.pinned (OpenSpec.ofChange fnExactDeriveSpec)

/-- ITS FALSE NEIGHBOUR: 'it returns false'. Refute it at one input. -/
def fnExactDeriveWrong : ChangeSpec := { name := "fnExactDerive", fn := fun _ => fun
  | [d1, d2, d3, d4] => { results := [.lit (.bool false)], args := [d1, d2, d3, d4] }
  | _ => none }
def FnExactDeriveWrongFalsely : Prop := fnExactDeriveRow.holds Try.pinned (OpenSpec.ofChange fnExactDeriveWrong)

/-- 'laws.FnExactSecretOf': WHATEVER THE INPUT: true; the input reads as it did. -/
def fnExactSecretOfSpec : ChangeSpec := { name := "fnExactSecretOf", fn := fun _ => fun
  | [d1, d2] => { results := [.lit (.bool true)], args := [d1, d2] }
  | _ => none }
def fnExactSecretOfRow : OpenClaim := { program := "ytienlgcjohpphaa", sum := "93e544fdd69c01a6a3906ed0094b9c295da3389794f4df66c193430cd27b4b23", func := "loop.example/g00473/laws.FnExactSecretOf", spec := "fnExactSecretOf", inPlace := ["internal/bytealg.MakeNoZero"], apart := false }
def FnExactSecretOfSaid : Prop := fnExactSecretOfRow.holds Try.pinned (OpenSpec.ofChange fnExactSecretOfSpec)

/-- ITS FALSE NEIGHBOUR: 'it returns false'. Refute it at one input. -/
def fnExactSecretOfWrong : ChangeSpec := { name := "fnExactSecretOf", fn := fun _ => fun
  | [d1, d2] => { results := [.lit (.bool false)], args := [d1, d2] }
  | _ => none }
def FnExactSecretOfWrongFalsely : Prop := fnExactSecretOfRow.holds Try.pinned (OpenSpec.ofChange fnExactSecretOfWrong)

/-- 'laws.FnExactKeysOf': WHATEVER THE INPUT: true; the input reads as it did. -/
def fnExactKeysOfSpec : ChangeSpec := { name := "fnExactKeysOf", fn := fun _ => fun
  | [d1, d2, d3] => { results := [.lit (.bool true)], args := [d1, d2, d3] }
  | _ => none }
def fnExactKeysOfRow : OpenClaim := { program := "ytienlgcjohpphaa", sum := "93e544fdd69c01a6a3906ed0094b9c295da3389794f4df66c193430cd27b4b23", func := "loop.example/g00473/laws.FnExactKeysOf", spec := "fnExactKeysOf", inPlace := ["internal/bytealg.MakeNoZero"], apart := false }
def FnExactKeysOfSaid : Prop := fnExactKeysOfRow.holds Try.pinned (OpenSpec.ofChange fnExactKeysOfSpec)

/-- ITS FALSE NEIGHBOUR: 'it returns false'. Refute it at one input. -/
def fnExactKeysOfWrong : ChangeSpec := { name := "fnExactKeysOf", fn := fun _ => fun
  | [d1, d2, d3] => { results := [.lit (.bool false)], args := [d1, d2, d3] }
  | _ => none }
def FnExactKeysOfWrongFalsely : Prop := fnExactKeysOfRow.holds Try.pinned (OpenSpec.ofChange fnExactKeysOfWrong)

/-- 'laws.FnMacs': WHATEVER THE INPUT: true; the input reads as it did. -/
def fnMacsSpec : ChangeSpec := { name := "fnMacs", fn := fun _ => fun
  | [d] => { results := [.lit (.bool true)], args := [d] }
  | _ => none }
def fnMacsRow : OpenClaim := { program := "ytienlgcjohpphaa", sum := "93e544fdd69c01a6a3906ed0094b9c295da3389794f4df66c193430cd27b4b23", func := "loop.example/g00473/laws.FnMacs", spec := "fnMacs", inPlace := ["internal/bytealg.MakeNoZero"], apart := false }
def FnMacsSaid : Prop := fnMacsRow.holds Try.pinned (OpenSpec.ofChange fnMacsSpec)

/-- ITS FALSE NEIGHBOUR: 'it returns false'. Refute it at one input. -/
def fnMacsWrong : ChangeSpec := { name := "fnMacs", fn := fun _ => fun
  | [d] => { results := [.lit (.bool false)], args := [d] }
  | _ => none }
def FnMacsWrongFalsely : Prop := fnMacsRow.holds Try.pinned (OpenSpec.ofChange fnMacsWrong)

/-- 'laws.FnLetters': WHATEVER THE INPUT: true; the input reads as it did. -/
def fnLettersSpec : ChangeSpec := { name := "fnLetters", fn := fun _ => fun
  | [d] => { results := [.lit (.bool true)], args := [d] }
  | _ => none }
def fnLettersRow : OpenClaim := { program := "ytienlgcjohpphaa", sum := "93e544fdd69c01a6a3906ed0094b9c295da3389794f4df66c193430cd27b4b23", func := "loop.example/g00473/laws.FnLetters", spec := "fnLetters", inPlace := ["internal/bytealg.MakeNoZero"], apart := false }
def FnLettersSaid : Prop := fnLettersRow.holds Try.pinned (OpenSpec.ofChange fnLettersSpec)

/-- ITS FALSE NEIGHBOUR: 'it returns false'. Refute it at one input. -/
def fnLettersWrong : ChangeSpec := { name := "fnLetters", fn := fun _ => fun
  | [d] => { results := [.lit (.bool false)], args := [d] }
  | _ => none }
def FnLettersWrongFalsely : Prop := fnLettersRow.holds Try.pinned (OpenSpec.ofChange fnLettersWrong)

/- THE SECOND FORM. 'bulk': how many values and letters a reading holds, each counted each time it is reached (what is shared counts as often as it is met; a slice's spare places count too). A statement '..UptoSaid' is the law's where the arguments, and the package variables that the reading takes, are together of bulk at most 1048576: NARROWER than '..Said'. Prove '..Said' where nothing that the law and all that it calls make is longer than what came in: it says more and counts as full. Else prove '..UptoSaid'. A law counts once. -/
mutual
def uptoBulk {H : Type} : DataW H → Nat
  | .lit (.string bytes) => bytes.length + 1
  | .lit _ => 1
  | .nil => 1
  | .ptr d => uptoBulk d + 1
  | .slice elems spare => uptoBulkAll elems + uptoBulkAll spare + 1
  | .agg parts => uptoBulkAll parts + 1
  | .iface _ d => uptoBulk d + 1
  | .map entries => uptoBulkEntries entries + 1
  | .held _ => 1
def uptoBulkAll {H : Type} : List (DataW H) → Nat
  | [] => 0
  | d :: r => uptoBulk d + uptoBulkAll r
def uptoBulkEntries {H : Type} : List (Lit × DataW H) → Nat
  | [] => 0
  | x :: r => uptoBulkEntry x + uptoBulkEntries r
def uptoBulkEntry {H : Type} : Lit × DataW H → Nat
  | (.string bytes, d) => bytes.length + uptoBulk d + 1
  | (_, d) => uptoBulk d + 1
 end
def uptoSmall : (H : Type) → List (DataW H) → Bool := fun _ ds => decide (uptoBulkAll ds ≤ 1048576)
def OpenSpec.upto (s : _root_.Go.ChangeSpec) : _root_.Go.OpenSpec := { _root_.Go.OpenSpec.ofChange s with cond := some uptoSmall }

/-- 'laws.FnExactHashBlock', WHERE WHAT IT READS IS OF BULK AT MOST 1048576: true; the input reads as it did. -/
def fnExactHashBlockUptoRow : OpenClaim := { program := "ytienlgcjohpphaa", sum := "93e544fdd69c01a6a3906ed0094b9c295da3389794f4df66c193430cd27b4b23", func := "loop.example/g00473/laws.FnExactHashBlock", spec := "fnExactHashBlock", apart := false, narrowed := true }
def FnExactHashBlockUptoSaid : Prop := fnExactHashBlockUptoRow.holds Try.pinned (OpenSpec.upto fnExactHashBlockSpec)

/-- 'laws.FnExactHash', WHERE WHAT IT READS IS OF BULK AT MOST 1048576: true; the input reads as it did. -/
def fnExactHashUptoRow : OpenClaim := { program := "ytienlgcjohpphaa", sum := "93e544fdd69c01a6a3906ed0094b9c295da3389794f4df66c193430cd27b4b23", func := "loop.example/g00473/laws.FnExactHash", spec := "fnExactHash", inPlace := ["internal/bytealg.MakeNoZero"], apart := false, narrowed := true }
def FnExactHashUptoSaid : Prop := fnExactHashUptoRow.holds Try.pinned (OpenSpec.upto fnExactHashSpec)

/-- 'laws.FnHashes', WHERE WHAT IT READS IS OF BULK AT MOST 1048576: true; the input reads as it did. -/
def fnHashesUptoRow : OpenClaim := { program := "ytienlgcjohpphaa", sum := "93e544fdd69c01a6a3906ed0094b9c295da3389794f4df66c193430cd27b4b23", func := "loop.example/g00473/laws.FnHashes", spec := "fnHashes", inPlace := ["internal/bytealg.MakeNoZero"], apart := false, narrowed := true }
def FnHashesUptoSaid : Prop := fnHashesUptoRow.holds Try.pinned (OpenSpec.upto fnHashesSpec)

/-- 'laws.FnExactMac', WHERE WHAT IT READS IS OF BULK AT MOST 1048576: true; the input reads as it did. -/
def fnExactMacUptoRow : OpenClaim := { program := "ytienlgcjohpphaa", sum := "93e544fdd69c01a6a3906ed0094b9c295da3389794f4df66c193430cd27b4b23", func := "loop.example/g00473/laws.FnExactMac", spec := "fnExactMac", inPlace := ["internal/bytealg.MakeNoZero"], apart := false, narrowed := true }
def FnExactMacUptoSaid : Prop := fnExactMacUptoRow.holds Try.pinned (OpenSpec.upto fnExactMacSpec)

/-- 'laws.FnExactExtract', WHERE WHAT IT READS IS OF BULK AT MOST 1048576: true; the input reads as it did. -/
def fnExactExtractUptoRow : OpenClaim := { program := "ytienlgcjohpphaa", sum := "93e544fdd69c01a6a3906ed0094b9c295da3389794f4df66c193430cd27b4b23", func := "loop.example/g00473/laws.FnExactExtract", spec := "fnExactExtract", inPlace := ["internal/bytealg.MakeNoZero"], apart := false, narrowed := true }
def FnExactExtractUptoSaid : Prop := fnExactExtractUptoRow.holds Try.pinned (OpenSpec.upto fnExactExtractSpec)

/-- 'laws.FnExactRouteOf', WHERE WHAT IT READS IS OF BULK AT MOST 1048576: true; the input reads as it did. -/
def fnExactRouteOfUptoRow : OpenClaim := { program := "ytienlgcjohpphaa", sum := "93e544fdd69c01a6a3906ed0094b9c295da3389794f4df66c193430cd27b4b23", func := "loop.example/g00473/laws.FnExactRouteOf", spec := "fnExactRouteOf", inPlace := ["internal/bytealg.MakeNoZero"], apart := false, narrowed := true }
def FnExactRouteOfUptoSaid : Prop := fnExactRouteOfUptoRow.holds Try.pinned (OpenSpec.upto fnExactRouteOfSpec)

/-- 'laws.FnExactExpand', WHERE WHAT IT READS IS OF BULK AT MOST 1048576: true; the input reads as it did. -/
def fnExactExpandUptoRow : OpenClaim := { program := "ytienlgcjohpphaa", sum := "93e544fdd69c01a6a3906ed0094b9c295da3389794f4df66c193430cd27b4b23", func := "loop.example/g00473/laws.FnExactExpand", spec := "fnExactExpand", inPlace := ["internal/bytealg.MakeNoZero"], apart := false, narrowed := true }
def FnExactExpandUptoSaid : Prop := fnExactExpandUptoRow.holds Try.pinned (OpenSpec.upto fnExactExpandSpec)

/-- 'laws.FnExactDerive', WHERE WHAT IT READS IS OF BULK AT MOST 1048576: true; the input reads as it did. -/
def fnExactDeriveUptoRow : OpenClaim := { program := "ytienlgcjohpphaa", sum := "93e544fdd69c01a6a3906ed0094b9c295da3389794f4df66c193430cd27b4b23", func := "loop.example/g00473/laws.FnExactDerive", spec := "fnExactDerive", inPlace := ["internal/bytealg.MakeNoZero"], apart := false, narrowed := true }
def FnExactDeriveUptoSaid : Prop := fnExactDeriveUptoRow.holds Try.pinned (OpenSpec.upto fnExactDeriveSpec)

/-- 'laws.FnExactSecretOf', WHERE WHAT IT READS IS OF BULK AT MOST 1048576: true; the input reads as it did. -/
def fnExactSecretOfUptoRow : OpenClaim := { program := "ytienlgcjohpphaa", sum := "93e544fdd69c01a6a3906ed0094b9c295da3389794f4df66c193430cd27b4b23", func := "loop.example/g00473/laws.FnExactSecretOf", spec := "fnExactSecretOf", inPlace := ["internal/bytealg.MakeNoZero"], apart := false, narrowed := true }
def FnExactSecretOfUptoSaid : Prop := fnExactSecretOfUptoRow.holds Try.pinned (OpenSpec.upto fnExactSecretOfSpec)

/-- 'laws.FnExactKeysOf', WHERE WHAT IT READS IS OF BULK AT MOST 1048576: true; the input reads as it did. -/
def fnExactKeysOfUptoRow : OpenClaim := { program := "ytienlgcjohpphaa", sum := "93e544fdd69c01a6a3906ed0094b9c295da3389794f4df66c193430cd27b4b23", func := "loop.example/g00473/laws.FnExactKeysOf", spec := "fnExactKeysOf", inPlace := ["internal/bytealg.MakeNoZero"], apart := false, narrowed := true }
def FnExactKeysOfUptoSaid : Prop := fnExactKeysOfUptoRow.holds Try.pinned (OpenSpec.upto fnExactKeysOfSpec)

/-- 'laws.FnMacs', WHERE WHAT IT READS IS OF BULK AT MOST 1048576: true; the input reads as it did. -/
def fnMacsUptoRow : OpenClaim := { program := "ytienlgcjohpphaa", sum := "93e544fdd69c01a6a3906ed0094b9c295da3389794f4df66c193430cd27b4b23", func := "loop.example/g00473/laws.FnMacs", spec := "fnMacs", inPlace := ["internal/bytealg.MakeNoZero"], apart := false, narrowed := true }
def FnMacsUptoSaid : Prop := fnMacsUptoRow.holds Try.pinned (OpenSpec.upto fnMacsSpec)

/-- 'laws.FnLetters', WHERE WHAT IT READS IS OF BULK AT MOST 1048576: true; the input reads as it did. -/
def fnLettersUptoRow : OpenClaim := { program := "ytienlgcjohpphaa", sum := "93e544fdd69c01a6a3906ed0094b9c295da3389794f4df66c193430cd27b4b23", func := "loop.example/g00473/laws.FnLetters", spec := "fnLetters", inPlace := ["internal/bytealg.MakeNoZero"], apart := false, narrowed := true }
def FnLettersUptoSaid : Prop := fnLettersUptoRow.holds Try.pinned (OpenSpec.upto fnLettersSpec)

end Rows
end Go.Proofs.Ytienlgcjohpphaa
