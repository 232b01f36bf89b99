/-
  No cell of these rows narrows 'for every input' (looked for: loops, veiled, ifaces, maps, wideKeys, modest, calm, conditions, laid).
  DERIVED. THE GIVEN ROWS OF THIS SEAT. 15 by the template 'for every input the law returns true; each argument reads behind the call as it read before'; 0 by the template 'total and deterministic' (their statements: YtlalkldjpniakaaTotals.lean).
  GIVEN WITH THE SEED: the statements are not yours to turn. If you find one false, say at which input.
  Laid BY PROGRAM, IN A SANDBOX (cutbox-rows.mjs): the forced cells as the released guide's own fill.sh prints them over the translation 1681d4f985b3be35… (all of the seat's roots in one cut). By AI agents, Wed Nov 11 2026. No macro, syntax, notation, axiom, sorry.
-/
import Derived.Test.YtlalkldjpniakaaChecked
import GoSem.Claim
import GoSem.ClaimJoined
import GoSem.ClaimMapViews
import Derived.JoinedTies
import Derived.KernelRfl
namespace Go.Proofs.Ytlalkldjpniakaa
/- THE CELL 'sum', in the pinned program and in every row, IS THE sha256 OF THE DUMP (.gsa) THAT YtlalkldjpniakaaProg.lean LOADS. Nothing in Lean hashes anything: it is a label: what it is worth is what the hold of that sum in a sandbox is worth. -/
noncomputable def Try.pinned : Pinned := { name := "ytlalkldjpniakaa", sum := "1681d4f985b3be3583fc6beca159069024d9a78cbf6f70cc8bd528cef43a1f31", checked := Try.checked }
namespace Rows
def none {H : Type} : Left H := { results := [], args := [] }

/-- 'laws.FnExactOf': WHATEVER THE INPUT: true; the input reads as it did. -/
def fnExactOfSpec : ChangeSpec := { name := "fnExactOf", fn := fun _ => fun
  | [d1, d2] => { results := [.lit (.bool true)], args := [d1, d2] }
  | _ => none }
def fnExactOfRow : OpenClaim := { program := "ytlalkldjpniakaa", sum := "1681d4f985b3be3583fc6beca159069024d9a78cbf6f70cc8bd528cef43a1f31", func := "loop.example/g00473/laws.FnExactOf", spec := "fnExactOf", apart := false }
def FnExactOfSaid : Prop := fnExactOfRow.holds Try.pinned (OpenSpec.ofChange fnExactOfSpec)

/-- ITS FALSE NEIGHBOUR: 'it returns false'. Refute it at one input. -/
def fnExactOfWrong : ChangeSpec := { name := "fnExactOf", fn := fun _ => fun
  | [d1, d2] => { results := [.lit (.bool false)], args := [d1, d2] }
  | _ => none }
def FnExactOfWrongFalsely : Prop := fnExactOfRow.holds Try.pinned (OpenSpec.ofChange fnExactOfWrong)

/-- 'laws.FnExactItemOk': WHATEVER THE INPUT: true; the input reads as it did. -/
def fnExactItemOkSpec : ChangeSpec := { name := "fnExactItemOk", fn := fun _ => fun
  | [d] => { results := [.lit (.bool true)], args := [d] }
  | _ => none }
def fnExactItemOkRow : OpenClaim := { program := "ytlalkldjpniakaa", sum := "1681d4f985b3be3583fc6beca159069024d9a78cbf6f70cc8bd528cef43a1f31", func := "loop.example/g00473/laws.FnExactItemOk", spec := "fnExactItemOk", inPlace := ["internal/bytealg.IndexByteString"], apart := false }
def FnExactItemOkSaid : Prop := fnExactItemOkRow.holds Try.pinned (OpenSpec.ofChange fnExactItemOkSpec)

/-- ITS FALSE NEIGHBOUR: 'it returns false'. Refute it at one input. -/
def fnExactItemOkWrong : ChangeSpec := { name := "fnExactItemOk", fn := fun _ => fun
  | [d] => { results := [.lit (.bool false)], args := [d] }
  | _ => none }
def FnExactItemOkWrongFalsely : Prop := fnExactItemOkRow.holds Try.pinned (OpenSpec.ofChange fnExactItemOkWrong)

/-- 'laws.FnExactPostNew': WHATEVER THE INPUT: true; the input reads as it did. -/
def fnExactPostNewSpec : ChangeSpec := { name := "fnExactPostNew", fn := fun _ => fun
  | [] => { results := [.lit (.bool true)], args := [] }
  | _ => none }
def fnExactPostNewRow : OpenClaim := { program := "ytlalkldjpniakaa", sum := "1681d4f985b3be3583fc6beca159069024d9a78cbf6f70cc8bd528cef43a1f31", func := "loop.example/g00473/laws.FnExactPostNew", spec := "fnExactPostNew", apart := false }
def FnExactPostNewSaid : Prop := fnExactPostNewRow.holds Try.pinned (OpenSpec.ofChange fnExactPostNewSpec)

/-- ITS FALSE NEIGHBOUR: 'it returns false'. Refute it at one input. -/
def fnExactPostNewWrong : ChangeSpec := { name := "fnExactPostNew", fn := fun _ => fun
  | [] => { results := [.lit (.bool false)], args := [] }
  | _ => none }
def FnExactPostNewWrongFalsely : Prop := fnExactPostNewRow.holds Try.pinned (OpenSpec.ofChange fnExactPostNewWrong)

/-- 'laws.FnExactLineOk': WHATEVER THE INPUT: true; the input reads as it did. -/
def fnExactLineOkSpec : ChangeSpec := { name := "fnExactLineOk", fn := fun _ => fun
  | [d] => { results := [.lit (.bool true)], args := [d] }
  | _ => none }
def fnExactLineOkRow : OpenClaim := { program := "ytlalkldjpniakaa", sum := "1681d4f985b3be3583fc6beca159069024d9a78cbf6f70cc8bd528cef43a1f31", func := "loop.example/g00473/laws.FnExactLineOk", spec := "fnExactLineOk", inPlace := ["internal/bytealg.IndexByteString"], apart := false }
def FnExactLineOkSaid : Prop := fnExactLineOkRow.holds Try.pinned (OpenSpec.ofChange fnExactLineOkSpec)

/-- ITS FALSE NEIGHBOUR: 'it returns false'. Refute it at one input. -/
def fnExactLineOkWrong : ChangeSpec := { name := "fnExactLineOk", fn := fun _ => fun
  | [d] => { results := [.lit (.bool false)], args := [d] }
  | _ => none }
def FnExactLineOkWrongFalsely : Prop := fnExactLineOkRow.holds Try.pinned (OpenSpec.ofChange fnExactLineOkWrong)

/-- 'laws.FnExactDue': WHATEVER THE INPUT: true; the input reads as it did. -/
def fnExactDueSpec : ChangeSpec := { name := "fnExactDue", fn := fun _ => fun
  | [d1, d2] => { results := [.lit (.bool true)], args := [d1, d2] }
  | _ => none }
def fnExactDueRow : OpenClaim := { program := "ytlalkldjpniakaa", sum := "1681d4f985b3be3583fc6beca159069024d9a78cbf6f70cc8bd528cef43a1f31", func := "loop.example/g00473/laws.FnExactDue", spec := "fnExactDue", unfollowed := true, recurses := true, apart := false }
def FnExactDueSaid : Prop := fnExactDueRow.holds Try.pinned (OpenSpec.ofChange fnExactDueSpec)

/-- ITS FALSE NEIGHBOUR: 'it returns false'. Refute it at one input. -/
def fnExactDueWrong : ChangeSpec := { name := "fnExactDue", fn := fun _ => fun
  | [d1, d2] => { results := [.lit (.bool false)], args := [d1, d2] }
  | _ => none }
def FnExactDueWrongFalsely : Prop := fnExactDueRow.holds Try.pinned (OpenSpec.ofChange fnExactDueWrong)

/-- 'laws.FnExactQueueOk': WHATEVER THE INPUT: true; the input reads as it did. -/
def fnExactQueueOkSpec : ChangeSpec := { name := "fnExactQueueOk", fn := fun _ => fun
  | [d] => { results := [.lit (.bool true)], args := [d] }
  | _ => none }
def fnExactQueueOkRow : OpenClaim := { program := "ytlalkldjpniakaa", sum := "1681d4f985b3be3583fc6beca159069024d9a78cbf6f70cc8bd528cef43a1f31", func := "loop.example/g00473/laws.FnExactQueueOk", spec := "fnExactQueueOk", inPlace := ["internal/bytealg.IndexByteString"], unfollowed := true, recurses := true, apart := false }
def FnExactQueueOkSaid : Prop := fnExactQueueOkRow.holds Try.pinned (OpenSpec.ofChange fnExactQueueOkSpec)

/-- ITS FALSE NEIGHBOUR: 'it returns false'. Refute it at one input. -/
def fnExactQueueOkWrong : ChangeSpec := { name := "fnExactQueueOk", fn := fun _ => fun
  | [d] => { results := [.lit (.bool false)], args := [d] }
  | _ => none }
def FnExactQueueOkWrongFalsely : Prop := fnExactQueueOkRow.holds Try.pinned (OpenSpec.ofChange fnExactQueueOkWrong)

/-- 'laws.FnExactTake': WHATEVER THE INPUT: true; the input reads as it did. -/
def fnExactTakeSpec : ChangeSpec := { name := "fnExactTake", fn := fun _ => fun
  | [d1, d2] => { results := [.lit (.bool true)], args := [d1, d2] }
  | _ => none }
def fnExactTakeRow : OpenClaim := { program := "ytlalkldjpniakaa", sum := "1681d4f985b3be3583fc6beca159069024d9a78cbf6f70cc8bd528cef43a1f31", func := "loop.example/g00473/laws.FnExactTake", spec := "fnExactTake", unfollowed := true, recurses := true, apart := false }
def FnExactTakeSaid : Prop := fnExactTakeRow.holds Try.pinned (OpenSpec.ofChange fnExactTakeSpec)

/-- ITS FALSE NEIGHBOUR: 'it returns false'. Refute it at one input. -/
def fnExactTakeWrong : ChangeSpec := { name := "fnExactTake", fn := fun _ => fun
  | [d1, d2] => { results := [.lit (.bool false)], args := [d1, d2] }
  | _ => none }
def FnExactTakeWrongFalsely : Prop := fnExactTakeRow.holds Try.pinned (OpenSpec.ofChange fnExactTakeWrong)

/-- 'laws.FnExactLineBytes': WHATEVER THE INPUT: true; the input reads as it did. -/
def fnExactLineBytesSpec : ChangeSpec := { name := "fnExactLineBytes", fn := fun _ => fun
  | [d] => { results := [.lit (.bool true)], args := [d] }
  | _ => none }
def fnExactLineBytesRow : OpenClaim := { program := "ytlalkldjpniakaa", sum := "1681d4f985b3be3583fc6beca159069024d9a78cbf6f70cc8bd528cef43a1f31", func := "loop.example/g00473/laws.FnExactLineBytes", spec := "fnExactLineBytes", inPlace := ["internal/bytealg.IndexByteString", "internal/bytealg.MakeNoZero"], apart := false }
def FnExactLineBytesSaid : Prop := fnExactLineBytesRow.holds Try.pinned (OpenSpec.ofChange fnExactLineBytesSpec)

/-- ITS FALSE NEIGHBOUR: 'it returns false'. Refute it at one input. -/
def fnExactLineBytesWrong : ChangeSpec := { name := "fnExactLineBytes", fn := fun _ => fun
  | [d] => { results := [.lit (.bool false)], args := [d] }
  | _ => none }
def FnExactLineBytesWrongFalsely : Prop := fnExactLineBytesRow.holds Try.pinned (OpenSpec.ofChange fnExactLineBytesWrong)

/-- 'laws.FnExactLineOf': WHATEVER THE INPUT: true; the input reads as it did. -/
def fnExactLineOfSpec : ChangeSpec := { name := "fnExactLineOf", fn := fun _ => fun
  | [d1, d2] => { results := [.lit (.bool true)], args := [d1, d2] }
  | _ => none }
def fnExactLineOfRow : OpenClaim := { program := "ytlalkldjpniakaa", sum := "1681d4f985b3be3583fc6beca159069024d9a78cbf6f70cc8bd528cef43a1f31", func := "loop.example/g00473/laws.FnExactLineOf", spec := "fnExactLineOf", inPlace := ["internal/bytealg.IndexByteString", "internal/bytealg.MakeNoZero"], apart := false }
def FnExactLineOfSaid : Prop := fnExactLineOfRow.holds Try.pinned (OpenSpec.ofChange fnExactLineOfSpec)

/-- ITS FALSE NEIGHBOUR: 'it returns false'. Refute it at one input. -/
def fnExactLineOfWrong : ChangeSpec := { name := "fnExactLineOf", fn := fun _ => fun
  | [d1, d2] => { results := [.lit (.bool false)], args := [d1, d2] }
  | _ => none }
def FnExactLineOfWrongFalsely : Prop := fnExactLineOfRow.holds Try.pinned (OpenSpec.ofChange fnExactLineOfWrong)

/-- 'laws.FnQueues': WHATEVER THE INPUT: true; the input reads as it did. -/
def fnQueuesSpec : ChangeSpec := { name := "fnQueues", fn := fun _ => fun
  | [d] => { results := [.lit (.bool true)], args := [d] }
  | _ => none }
def fnQueuesRow : OpenClaim := { program := "ytlalkldjpniakaa", sum := "1681d4f985b3be3583fc6beca159069024d9a78cbf6f70cc8bd528cef43a1f31", func := "loop.example/g00473/laws.FnQueues", spec := "fnQueues", inPlace := ["internal/bytealg.IndexByteString"], unfollowed := true, recurses := true, apart := false }
def FnQueuesSaid : Prop := fnQueuesRow.holds Try.pinned (OpenSpec.ofChange fnQueuesSpec)

/-- ITS FALSE NEIGHBOUR: 'it returns false'. Refute it at one input. -/
def fnQueuesWrong : ChangeSpec := { name := "fnQueues", fn := fun _ => fun
  | [d] => { results := [.lit (.bool false)], args := [d] }
  | _ => none }
def FnQueuesWrongFalsely : Prop := fnQueuesRow.holds Try.pinned (OpenSpec.ofChange fnQueuesWrong)

/-- 'laws.FnExactPut': WHATEVER THE INPUT: true; the input reads as it did. -/
def fnExactPutSpec : ChangeSpec := { name := "fnExactPut", fn := fun _ => fun
  | [d1, d2] => { results := [.lit (.bool true)], args := [d1, d2] }
  | _ => none }
def fnExactPutRow : OpenClaim := { program := "ytlalkldjpniakaa", sum := "1681d4f985b3be3583fc6beca159069024d9a78cbf6f70cc8bd528cef43a1f31", func := "loop.example/g00473/laws.FnExactPut", spec := "fnExactPut", inPlace := ["internal/bytealg.IndexByteString"], unfollowed := true, recurses := true, apart := false }
def FnExactPutSaid : Prop := fnExactPutRow.holds Try.pinned (OpenSpec.ofChange fnExactPutSpec)

/-- ITS FALSE NEIGHBOUR: 'it returns false'. Refute it at one input. -/
def fnExactPutWrong : ChangeSpec := { name := "fnExactPut", fn := fun _ => fun
  | [d1, d2] => { results := [.lit (.bool false)], args := [d1, d2] }
  | _ => none }
def FnExactPutWrongFalsely : Prop := fnExactPutRow.holds Try.pinned (OpenSpec.ofChange fnExactPutWrong)

/-- 'laws.FnExactPlay': WHATEVER THE INPUT: true; the input reads as it did. -/
def fnExactPlaySpec : ChangeSpec := { name := "fnExactPlay", fn := fun _ => fun
  | [d] => { results := [.lit (.bool true)], args := [d] }
  | _ => none }
def fnExactPlayRow : OpenClaim := { program := "ytlalkldjpniakaa", sum := "1681d4f985b3be3583fc6beca159069024d9a78cbf6f70cc8bd528cef43a1f31", func := "loop.example/g00473/laws.FnExactPlay", spec := "fnExactPlay", inPlace := ["internal/bytealg.IndexByteString", "internal/bytealg.MakeNoZero"], unfollowed := true, recurses := true, apart := false }
def FnExactPlaySaid : Prop := fnExactPlayRow.holds Try.pinned (OpenSpec.ofChange fnExactPlaySpec)

/-- ITS FALSE NEIGHBOUR: 'it returns false'. Refute it at one input. -/
def fnExactPlayWrong : ChangeSpec := { name := "fnExactPlay", fn := fun _ => fun
  | [d] => { results := [.lit (.bool false)], args := [d] }
  | _ => none }
def FnExactPlayWrongFalsely : Prop := fnExactPlayRow.holds Try.pinned (OpenSpec.ofChange fnExactPlayWrong)

/-- 'laws.FnBooks': WHATEVER THE INPUT: true; the input reads as it did. -/
def fnBooksSpec : ChangeSpec := { name := "fnBooks", fn := fun _ => fun
  | [d] => { results := [.lit (.bool true)], args := [d] }
  | _ => none }
def fnBooksRow : OpenClaim := { program := "ytlalkldjpniakaa", sum := "1681d4f985b3be3583fc6beca159069024d9a78cbf6f70cc8bd528cef43a1f31", func := "loop.example/g00473/laws.FnBooks", spec := "fnBooks", inPlace := ["internal/bytealg.IndexByteString", "internal/bytealg.MakeNoZero"], unfollowed := true, recurses := true, apart := false }
def FnBooksSaid : Prop := fnBooksRow.holds Try.pinned (OpenSpec.ofChange fnBooksSpec)

/-- ITS FALSE NEIGHBOUR: 'it returns false'. Refute it at one input. -/
def fnBooksWrong : ChangeSpec := { name := "fnBooks", fn := fun _ => fun
  | [d] => { results := [.lit (.bool false)], args := [d] }
  | _ => none }
def FnBooksWrongFalsely : Prop := fnBooksRow.holds Try.pinned (OpenSpec.ofChange fnBooksWrong)

/-- 'laws.FnExactPostOk': WHATEVER THE INPUT: true; the input reads as it did. -/
def fnExactPostOkSpec : ChangeSpec := { name := "fnExactPostOk", fn := fun _ => fun
  | [d] => { results := [.lit (.bool true)], args := [d] }
  | _ => none }
def fnExactPostOkRow : OpenClaim := { program := "ytlalkldjpniakaa", sum := "1681d4f985b3be3583fc6beca159069024d9a78cbf6f70cc8bd528cef43a1f31", func := "loop.example/g00473/laws.FnExactPostOk", spec := "fnExactPostOk", inPlace := ["internal/bytealg.IndexByteString", "internal/bytealg.MakeNoZero"], unfollowed := true, recurses := true, apart := false }
def FnExactPostOkSaid : Prop := fnExactPostOkRow.holds Try.pinned (OpenSpec.ofChange fnExactPostOkSpec)

/-- ITS FALSE NEIGHBOUR: 'it returns false'. Refute it at one input. -/
def fnExactPostOkWrong : ChangeSpec := { name := "fnExactPostOk", fn := fun _ => fun
  | [d] => { results := [.lit (.bool false)], args := [d] }
  | _ => none }
def FnExactPostOkWrongFalsely : Prop := fnExactPostOkRow.holds Try.pinned (OpenSpec.ofChange fnExactPostOkWrong)

/-- 'laws.FnFalls': WHATEVER THE INPUT: true; the input reads as it did. -/
def fnFallsSpec : ChangeSpec := { name := "fnFalls", fn := fun _ => fun
  | [d] => { results := [.lit (.bool true)], args := [d] }
  | _ => none }
def fnFallsRow : OpenClaim := { program := "ytlalkldjpniakaa", sum := "1681d4f985b3be3583fc6beca159069024d9a78cbf6f70cc8bd528cef43a1f31", func := "loop.example/g00473/laws.FnFalls", spec := "fnFalls", inPlace := ["internal/bytealg.IndexByteString", "internal/bytealg.MakeNoZero"], unfollowed := true, recurses := true, apart := false }
def FnFallsSaid : Prop := fnFallsRow.holds Try.pinned (OpenSpec.ofChange fnFallsSpec)

/-- ITS FALSE NEIGHBOUR: 'it returns false'. Refute it at one input. -/
def fnFallsWrong : ChangeSpec := { name := "fnFalls", fn := fun _ => fun
  | [d] => { results := [.lit (.bool false)], args := [d] }
  | _ => none }
def FnFallsWrongFalsely : Prop := fnFallsRow.holds Try.pinned (OpenSpec.ofChange fnFallsWrong)

/- THE SECOND FORM. 'bulk': how many values and letters a reading holds, each counted each time it is reached (what is shared counts as often as it is met; a slice's spare places count too). A statement '..UptoSaid' is the law's where the arguments, and the package variables that the reading takes, are together of bulk at most 1048576: NARROWER than '..Said'. Prove '..Said' where nothing that the law and all that it calls make is longer than what came in: it says more and counts as full. Else prove '..UptoSaid'. A law counts once. -/
mutual
def uptoBulk {H : Type} : DataW H → Nat
  | .lit (.string bytes) => bytes.length + 1
  | .lit _ => 1
  | .nil => 1
  | .ptr d => uptoBulk d + 1
  | .slice elems spare => uptoBulkAll elems + uptoBulkAll spare + 1
  | .agg parts => uptoBulkAll parts + 1
  | .iface _ d => uptoBulk d + 1
  | .map entries => uptoBulkEntries entries + 1
  | .held _ => 1
def uptoBulkAll {H : Type} : List (DataW H) → Nat
  | [] => 0
  | d :: r => uptoBulk d + uptoBulkAll r
def uptoBulkEntries {H : Type} : List (Lit × DataW H) → Nat
  | [] => 0
  | x :: r => uptoBulkEntry x + uptoBulkEntries r
def uptoBulkEntry {H : Type} : Lit × DataW H → Nat
  | (.string bytes, d) => bytes.length + uptoBulk d + 1
  | (_, d) => uptoBulk d + 1
 end
def uptoSmall : (H : Type) → List (DataW H) → Bool := fun _ ds => decide (uptoBulkAll ds ≤ 1048576)
def OpenSpec.upto (s : _root_.Go.ChangeSpec) : _root_.Go.OpenSpec := { _root_.Go.OpenSpec.ofChange s with cond := some uptoSmall }

/-- 'laws.FnExactOf', WHERE WHAT IT READS IS OF BULK AT MOST 1048576: true; the input reads as it did. -/
def fnExactOfUptoRow : OpenClaim := { program := "ytlalkldjpniakaa", sum := "1681d4f985b3be3583fc6beca159069024d9a78cbf6f70cc8bd528cef43a1f31", func := "loop.example/g00473/laws.FnExactOf", spec := "fnExactOf", apart := false, narrowed := true }
def FnExactOfUptoSaid : Prop := fnExactOfUptoRow.holds Try.pinned (OpenSpec.upto fnExactOfSpec)

/-- 'laws.FnExactItemOk', WHERE WHAT IT READS IS OF BULK AT MOST 1048576: true; the input reads as it did. -/
def fnExactItemOkUptoRow : OpenClaim := { program := "ytlalkldjpniakaa", sum := "1681d4f985b3be3583fc6beca159069024d9a78cbf6f70cc8bd528cef43a1f31", func := "loop.example/g00473/laws.FnExactItemOk", spec := "fnExactItemOk", inPlace := ["internal/bytealg.IndexByteString"], apart := false, narrowed := true }
def FnExactItemOkUptoSaid : Prop := fnExactItemOkUptoRow.holds Try.pinned (OpenSpec.upto fnExactItemOkSpec)

/-- 'laws.FnExactPostNew', WHERE WHAT IT READS IS OF BULK AT MOST 1048576: true; the input reads as it did. -/
def fnExactPostNewUptoRow : OpenClaim := { program := "ytlalkldjpniakaa", sum := "1681d4f985b3be3583fc6beca159069024d9a78cbf6f70cc8bd528cef43a1f31", func := "loop.example/g00473/laws.FnExactPostNew", spec := "fnExactPostNew", apart := false, narrowed := true }
def FnExactPostNewUptoSaid : Prop := fnExactPostNewUptoRow.holds Try.pinned (OpenSpec.upto fnExactPostNewSpec)

/-- 'laws.FnExactLineOk', WHERE WHAT IT READS IS OF BULK AT MOST 1048576: true; the input reads as it did. -/
def fnExactLineOkUptoRow : OpenClaim := { program := "ytlalkldjpniakaa", sum := "1681d4f985b3be3583fc6beca159069024d9a78cbf6f70cc8bd528cef43a1f31", func := "loop.example/g00473/laws.FnExactLineOk", spec := "fnExactLineOk", inPlace := ["internal/bytealg.IndexByteString"], apart := false, narrowed := true }
def FnExactLineOkUptoSaid : Prop := fnExactLineOkUptoRow.holds Try.pinned (OpenSpec.upto fnExactLineOkSpec)

/-- 'laws.FnExactDue', WHERE WHAT IT READS IS OF BULK AT MOST 1048576: true; the input reads as it did. -/
def fnExactDueUptoRow : OpenClaim := { program := "ytlalkldjpniakaa", sum := "1681d4f985b3be3583fc6beca159069024d9a78cbf6f70cc8bd528cef43a1f31", func := "loop.example/g00473/laws.FnExactDue", spec := "fnExactDue", unfollowed := true, recurses := true, apart := false, narrowed := true }
def FnExactDueUptoSaid : Prop := fnExactDueUptoRow.holds Try.pinned (OpenSpec.upto fnExactDueSpec)

/-- 'laws.FnExactQueueOk', WHERE WHAT IT READS IS OF BULK AT MOST 1048576: true; the input reads as it did. -/
def fnExactQueueOkUptoRow : OpenClaim := { program := "ytlalkldjpniakaa", sum := "1681d4f985b3be3583fc6beca159069024d9a78cbf6f70cc8bd528cef43a1f31", func := "loop.example/g00473/laws.FnExactQueueOk", spec := "fnExactQueueOk", inPlace := ["internal/bytealg.IndexByteString"], unfollowed := true, recurses := true, apart := false, narrowed := true }
def FnExactQueueOkUptoSaid : Prop := fnExactQueueOkUptoRow.holds Try.pinned (OpenSpec.upto fnExactQueueOkSpec)

/-- 'laws.FnExactTake', WHERE WHAT IT READS IS OF BULK AT MOST 1048576: true; the input reads as it did. -/
def fnExactTakeUptoRow : OpenClaim := { program := "ytlalkldjpniakaa", sum := "1681d4f985b3be3583fc6beca159069024d9a78cbf6f70cc8bd528cef43a1f31", func := "loop.example/g00473/laws.FnExactTake", spec := "fnExactTake", unfollowed := true, recurses := true, apart := false, narrowed := true }
def FnExactTakeUptoSaid : Prop := fnExactTakeUptoRow.holds Try.pinned (OpenSpec.upto fnExactTakeSpec)

/-- 'laws.FnExactLineBytes', WHERE WHAT IT READS IS OF BULK AT MOST 1048576: true; the input reads as it did. -/
def fnExactLineBytesUptoRow : OpenClaim := { program := "ytlalkldjpniakaa", sum := "1681d4f985b3be3583fc6beca159069024d9a78cbf6f70cc8bd528cef43a1f31", func := "loop.example/g00473/laws.FnExactLineBytes", spec := "fnExactLineBytes", inPlace := ["internal/bytealg.IndexByteString", "internal/bytealg.MakeNoZero"], apart := false, narrowed := true }
def FnExactLineBytesUptoSaid : Prop := fnExactLineBytesUptoRow.holds Try.pinned (OpenSpec.upto fnExactLineBytesSpec)

/-- 'laws.FnExactLineOf', WHERE WHAT IT READS IS OF BULK AT MOST 1048576: true; the input reads as it did. -/
def fnExactLineOfUptoRow : OpenClaim := { program := "ytlalkldjpniakaa", sum := "1681d4f985b3be3583fc6beca159069024d9a78cbf6f70cc8bd528cef43a1f31", func := "loop.example/g00473/laws.FnExactLineOf", spec := "fnExactLineOf", inPlace := ["internal/bytealg.IndexByteString", "internal/bytealg.MakeNoZero"], apart := false, narrowed := true }
def FnExactLineOfUptoSaid : Prop := fnExactLineOfUptoRow.holds Try.pinned (OpenSpec.upto fnExactLineOfSpec)

/-- 'laws.FnQueues', WHERE WHAT IT READS IS OF BULK AT MOST 1048576: true; the input reads as it did. -/
def fnQueuesUptoRow : OpenClaim := { program := "ytlalkldjpniakaa", sum := "1681d4f985b3be3583fc6beca159069024d9a78cbf6f70cc8bd528cef43a1f31", func := "loop.example/g00473/laws.FnQueues", spec := "fnQueues", inPlace := ["internal/bytealg.IndexByteString"], unfollowed := true, recurses := true, apart := false, narrowed := true }
def FnQueuesUptoSaid : Prop := fnQueuesUptoRow.holds Try.pinned (OpenSpec.upto fnQueuesSpec)

/-- 'laws.FnExactPut', WHERE WHAT IT READS IS OF BULK AT MOST 1048576: true; the input reads as it did. -/
def fnExactPutUptoRow : OpenClaim := { program := "ytlalkldjpniakaa", sum := "1681d4f985b3be3583fc6beca159069024d9a78cbf6f70cc8bd528cef43a1f31", func := "loop.example/g00473/laws.FnExactPut", spec := "fnExactPut", inPlace := ["internal/bytealg.IndexByteString"], unfollowed := true, recurses := true, apart := false, narrowed := true }
def FnExactPutUptoSaid : Prop := fnExactPutUptoRow.holds Try.pinned (OpenSpec.upto fnExactPutSpec)

/-- 'laws.FnExactPlay', WHERE WHAT IT READS IS OF BULK AT MOST 1048576: true; the input reads as it did. -/
def fnExactPlayUptoRow : OpenClaim := { program := "ytlalkldjpniakaa", sum := "1681d4f985b3be3583fc6beca159069024d9a78cbf6f70cc8bd528cef43a1f31", func := "loop.example/g00473/laws.FnExactPlay", spec := "fnExactPlay", inPlace := ["internal/bytealg.IndexByteString", "internal/bytealg.MakeNoZero"], unfollowed := true, recurses := true, apart := false, narrowed := true }
def FnExactPlayUptoSaid : Prop := fnExactPlayUptoRow.holds Try.pinned (OpenSpec.upto fnExactPlaySpec)

/-- 'laws.FnBooks', WHERE WHAT IT READS IS OF BULK AT MOST 1048576: true; the input reads as it did. -/
def fnBooksUptoRow : OpenClaim := { program := "ytlalkldjpniakaa", sum := "1681d4f985b3be3583fc6beca159069024d9a78cbf6f70cc8bd528cef43a1f31", func := "loop.example/g00473/laws.FnBooks", spec := "fnBooks", inPlace := ["internal/bytealg.IndexByteString", "internal/bytealg.MakeNoZero"], unfollowed := true, recurses := true, apart := false, narrowed := true }
def FnBooksUptoSaid : Prop := fnBooksUptoRow.holds Try.pinned (OpenSpec.upto fnBooksSpec)

/-- 'laws.FnExactPostOk', WHERE WHAT IT READS IS OF BULK AT MOST 1048576: true; the input reads as it did. -/
def fnExactPostOkUptoRow : OpenClaim := { program := "ytlalkldjpniakaa", sum := "1681d4f985b3be3583fc6beca159069024d9a78cbf6f70cc8bd528cef43a1f31", func := "loop.example/g00473/laws.FnExactPostOk", spec := "fnExactPostOk", inPlace := ["internal/bytealg.IndexByteString", "internal/bytealg.MakeNoZero"], unfollowed := true, recurses := true, apart := false, narrowed := true }
def FnExactPostOkUptoSaid : Prop := fnExactPostOkUptoRow.holds Try.pinned (OpenSpec.upto fnExactPostOkSpec)

/-- 'laws.FnFalls', WHERE WHAT IT READS IS OF BULK AT MOST 1048576: true; the input reads as it did. -/
def fnFallsUptoRow : OpenClaim := { program := "ytlalkldjpniakaa", sum := "1681d4f985b3be3583fc6beca159069024d9a78cbf6f70cc8bd528cef43a1f31", func := "loop.example/g00473/laws.FnFalls", spec := "fnFalls", inPlace := ["internal/bytealg.IndexByteString", "internal/bytealg.MakeNoZero"], unfollowed := true, recurses := true, apart := false, narrowed := true }
def FnFallsUptoSaid : Prop := fnFallsUptoRow.holds Try.pinned (OpenSpec.upto fnFallsSpec)

end Rows
end Go.Proofs.Ytlalkldjpniakaa
