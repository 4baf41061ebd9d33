/-
  No cell of these rows narrows 'for every input' (looked for: loops, veiled, ifaces, maps, wideKeys, modest, calm, conditions, laid).
  DERIVED. THE GIVEN ROWS OF THIS SEAT. 12 by the template 'for every input the law returns true; each argument reads behind the call as it read before'; 0 by the template 'total and deterministic' (their statements: YtbapokpkgonjkaaTotals.lean).
  GIVEN WITH THE SEED: the statements are not yours to turn. If you find one false, say at which input.
  Laid BY PROGRAM, IN A SANDBOX (cutbox-rows.mjs): the forced cells as the released guide's own fill.sh prints them over the translation 5b72c4d911a7b1ef… (all of the seat's roots in one cut). By AI agents, Wed Nov 11 2026. No macro, syntax, notation, axiom, sorry.
-/
import Derived.Test.YtbapokpkgonjkaaChecked
import GoSem.Claim
import GoSem.ClaimJoined
import GoSem.ClaimMapViews
import Derived.JoinedTies
import Derived.KernelRfl
namespace Go.Proofs.Ytbapokpkgonjkaa
/- THE CELL 'sum', in the pinned program and in every row, IS THE sha256 OF THE DUMP (.gsa) THAT YtbapokpkgonjkaaProg.lean LOADS. Nothing in Lean hashes anything: it is a label: what it is worth is what the hold of that sum in a sandbox is worth. -/
noncomputable def Try.pinned : Pinned := { name := "ytbapokpkgonjkaa", sum := "5b72c4d911a7b1ef0d7176bd3866f7d4ba664f84a5946c640b5d6230f4d99719", checked := Try.checked }
namespace Rows
def none {H : Type} : Left H := { results := [], args := [] }

/-- 'laws.FnExactValidDisk': WHATEVER THE INPUT: true; the input reads as it did. -/
def fnExactValidDiskSpec : ChangeSpec := { name := "fnExactValidDisk", fn := fun _ => fun
  | [d] => { results := [.lit (.bool true)], args := [d] }
  | _ => none }
def fnExactValidDiskRow : OpenClaim := { program := "ytbapokpkgonjkaa", sum := "5b72c4d911a7b1ef0d7176bd3866f7d4ba664f84a5946c640b5d6230f4d99719", func := "loop.example/s02132/laws.FnExactValidDisk", spec := "fnExactValidDisk", apart := false }
def FnExactValidDiskSaid : Prop := fnExactValidDiskRow.holds Try.pinned (OpenSpec.ofChange fnExactValidDiskSpec)

/-- ITS FALSE NEIGHBOUR: 'it returns false'. Refute it at one input. -/
def fnExactValidDiskWrong : ChangeSpec := { name := "fnExactValidDisk", fn := fun _ => fun
  | [d] => { results := [.lit (.bool false)], args := [d] }
  | _ => none }
def FnExactValidDiskWrongFalsely : Prop := fnExactValidDiskRow.holds Try.pinned (OpenSpec.ofChange fnExactValidDiskWrong)

/-- 'laws.FnExactEncodeSnapshot': WHATEVER THE INPUT: true; the input reads as it did. -/
def fnExactEncodeSnapshotSpec : ChangeSpec := { name := "fnExactEncodeSnapshot", fn := fun _ => fun
  | [d1, d2] => { results := [.lit (.bool true)], args := [d1, d2] }
  | _ => none }
def fnExactEncodeSnapshotRow : OpenClaim := { program := "ytbapokpkgonjkaa", sum := "5b72c4d911a7b1ef0d7176bd3866f7d4ba664f84a5946c640b5d6230f4d99719", func := "loop.example/s02132/laws.FnExactEncodeSnapshot", spec := "fnExactEncodeSnapshot", recurses := true, apart := false }
def FnExactEncodeSnapshotSaid : Prop := fnExactEncodeSnapshotRow.holds Try.pinned (OpenSpec.ofChange fnExactEncodeSnapshotSpec)

/-- ITS FALSE NEIGHBOUR: 'it returns false'. Refute it at one input. -/
def fnExactEncodeSnapshotWrong : ChangeSpec := { name := "fnExactEncodeSnapshot", fn := fun _ => fun
  | [d1, d2] => { results := [.lit (.bool false)], args := [d1, d2] }
  | _ => none }
def FnExactEncodeSnapshotWrongFalsely : Prop := fnExactEncodeSnapshotRow.holds Try.pinned (OpenSpec.ofChange fnExactEncodeSnapshotWrong)

/-- 'laws.FnExactEncodeRecord': WHATEVER THE INPUT: true; the input reads as it did. -/
def fnExactEncodeRecordSpec : ChangeSpec := { name := "fnExactEncodeRecord", fn := fun _ => fun
  | [d] => { results := [.lit (.bool true)], args := [d] }
  | _ => none }
def fnExactEncodeRecordRow : OpenClaim := { program := "ytbapokpkgonjkaa", sum := "5b72c4d911a7b1ef0d7176bd3866f7d4ba664f84a5946c640b5d6230f4d99719", func := "loop.example/s02132/laws.FnExactEncodeRecord", spec := "fnExactEncodeRecord", recurses := true, apart := false }
def FnExactEncodeRecordSaid : Prop := fnExactEncodeRecordRow.holds Try.pinned (OpenSpec.ofChange fnExactEncodeRecordSpec)

/-- ITS FALSE NEIGHBOUR: 'it returns false'. Refute it at one input. -/
def fnExactEncodeRecordWrong : ChangeSpec := { name := "fnExactEncodeRecord", fn := fun _ => fun
  | [d] => { results := [.lit (.bool false)], args := [d] }
  | _ => none }
def FnExactEncodeRecordWrongFalsely : Prop := fnExactEncodeRecordRow.holds Try.pinned (OpenSpec.ofChange fnExactEncodeRecordWrong)

/-- 'laws.FnExactDecodeSnapshot': WHATEVER THE INPUT: true; the input reads as it did. -/
def fnExactDecodeSnapshotSpec : ChangeSpec := { name := "fnExactDecodeSnapshot", fn := fun _ => fun
  | [d] => { results := [.lit (.bool true)], args := [d] }
  | _ => none }
def fnExactDecodeSnapshotRow : OpenClaim := { program := "ytbapokpkgonjkaa", sum := "5b72c4d911a7b1ef0d7176bd3866f7d4ba664f84a5946c640b5d6230f4d99719", func := "loop.example/s02132/laws.FnExactDecodeSnapshot", spec := "fnExactDecodeSnapshot", recurses := true, apart := false }
def FnExactDecodeSnapshotSaid : Prop := fnExactDecodeSnapshotRow.holds Try.pinned (OpenSpec.ofChange fnExactDecodeSnapshotSpec)

/-- ITS FALSE NEIGHBOUR: 'it returns false'. Refute it at one input. -/
def fnExactDecodeSnapshotWrong : ChangeSpec := { name := "fnExactDecodeSnapshot", fn := fun _ => fun
  | [d] => { results := [.lit (.bool false)], args := [d] }
  | _ => none }
def FnExactDecodeSnapshotWrongFalsely : Prop := fnExactDecodeSnapshotRow.holds Try.pinned (OpenSpec.ofChange fnExactDecodeSnapshotWrong)

/-- 'laws.FnExactReadLog': WHATEVER THE INPUT: true; the input reads as it did. -/
def fnExactReadLogSpec : ChangeSpec := { name := "fnExactReadLog", fn := fun _ => fun
  | [d] => { results := [.lit (.bool true)], args := [d] }
  | _ => none }
def fnExactReadLogRow : OpenClaim := { program := "ytbapokpkgonjkaa", sum := "5b72c4d911a7b1ef0d7176bd3866f7d4ba664f84a5946c640b5d6230f4d99719", func := "loop.example/s02132/laws.FnExactReadLog", spec := "fnExactReadLog", unfollowed := true, recurses := true, apart := false }
def FnExactReadLogSaid : Prop := fnExactReadLogRow.holds Try.pinned (OpenSpec.ofChange fnExactReadLogSpec)

/-- ITS FALSE NEIGHBOUR: 'it returns false'. Refute it at one input. -/
def fnExactReadLogWrong : ChangeSpec := { name := "fnExactReadLog", fn := fun _ => fun
  | [d] => { results := [.lit (.bool false)], args := [d] }
  | _ => none }
def FnExactReadLogWrongFalsely : Prop := fnExactReadLogRow.holds Try.pinned (OpenSpec.ofChange fnExactReadLogWrong)

/-- 'laws.FnExactDiskCrash': WHATEVER THE INPUT: true; the input reads as it did. -/
def fnExactDiskCrashSpec : ChangeSpec := { name := "fnExactDiskCrash", fn := fun _ => fun
  | [d1, d2] => { results := [.lit (.bool true)], args := [d1, d2] }
  | _ => none }
def fnExactDiskCrashRow : OpenClaim := { program := "ytbapokpkgonjkaa", sum := "5b72c4d911a7b1ef0d7176bd3866f7d4ba664f84a5946c640b5d6230f4d99719", func := "loop.example/s02132/laws.FnExactDiskCrash", spec := "fnExactDiskCrash", apart := false }
def FnExactDiskCrashSaid : Prop := fnExactDiskCrashRow.holds Try.pinned (OpenSpec.ofChange fnExactDiskCrashSpec)

/-- ITS FALSE NEIGHBOUR: 'it returns false'. Refute it at one input. -/
def fnExactDiskCrashWrong : ChangeSpec := { name := "fnExactDiskCrash", fn := fun _ => fun
  | [d1, d2] => { results := [.lit (.bool false)], args := [d1, d2] }
  | _ => none }
def FnExactDiskCrashWrongFalsely : Prop := fnExactDiskCrashRow.holds Try.pinned (OpenSpec.ofChange fnExactDiskCrashWrong)

/-- 'laws.FnExactDiskRename': WHATEVER THE INPUT: true; the input reads as it did. -/
def fnExactDiskRenameSpec : ChangeSpec := { name := "fnExactDiskRename", fn := fun _ => fun
  | [d] => { results := [.lit (.bool true)], args := [d] }
  | _ => none }
def fnExactDiskRenameRow : OpenClaim := { program := "ytbapokpkgonjkaa", sum := "5b72c4d911a7b1ef0d7176bd3866f7d4ba664f84a5946c640b5d6230f4d99719", func := "loop.example/s02132/laws.FnExactDiskRename", spec := "fnExactDiskRename", apart := false }
def FnExactDiskRenameSaid : Prop := fnExactDiskRenameRow.holds Try.pinned (OpenSpec.ofChange fnExactDiskRenameSpec)

/-- ITS FALSE NEIGHBOUR: 'it returns false'. Refute it at one input. -/
def fnExactDiskRenameWrong : ChangeSpec := { name := "fnExactDiskRename", fn := fun _ => fun
  | [d] => { results := [.lit (.bool false)], args := [d] }
  | _ => none }
def FnExactDiskRenameWrongFalsely : Prop := fnExactDiskRenameRow.holds Try.pinned (OpenSpec.ofChange fnExactDiskRenameWrong)

/-- 'laws.FnExactDiskReset': WHATEVER THE INPUT: true; the input reads as it did. -/
def fnExactDiskResetSpec : ChangeSpec := { name := "fnExactDiskReset", fn := fun _ => fun
  | [d1, d2] => { results := [.lit (.bool true)], args := [d1, d2] }
  | _ => none }
def fnExactDiskResetRow : OpenClaim := { program := "ytbapokpkgonjkaa", sum := "5b72c4d911a7b1ef0d7176bd3866f7d4ba664f84a5946c640b5d6230f4d99719", func := "loop.example/s02132/laws.FnExactDiskReset", spec := "fnExactDiskReset", unfollowed := true, recurses := true, apart := false }
def FnExactDiskResetSaid : Prop := fnExactDiskResetRow.holds Try.pinned (OpenSpec.ofChange fnExactDiskResetSpec)

/-- ITS FALSE NEIGHBOUR: 'it returns false'. Refute it at one input. -/
def fnExactDiskResetWrong : ChangeSpec := { name := "fnExactDiskReset", fn := fun _ => fun
  | [d1, d2] => { results := [.lit (.bool false)], args := [d1, d2] }
  | _ => none }
def FnExactDiskResetWrongFalsely : Prop := fnExactDiskResetRow.holds Try.pinned (OpenSpec.ofChange fnExactDiskResetWrong)

/-- 'laws.FnExactDiskSync': WHATEVER THE INPUT: true; the input reads as it did. -/
def fnExactDiskSyncSpec : ChangeSpec := { name := "fnExactDiskSync", fn := fun _ => fun
  | [d1, d2] => { results := [.lit (.bool true)], args := [d1, d2] }
  | _ => none }
def fnExactDiskSyncRow : OpenClaim := { program := "ytbapokpkgonjkaa", sum := "5b72c4d911a7b1ef0d7176bd3866f7d4ba664f84a5946c640b5d6230f4d99719", func := "loop.example/s02132/laws.FnExactDiskSync", spec := "fnExactDiskSync", unfollowed := true, recurses := true, apart := false }
def FnExactDiskSyncSaid : Prop := fnExactDiskSyncRow.holds Try.pinned (OpenSpec.ofChange fnExactDiskSyncSpec)

/-- ITS FALSE NEIGHBOUR: 'it returns false'. Refute it at one input. -/
def fnExactDiskSyncWrong : ChangeSpec := { name := "fnExactDiskSync", fn := fun _ => fun
  | [d1, d2] => { results := [.lit (.bool false)], args := [d1, d2] }
  | _ => none }
def FnExactDiskSyncWrongFalsely : Prop := fnExactDiskSyncRow.holds Try.pinned (OpenSpec.ofChange fnExactDiskSyncWrong)

/-- 'laws.FnExactDiskAppend': WHATEVER THE INPUT: true; the input reads as it did. -/
def fnExactDiskAppendSpec : ChangeSpec := { name := "fnExactDiskAppend", fn := fun _ => fun
  | [d1, d2, d3] => { results := [.lit (.bool true)], args := [d1, d2, d3] }
  | _ => none }
def fnExactDiskAppendRow : OpenClaim := { program := "ytbapokpkgonjkaa", sum := "5b72c4d911a7b1ef0d7176bd3866f7d4ba664f84a5946c640b5d6230f4d99719", func := "loop.example/s02132/laws.FnExactDiskAppend", spec := "fnExactDiskAppend", unfollowed := true, recurses := true, apart := false }
def FnExactDiskAppendSaid : Prop := fnExactDiskAppendRow.holds Try.pinned (OpenSpec.ofChange fnExactDiskAppendSpec)

/-- ITS FALSE NEIGHBOUR: 'it returns false'. Refute it at one input. -/
def fnExactDiskAppendWrong : ChangeSpec := { name := "fnExactDiskAppend", fn := fun _ => fun
  | [d1, d2, d3] => { results := [.lit (.bool false)], args := [d1, d2, d3] }
  | _ => none }
def FnExactDiskAppendWrongFalsely : Prop := fnExactDiskAppendRow.holds Try.pinned (OpenSpec.ofChange fnExactDiskAppendWrong)

/-- 'laws.FnDisk': WHATEVER THE INPUT: true; the input reads as it did. -/
def fnDiskSpec : ChangeSpec := { name := "fnDisk", fn := fun _ => fun
  | [d1, d2] => { results := [.lit (.bool true)], args := [d1, d2] }
  | _ => none }
def fnDiskRow : OpenClaim := { program := "ytbapokpkgonjkaa", sum := "5b72c4d911a7b1ef0d7176bd3866f7d4ba664f84a5946c640b5d6230f4d99719", func := "loop.example/s02132/laws.FnDisk", spec := "fnDisk", unfollowed := true, recurses := true, apart := false }
def FnDiskSaid : Prop := fnDiskRow.holds Try.pinned (OpenSpec.ofChange fnDiskSpec)

/-- ITS FALSE NEIGHBOUR: 'it returns false'. Refute it at one input. -/
def fnDiskWrong : ChangeSpec := { name := "fnDisk", fn := fun _ => fun
  | [d1, d2] => { results := [.lit (.bool false)], args := [d1, d2] }
  | _ => none }
def FnDiskWrongFalsely : Prop := fnDiskRow.holds Try.pinned (OpenSpec.ofChange fnDiskWrong)

/-- 'laws.FnLog': WHATEVER THE INPUT: true; the input reads as it did. -/
def fnLogSpec : ChangeSpec := { name := "fnLog", fn := fun _ => fun
  | [d1, d2] => { results := [.lit (.bool true)], args := [d1, d2] }
  | _ => none }
def fnLogRow : OpenClaim := { program := "ytbapokpkgonjkaa", sum := "5b72c4d911a7b1ef0d7176bd3866f7d4ba664f84a5946c640b5d6230f4d99719", func := "loop.example/s02132/laws.FnLog", spec := "fnLog", unfollowed := true, recurses := true, apart := false }
def FnLogSaid : Prop := fnLogRow.holds Try.pinned (OpenSpec.ofChange fnLogSpec)

/-- ITS FALSE NEIGHBOUR: 'it returns false'. Refute it at one input. -/
def fnLogWrong : ChangeSpec := { name := "fnLog", fn := fun _ => fun
  | [d1, d2] => { results := [.lit (.bool false)], args := [d1, d2] }
  | _ => none }
def FnLogWrongFalsely : Prop := fnLogRow.holds Try.pinned (OpenSpec.ofChange fnLogWrong)

/- THE SECOND FORM. 'bulk': how many values and letters a reading holds, each counted each time it is reached (what is shared counts as often as it is met; a slice's spare places count too). A statement '..UptoSaid' is the law's where the arguments, and the package variables that the reading takes, are together of bulk at most 1048576: NARROWER than '..Said'. Prove '..Said' where nothing that the law and all that it calls make is longer than what came in: it says more and counts as full. Else prove '..UptoSaid'. A law counts once. -/
mutual
def uptoBulk {H : Type} : DataW H → Nat
  | .lit (.string bytes) => bytes.length + 1
  | .lit _ => 1
  | .nil => 1
  | .ptr d => uptoBulk d + 1
  | .slice elems spare => uptoBulkAll elems + uptoBulkAll spare + 1
  | .agg parts => uptoBulkAll parts + 1
  | .iface _ d => uptoBulk d + 1
  | .map entries => uptoBulkEntries entries + 1
  | .held _ => 1
def uptoBulkAll {H : Type} : List (DataW H) → Nat
  | [] => 0
  | d :: r => uptoBulk d + uptoBulkAll r
def uptoBulkEntries {H : Type} : List (Lit × DataW H) → Nat
  | [] => 0
  | x :: r => uptoBulkEntry x + uptoBulkEntries r
def uptoBulkEntry {H : Type} : Lit × DataW H → Nat
  | (.string bytes, d) => bytes.length + uptoBulk d + 1
  | (_, d) => uptoBulk d + 1
 end
def uptoSmall : (H : Type) → List (DataW H) → Bool := fun _ ds => decide (uptoBulkAll ds ≤ 1048576)
def OpenSpec.upto (s : _root_.Go.ChangeSpec) : _root_.Go.OpenSpec := { _root_.Go.OpenSpec.ofChange s with cond := some uptoSmall }

/-- 'laws.FnExactValidDisk', WHERE WHAT IT READS IS OF BULK AT MOST 1048576: true; the input reads as it did. -/
def fnExactValidDiskUptoRow : OpenClaim := { program := "ytbapokpkgonjkaa", sum := "5b72c4d911a7b1ef0d7176bd3866f7d4ba664f84a5946c640b5d6230f4d99719", func := "loop.example/s02132/laws.FnExactValidDisk", spec := "fnExactValidDisk", apart := false, narrowed := true }
def FnExactValidDiskUptoSaid : Prop := fnExactValidDiskUptoRow.holds Try.pinned (OpenSpec.upto fnExactValidDiskSpec)

/-- 'laws.FnExactEncodeSnapshot', WHERE WHAT IT READS IS OF BULK AT MOST 1048576: true; the input reads as it did. -/
def fnExactEncodeSnapshotUptoRow : OpenClaim := { program := "ytbapokpkgonjkaa", sum := "5b72c4d911a7b1ef0d7176bd3866f7d4ba664f84a5946c640b5d6230f4d99719", func := "loop.example/s02132/laws.FnExactEncodeSnapshot", spec := "fnExactEncodeSnapshot", recurses := true, apart := false, narrowed := true }
def FnExactEncodeSnapshotUptoSaid : Prop := fnExactEncodeSnapshotUptoRow.holds Try.pinned (OpenSpec.upto fnExactEncodeSnapshotSpec)

/-- 'laws.FnExactEncodeRecord', WHERE WHAT IT READS IS OF BULK AT MOST 1048576: true; the input reads as it did. -/
def fnExactEncodeRecordUptoRow : OpenClaim := { program := "ytbapokpkgonjkaa", sum := "5b72c4d911a7b1ef0d7176bd3866f7d4ba664f84a5946c640b5d6230f4d99719", func := "loop.example/s02132/laws.FnExactEncodeRecord", spec := "fnExactEncodeRecord", recurses := true, apart := false, narrowed := true }
def FnExactEncodeRecordUptoSaid : Prop := fnExactEncodeRecordUptoRow.holds Try.pinned (OpenSpec.upto fnExactEncodeRecordSpec)

/-- 'laws.FnExactDecodeSnapshot', WHERE WHAT IT READS IS OF BULK AT MOST 1048576: true; the input reads as it did. -/
def fnExactDecodeSnapshotUptoRow : OpenClaim := { program := "ytbapokpkgonjkaa", sum := "5b72c4d911a7b1ef0d7176bd3866f7d4ba664f84a5946c640b5d6230f4d99719", func := "loop.example/s02132/laws.FnExactDecodeSnapshot", spec := "fnExactDecodeSnapshot", recurses := true, apart := false, narrowed := true }
def FnExactDecodeSnapshotUptoSaid : Prop := fnExactDecodeSnapshotUptoRow.holds Try.pinned (OpenSpec.upto fnExactDecodeSnapshotSpec)

/-- 'laws.FnExactReadLog', WHERE WHAT IT READS IS OF BULK AT MOST 1048576: true; the input reads as it did. -/
def fnExactReadLogUptoRow : OpenClaim := { program := "ytbapokpkgonjkaa", sum := "5b72c4d911a7b1ef0d7176bd3866f7d4ba664f84a5946c640b5d6230f4d99719", func := "loop.example/s02132/laws.FnExactReadLog", spec := "fnExactReadLog", unfollowed := true, recurses := true, apart := false, narrowed := true }
def FnExactReadLogUptoSaid : Prop := fnExactReadLogUptoRow.holds Try.pinned (OpenSpec.upto fnExactReadLogSpec)

/-- 'laws.FnExactDiskCrash', WHERE WHAT IT READS IS OF BULK AT MOST 1048576: true; the input reads as it did. -/
def fnExactDiskCrashUptoRow : OpenClaim := { program := "ytbapokpkgonjkaa", sum := "5b72c4d911a7b1ef0d7176bd3866f7d4ba664f84a5946c640b5d6230f4d99719", func := "loop.example/s02132/laws.FnExactDiskCrash", spec := "fnExactDiskCrash", apart := false, narrowed := true }
def FnExactDiskCrashUptoSaid : Prop := fnExactDiskCrashUptoRow.holds Try.pinned (OpenSpec.upto fnExactDiskCrashSpec)

/-- 'laws.FnExactDiskRename', WHERE WHAT IT READS IS OF BULK AT MOST 1048576: true; the input reads as it did. -/
def fnExactDiskRenameUptoRow : OpenClaim := { program := "ytbapokpkgonjkaa", sum := "5b72c4d911a7b1ef0d7176bd3866f7d4ba664f84a5946c640b5d6230f4d99719", func := "loop.example/s02132/laws.FnExactDiskRename", spec := "fnExactDiskRename", apart := false, narrowed := true }
def FnExactDiskRenameUptoSaid : Prop := fnExactDiskRenameUptoRow.holds Try.pinned (OpenSpec.upto fnExactDiskRenameSpec)

/-- 'laws.FnExactDiskReset', WHERE WHAT IT READS IS OF BULK AT MOST 1048576: true; the input reads as it did. -/
def fnExactDiskResetUptoRow : OpenClaim := { program := "ytbapokpkgonjkaa", sum := "5b72c4d911a7b1ef0d7176bd3866f7d4ba664f84a5946c640b5d6230f4d99719", func := "loop.example/s02132/laws.FnExactDiskReset", spec := "fnExactDiskReset", unfollowed := true, recurses := true, apart := false, narrowed := true }
def FnExactDiskResetUptoSaid : Prop := fnExactDiskResetUptoRow.holds Try.pinned (OpenSpec.upto fnExactDiskResetSpec)

/-- 'laws.FnExactDiskSync', WHERE WHAT IT READS IS OF BULK AT MOST 1048576: true; the input reads as it did. -/
def fnExactDiskSyncUptoRow : OpenClaim := { program := "ytbapokpkgonjkaa", sum := "5b72c4d911a7b1ef0d7176bd3866f7d4ba664f84a5946c640b5d6230f4d99719", func := "loop.example/s02132/laws.FnExactDiskSync", spec := "fnExactDiskSync", unfollowed := true, recurses := true, apart := false, narrowed := true }
def FnExactDiskSyncUptoSaid : Prop := fnExactDiskSyncUptoRow.holds Try.pinned (OpenSpec.upto fnExactDiskSyncSpec)

/-- 'laws.FnExactDiskAppend', WHERE WHAT IT READS IS OF BULK AT MOST 1048576: true; the input reads as it did. -/
def fnExactDiskAppendUptoRow : OpenClaim := { program := "ytbapokpkgonjkaa", sum := "5b72c4d911a7b1ef0d7176bd3866f7d4ba664f84a5946c640b5d6230f4d99719", func := "loop.example/s02132/laws.FnExactDiskAppend", spec := "fnExactDiskAppend", unfollowed := true, recurses := true, apart := false, narrowed := true }
def FnExactDiskAppendUptoSaid : Prop := fnExactDiskAppendUptoRow.holds Try.pinned (OpenSpec.upto fnExactDiskAppendSpec)

/-- 'laws.FnDisk', WHERE WHAT IT READS IS OF BULK AT MOST 1048576: true; the input reads as it did. -/
def fnDiskUptoRow : OpenClaim := { program := "ytbapokpkgonjkaa", sum := "5b72c4d911a7b1ef0d7176bd3866f7d4ba664f84a5946c640b5d6230f4d99719", func := "loop.example/s02132/laws.FnDisk", spec := "fnDisk", unfollowed := true, recurses := true, apart := false, narrowed := true }
def FnDiskUptoSaid : Prop := fnDiskUptoRow.holds Try.pinned (OpenSpec.upto fnDiskSpec)

/-- 'laws.FnLog', WHERE WHAT IT READS IS OF BULK AT MOST 1048576: true; the input reads as it did. -/
def fnLogUptoRow : OpenClaim := { program := "ytbapokpkgonjkaa", sum := "5b72c4d911a7b1ef0d7176bd3866f7d4ba664f84a5946c640b5d6230f4d99719", func := "loop.example/s02132/laws.FnLog", spec := "fnLog", unfollowed := true, recurses := true, apart := false, narrowed := true }
def FnLogUptoSaid : Prop := fnLogUptoRow.holds Try.pinned (OpenSpec.upto fnLogSpec)

end Rows
end Go.Proofs.Ytbapokpkgonjkaa
