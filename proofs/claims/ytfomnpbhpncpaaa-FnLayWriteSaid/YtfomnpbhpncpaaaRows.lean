/-
  No cell of these rows narrows 'for every input' (looked for: loops, veiled, ifaces, maps, wideKeys, modest, calm, conditions, laid).
  DERIVED. THE GIVEN ROWS OF THIS SEAT. 12 by the template 'for every input the law returns true; each argument reads behind the call as it read before'; 0 by the template 'total and deterministic' (their statements: YtfomnpbhpncpaaaTotals.lean).
  GIVEN WITH THE SEED: the statements are not yours to turn. If you find one false, say at which input.
  Laid BY PROGRAM, IN A SANDBOX (cutbox-rows.mjs): the forced cells as the released guide's own fill.sh prints them over the translation 301ee8b92213f85b… (all of the seat's roots in one cut). By AI agents, Wed Nov 11 2026. No macro, syntax, notation, axiom, sorry.
-/
import Derived.Test.YtfomnpbhpncpaaaChecked
import GoSem.Claim
import GoSem.ClaimJoined
import GoSem.ClaimMapViews
import Derived.JoinedTies
import Derived.KernelRfl
namespace Go.Proofs.Ytfomnpbhpncpaaa
/- THE CELL 'sum', in the pinned program and in every row, IS THE sha256 OF THE DUMP (.gsa) THAT YtfomnpbhpncpaaaProg.lean LOADS. Nothing in Lean hashes anything: it is a label: what it is worth is what the hold of that sum in a sandbox is worth. -/
noncomputable def Try.pinned : Pinned := { name := "ytfomnpbhpncpaaa", sum := "301ee8b92213f85b4267a8c6d06dd3189cc481e914a8ad6b886c0fb0dc86bf46", checked := Try.checked }
namespace Rows
def none {H : Type} : Left H := { results := [], args := [] }

/-- 'laws.FnExactTextCut': WHATEVER THE INPUT: true; the input reads as it did. -/
def fnExactTextCutSpec : ChangeSpec := { name := "fnExactTextCut", fn := fun _ => fun
  | [d1, d2] => { results := [.lit (.bool true)], args := [d1, d2] }
  | _ => none }
def fnExactTextCutRow : OpenClaim := { program := "ytfomnpbhpncpaaa", sum := "301ee8b92213f85b4267a8c6d06dd3189cc481e914a8ad6b886c0fb0dc86bf46", func := "loop.example/pannage/laws.FnExactTextCut", spec := "fnExactTextCut", inPlace := ["internal/abi.NoEscape", "internal/bytealg.MakeNoZero"], apart := false }
def FnExactTextCutSaid : Prop := fnExactTextCutRow.holds Try.pinned (OpenSpec.ofChange fnExactTextCutSpec)

/-- ITS FALSE NEIGHBOUR: 'it returns false'. Refute it at one input. -/
def fnExactTextCutWrong : ChangeSpec := { name := "fnExactTextCut", fn := fun _ => fun
  | [d1, d2] => { results := [.lit (.bool false)], args := [d1, d2] }
  | _ => none }
def FnExactTextCutWrongFalsely : Prop := fnExactTextCutRow.holds Try.pinned (OpenSpec.ofChange fnExactTextCutWrong)

/-- 'laws.FnExactTextWrite': WHATEVER THE INPUT: true; the input reads as it did. -/
def fnExactTextWriteSpec : ChangeSpec := { name := "fnExactTextWrite", fn := fun _ => fun
  | [d1, d2, d3] => { results := [.lit (.bool true)], args := [d1, d2, d3] }
  | _ => none }
def fnExactTextWriteRow : OpenClaim := { program := "ytfomnpbhpncpaaa", sum := "301ee8b92213f85b4267a8c6d06dd3189cc481e914a8ad6b886c0fb0dc86bf46", func := "loop.example/pannage/laws.FnExactTextWrite", spec := "fnExactTextWrite", inPlace := ["internal/abi.NoEscape", "internal/bytealg.MakeNoZero"], apart := false }
def FnExactTextWriteSaid : Prop := fnExactTextWriteRow.holds Try.pinned (OpenSpec.ofChange fnExactTextWriteSpec)

/-- ITS FALSE NEIGHBOUR: 'it returns false'. Refute it at one input. -/
def fnExactTextWriteWrong : ChangeSpec := { name := "fnExactTextWrite", fn := fun _ => fun
  | [d1, d2, d3] => { results := [.lit (.bool false)], args := [d1, d2, d3] }
  | _ => none }
def FnExactTextWriteWrongFalsely : Prop := fnExactTextWriteRow.holds Try.pinned (OpenSpec.ofChange fnExactTextWriteWrong)

/-- 'laws.FnExactTextAll': WHATEVER THE INPUT: true; the input reads as it did. -/
def fnExactTextAllSpec : ChangeSpec := { name := "fnExactTextAll", fn := fun _ => fun
  | [d1, d2] => { results := [.lit (.bool true)], args := [d1, d2] }
  | _ => none }
def fnExactTextAllRow : OpenClaim := { program := "ytfomnpbhpncpaaa", sum := "301ee8b92213f85b4267a8c6d06dd3189cc481e914a8ad6b886c0fb0dc86bf46", func := "loop.example/pannage/laws.FnExactTextAll", spec := "fnExactTextAll", inPlace := ["internal/abi.NoEscape", "internal/bytealg.MakeNoZero"], apart := false }
def FnExactTextAllSaid : Prop := fnExactTextAllRow.holds Try.pinned (OpenSpec.ofChange fnExactTextAllSpec)

/-- ITS FALSE NEIGHBOUR: 'it returns false'. Refute it at one input. -/
def fnExactTextAllWrong : ChangeSpec := { name := "fnExactTextAll", fn := fun _ => fun
  | [d1, d2] => { results := [.lit (.bool false)], args := [d1, d2] }
  | _ => none }
def FnExactTextAllWrongFalsely : Prop := fnExactTextAllRow.holds Try.pinned (OpenSpec.ofChange fnExactTextAllWrong)

/-- 'laws.FnTextAll': WHATEVER THE INPUT: true; the input reads as it did. -/
def fnTextAllSpec : ChangeSpec := { name := "fnTextAll", fn := fun _ => fun
  | [d] => { results := [.lit (.bool true)], args := [d] }
  | _ => none }
def fnTextAllRow : OpenClaim := { program := "ytfomnpbhpncpaaa", sum := "301ee8b92213f85b4267a8c6d06dd3189cc481e914a8ad6b886c0fb0dc86bf46", func := "loop.example/pannage/laws.FnTextAll", spec := "fnTextAll", inPlace := ["internal/abi.NoEscape", "internal/bytealg.MakeNoZero"], apart := false }
def FnTextAllSaid : Prop := fnTextAllRow.holds Try.pinned (OpenSpec.ofChange fnTextAllSpec)

/-- ITS FALSE NEIGHBOUR: 'it returns false'. Refute it at one input. -/
def fnTextAllWrong : ChangeSpec := { name := "fnTextAll", fn := fun _ => fun
  | [d] => { results := [.lit (.bool false)], args := [d] }
  | _ => none }
def FnTextAllWrongFalsely : Prop := fnTextAllRow.holds Try.pinned (OpenSpec.ofChange fnTextAllWrong)

/-- 'laws.FnTextCut': WHATEVER THE INPUT: true; the input reads as it did. -/
def fnTextCutSpec : ChangeSpec := { name := "fnTextCut", fn := fun _ => fun
  | [d] => { results := [.lit (.bool true)], args := [d] }
  | _ => none }
def fnTextCutRow : OpenClaim := { program := "ytfomnpbhpncpaaa", sum := "301ee8b92213f85b4267a8c6d06dd3189cc481e914a8ad6b886c0fb0dc86bf46", func := "loop.example/pannage/laws.FnTextCut", spec := "fnTextCut", inPlace := ["internal/abi.NoEscape", "internal/bytealg.MakeNoZero"], apart := false }
def FnTextCutSaid : Prop := fnTextCutRow.holds Try.pinned (OpenSpec.ofChange fnTextCutSpec)

/-- ITS FALSE NEIGHBOUR: 'it returns false'. Refute it at one input. -/
def fnTextCutWrong : ChangeSpec := { name := "fnTextCut", fn := fun _ => fun
  | [d] => { results := [.lit (.bool false)], args := [d] }
  | _ => none }
def FnTextCutWrongFalsely : Prop := fnTextCutRow.holds Try.pinned (OpenSpec.ofChange fnTextCutWrong)

/-- 'laws.FnTextSplit': WHATEVER THE INPUT: true; the input reads as it did. -/
def fnTextSplitSpec : ChangeSpec := { name := "fnTextSplit", fn := fun _ => fun
  | [d1, d2] => { results := [.lit (.bool true)], args := [d1, d2] }
  | _ => none }
def fnTextSplitRow : OpenClaim := { program := "ytfomnpbhpncpaaa", sum := "301ee8b92213f85b4267a8c6d06dd3189cc481e914a8ad6b886c0fb0dc86bf46", func := "loop.example/pannage/laws.FnTextSplit", spec := "fnTextSplit", inPlace := ["internal/abi.NoEscape", "internal/bytealg.MakeNoZero"], apart := false }
def FnTextSplitSaid : Prop := fnTextSplitRow.holds Try.pinned (OpenSpec.ofChange fnTextSplitSpec)

/-- ITS FALSE NEIGHBOUR: 'it returns false'. Refute it at one input. -/
def fnTextSplitWrong : ChangeSpec := { name := "fnTextSplit", fn := fun _ => fun
  | [d1, d2] => { results := [.lit (.bool false)], args := [d1, d2] }
  | _ => none }
def FnTextSplitWrongFalsely : Prop := fnTextSplitRow.holds Try.pinned (OpenSpec.ofChange fnTextSplitWrong)

/-- 'laws.FnTextBack': WHATEVER THE INPUT: true; the input reads as it did. -/
def fnTextBackSpec : ChangeSpec := { name := "fnTextBack", fn := fun _ => fun
  | [d] => { results := [.lit (.bool true)], args := [d] }
  | _ => none }
def fnTextBackRow : OpenClaim := { program := "ytfomnpbhpncpaaa", sum := "301ee8b92213f85b4267a8c6d06dd3189cc481e914a8ad6b886c0fb0dc86bf46", func := "loop.example/pannage/laws.FnTextBack", spec := "fnTextBack", inPlace := ["internal/abi.NoEscape", "internal/bytealg.MakeNoZero"], apart := false }
def FnTextBackSaid : Prop := fnTextBackRow.holds Try.pinned (OpenSpec.ofChange fnTextBackSpec)

/-- ITS FALSE NEIGHBOUR: 'it returns false'. Refute it at one input. -/
def fnTextBackWrong : ChangeSpec := { name := "fnTextBack", fn := fun _ => fun
  | [d] => { results := [.lit (.bool false)], args := [d] }
  | _ => none }
def FnTextBackWrongFalsely : Prop := fnTextBackRow.holds Try.pinned (OpenSpec.ofChange fnTextBackWrong)

/-- 'laws.FnTextWrite': WHATEVER THE INPUT: true; the input reads as it did. -/
def fnTextWriteSpec : ChangeSpec := { name := "fnTextWrite", fn := fun _ => fun
  | [d] => { results := [.lit (.bool true)], args := [d] }
  | _ => none }
def fnTextWriteRow : OpenClaim := { program := "ytfomnpbhpncpaaa", sum := "301ee8b92213f85b4267a8c6d06dd3189cc481e914a8ad6b886c0fb0dc86bf46", func := "loop.example/pannage/laws.FnTextWrite", spec := "fnTextWrite", inPlace := ["internal/abi.NoEscape", "internal/bytealg.MakeNoZero"], apart := false }
def FnTextWriteSaid : Prop := fnTextWriteRow.holds Try.pinned (OpenSpec.ofChange fnTextWriteSpec)

/-- ITS FALSE NEIGHBOUR: 'it returns false'. Refute it at one input. -/
def fnTextWriteWrong : ChangeSpec := { name := "fnTextWrite", fn := fun _ => fun
  | [d] => { results := [.lit (.bool false)], args := [d] }
  | _ => none }
def FnTextWriteWrongFalsely : Prop := fnTextWriteRow.holds Try.pinned (OpenSpec.ofChange fnTextWriteWrong)

/-- 'laws.FnTextLong': WHATEVER THE INPUT: true; the input reads as it did. -/
def fnTextLongSpec : ChangeSpec := { name := "fnTextLong", fn := fun _ => fun
  | [d] => { results := [.lit (.bool true)], args := [d] }
  | _ => none }
def fnTextLongRow : OpenClaim := { program := "ytfomnpbhpncpaaa", sum := "301ee8b92213f85b4267a8c6d06dd3189cc481e914a8ad6b886c0fb0dc86bf46", func := "loop.example/pannage/laws.FnTextLong", spec := "fnTextLong", inPlace := ["internal/abi.NoEscape", "internal/bytealg.MakeNoZero"], apart := false }
def FnTextLongSaid : Prop := fnTextLongRow.holds Try.pinned (OpenSpec.ofChange fnTextLongSpec)

/-- ITS FALSE NEIGHBOUR: 'it returns false'. Refute it at one input. -/
def fnTextLongWrong : ChangeSpec := { name := "fnTextLong", fn := fun _ => fun
  | [d] => { results := [.lit (.bool false)], args := [d] }
  | _ => none }
def FnTextLongWrongFalsely : Prop := fnTextLongRow.holds Try.pinned (OpenSpec.ofChange fnTextLongWrong)

/-- 'laws.FnExactTextDiff': WHATEVER THE INPUT: true; the input reads as it did. -/
def fnExactTextDiffSpec : ChangeSpec := { name := "fnExactTextDiff", fn := fun _ => fun
  | [d1, d2] => { results := [.lit (.bool true)], args := [d1, d2] }
  | _ => none }
def fnExactTextDiffRow : OpenClaim := { program := "ytfomnpbhpncpaaa", sum := "301ee8b92213f85b4267a8c6d06dd3189cc481e914a8ad6b886c0fb0dc86bf46", func := "loop.example/pannage/laws.FnExactTextDiff", spec := "fnExactTextDiff", apart := false }
def FnExactTextDiffSaid : Prop := fnExactTextDiffRow.holds Try.pinned (OpenSpec.ofChange fnExactTextDiffSpec)

/-- ITS FALSE NEIGHBOUR: 'it returns false'. Refute it at one input. -/
def fnExactTextDiffWrong : ChangeSpec := { name := "fnExactTextDiff", fn := fun _ => fun
  | [d1, d2] => { results := [.lit (.bool false)], args := [d1, d2] }
  | _ => none }
def FnExactTextDiffWrongFalsely : Prop := fnExactTextDiffRow.holds Try.pinned (OpenSpec.ofChange fnExactTextDiffWrong)

/-- 'laws.FnTextDiff': WHATEVER THE INPUT: true; the input reads as it did. -/
def fnTextDiffSpec : ChangeSpec := { name := "fnTextDiff", fn := fun _ => fun
  | [d] => { results := [.lit (.bool true)], args := [d] }
  | _ => none }
def fnTextDiffRow : OpenClaim := { program := "ytfomnpbhpncpaaa", sum := "301ee8b92213f85b4267a8c6d06dd3189cc481e914a8ad6b886c0fb0dc86bf46", func := "loop.example/pannage/laws.FnTextDiff", spec := "fnTextDiff", inPlace := ["internal/abi.NoEscape", "internal/bytealg.MakeNoZero"], apart := false }
def FnTextDiffSaid : Prop := fnTextDiffRow.holds Try.pinned (OpenSpec.ofChange fnTextDiffSpec)

/-- ITS FALSE NEIGHBOUR: 'it returns false'. Refute it at one input. -/
def fnTextDiffWrong : ChangeSpec := { name := "fnTextDiff", fn := fun _ => fun
  | [d] => { results := [.lit (.bool false)], args := [d] }
  | _ => none }
def FnTextDiffWrongFalsely : Prop := fnTextDiffRow.holds Try.pinned (OpenSpec.ofChange fnTextDiffWrong)

/-- 'laws.FnLayWrite': WHATEVER THE INPUT: true; the input reads as it did. -/
def fnLayWriteSpec : ChangeSpec := { name := "fnLayWrite", fn := fun _ => fun
  | [d] => { results := [.lit (.bool true)], args := [d] }
  | _ => none }
def fnLayWriteRow : OpenClaim := { program := "ytfomnpbhpncpaaa", sum := "301ee8b92213f85b4267a8c6d06dd3189cc481e914a8ad6b886c0fb0dc86bf46", func := "loop.example/pannage/laws.FnLayWrite", spec := "fnLayWrite", inPlace := ["internal/abi.NoEscape", "internal/bytealg.MakeNoZero"], apart := false }
def FnLayWriteSaid : Prop := fnLayWriteRow.holds Try.pinned (OpenSpec.ofChange fnLayWriteSpec)

/-- ITS FALSE NEIGHBOUR: 'it returns false'. Refute it at one input. -/
def fnLayWriteWrong : ChangeSpec := { name := "fnLayWrite", fn := fun _ => fun
  | [d] => { results := [.lit (.bool false)], args := [d] }
  | _ => none }
def FnLayWriteWrongFalsely : Prop := fnLayWriteRow.holds Try.pinned (OpenSpec.ofChange fnLayWriteWrong)

/- THE SECOND FORM. 'bulk': how many values and letters a reading holds, each counted each time it is reached (what is shared counts as often as it is met; a slice's spare places count too). A statement '..UptoSaid' is the law's where the arguments, and the package variables that the reading takes, are together of bulk at most 1048576: NARROWER than '..Said'. Prove '..Said' where nothing that the law and all that it calls make is longer than what came in: it says more and counts as full. Else prove '..UptoSaid'. A law counts once. -/
mutual
def uptoBulk {H : Type} : DataW H → Nat
  | .lit (.string bytes) => bytes.length + 1
  | .lit _ => 1
  | .nil => 1
  | .ptr d => uptoBulk d + 1
  | .slice elems spare => uptoBulkAll elems + uptoBulkAll spare + 1
  | .agg parts => uptoBulkAll parts + 1
  | .iface _ d => uptoBulk d + 1
  | .map entries => uptoBulkEntries entries + 1
  | .held _ => 1
def uptoBulkAll {H : Type} : List (DataW H) → Nat
  | [] => 0
  | d :: r => uptoBulk d + uptoBulkAll r
def uptoBulkEntries {H : Type} : List (Lit × DataW H) → Nat
  | [] => 0
  | x :: r => uptoBulkEntry x + uptoBulkEntries r
def uptoBulkEntry {H : Type} : Lit × DataW H → Nat
  | (.string bytes, d) => bytes.length + uptoBulk d + 1
  | (_, d) => uptoBulk d + 1
 end
def uptoSmall : (H : Type) → List (DataW H) → Bool := fun _ ds => decide (uptoBulkAll ds ≤ 1048576)
def OpenSpec.upto (s : _root_.Go.ChangeSpec) : _root_.Go.OpenSpec := { _root_.Go.OpenSpec.ofChange s with cond := some uptoSmall }

/-- 'laws.FnExactTextCut', WHERE WHAT IT READS IS OF BULK AT MOST 1048576: true; the input reads as it did. -/
def fnExactTextCutUptoRow : OpenClaim := { program := "ytfomnpbhpncpaaa", sum := "301ee8b92213f85b4267a8c6d06dd3189cc481e914a8ad6b886c0fb0dc86bf46", func := "loop.example/pannage/laws.FnExactTextCut", spec := "fnExactTextCut", inPlace := ["internal/abi.NoEscape", "internal/bytealg.MakeNoZero"], apart := false, narrowed := true }
def FnExactTextCutUptoSaid : Prop := fnExactTextCutUptoRow.holds Try.pinned (OpenSpec.upto fnExactTextCutSpec)

/-- 'laws.FnExactTextWrite', WHERE WHAT IT READS IS OF BULK AT MOST 1048576: true; the input reads as it did. -/
def fnExactTextWriteUptoRow : OpenClaim := { program := "ytfomnpbhpncpaaa", sum := "301ee8b92213f85b4267a8c6d06dd3189cc481e914a8ad6b886c0fb0dc86bf46", func := "loop.example/pannage/laws.FnExactTextWrite", spec := "fnExactTextWrite", inPlace := ["internal/abi.NoEscape", "internal/bytealg.MakeNoZero"], apart := false, narrowed := true }
def FnExactTextWriteUptoSaid : Prop := fnExactTextWriteUptoRow.holds Try.pinned (OpenSpec.upto fnExactTextWriteSpec)

/-- 'laws.FnExactTextAll', WHERE WHAT IT READS IS OF BULK AT MOST 1048576: true; the input reads as it did. -/
def fnExactTextAllUptoRow : OpenClaim := { program := "ytfomnpbhpncpaaa", sum := "301ee8b92213f85b4267a8c6d06dd3189cc481e914a8ad6b886c0fb0dc86bf46", func := "loop.example/pannage/laws.FnExactTextAll", spec := "fnExactTextAll", inPlace := ["internal/abi.NoEscape", "internal/bytealg.MakeNoZero"], apart := false, narrowed := true }
def FnExactTextAllUptoSaid : Prop := fnExactTextAllUptoRow.holds Try.pinned (OpenSpec.upto fnExactTextAllSpec)

/-- 'laws.FnTextAll', WHERE WHAT IT READS IS OF BULK AT MOST 1048576: true; the input reads as it did. -/
def fnTextAllUptoRow : OpenClaim := { program := "ytfomnpbhpncpaaa", sum := "301ee8b92213f85b4267a8c6d06dd3189cc481e914a8ad6b886c0fb0dc86bf46", func := "loop.example/pannage/laws.FnTextAll", spec := "fnTextAll", inPlace := ["internal/abi.NoEscape", "internal/bytealg.MakeNoZero"], apart := false, narrowed := true }
def FnTextAllUptoSaid : Prop := fnTextAllUptoRow.holds Try.pinned (OpenSpec.upto fnTextAllSpec)

/-- 'laws.FnTextCut', WHERE WHAT IT READS IS OF BULK AT MOST 1048576: true; the input reads as it did. -/
def fnTextCutUptoRow : OpenClaim := { program := "ytfomnpbhpncpaaa", sum := "301ee8b92213f85b4267a8c6d06dd3189cc481e914a8ad6b886c0fb0dc86bf46", func := "loop.example/pannage/laws.FnTextCut", spec := "fnTextCut", inPlace := ["internal/abi.NoEscape", "internal/bytealg.MakeNoZero"], apart := false, narrowed := true }
def FnTextCutUptoSaid : Prop := fnTextCutUptoRow.holds Try.pinned (OpenSpec.upto fnTextCutSpec)

/-- 'laws.FnTextSplit', WHERE WHAT IT READS IS OF BULK AT MOST 1048576: true; the input reads as it did. -/
def fnTextSplitUptoRow : OpenClaim := { program := "ytfomnpbhpncpaaa", sum := "301ee8b92213f85b4267a8c6d06dd3189cc481e914a8ad6b886c0fb0dc86bf46", func := "loop.example/pannage/laws.FnTextSplit", spec := "fnTextSplit", inPlace := ["internal/abi.NoEscape", "internal/bytealg.MakeNoZero"], apart := false, narrowed := true }
def FnTextSplitUptoSaid : Prop := fnTextSplitUptoRow.holds Try.pinned (OpenSpec.upto fnTextSplitSpec)

/-- 'laws.FnTextBack', WHERE WHAT IT READS IS OF BULK AT MOST 1048576: true; the input reads as it did. -/
def fnTextBackUptoRow : OpenClaim := { program := "ytfomnpbhpncpaaa", sum := "301ee8b92213f85b4267a8c6d06dd3189cc481e914a8ad6b886c0fb0dc86bf46", func := "loop.example/pannage/laws.FnTextBack", spec := "fnTextBack", inPlace := ["internal/abi.NoEscape", "internal/bytealg.MakeNoZero"], apart := false, narrowed := true }
def FnTextBackUptoSaid : Prop := fnTextBackUptoRow.holds Try.pinned (OpenSpec.upto fnTextBackSpec)

/-- 'laws.FnTextWrite', WHERE WHAT IT READS IS OF BULK AT MOST 1048576: true; the input reads as it did. -/
def fnTextWriteUptoRow : OpenClaim := { program := "ytfomnpbhpncpaaa", sum := "301ee8b92213f85b4267a8c6d06dd3189cc481e914a8ad6b886c0fb0dc86bf46", func := "loop.example/pannage/laws.FnTextWrite", spec := "fnTextWrite", inPlace := ["internal/abi.NoEscape", "internal/bytealg.MakeNoZero"], apart := false, narrowed := true }
def FnTextWriteUptoSaid : Prop := fnTextWriteUptoRow.holds Try.pinned (OpenSpec.upto fnTextWriteSpec)

/-- 'laws.FnTextLong', WHERE WHAT IT READS IS OF BULK AT MOST 1048576: true; the input reads as it did. -/
def fnTextLongUptoRow : OpenClaim := { program := "ytfomnpbhpncpaaa", sum := "301ee8b92213f85b4267a8c6d06dd3189cc481e914a8ad6b886c0fb0dc86bf46", func := "loop.example/pannage/laws.FnTextLong", spec := "fnTextLong", inPlace := ["internal/abi.NoEscape", "internal/bytealg.MakeNoZero"], apart := false, narrowed := true }
def FnTextLongUptoSaid : Prop := fnTextLongUptoRow.holds Try.pinned (OpenSpec.upto fnTextLongSpec)

/-- 'laws.FnExactTextDiff', WHERE WHAT IT READS IS OF BULK AT MOST 1048576: true; the input reads as it did. -/
def fnExactTextDiffUptoRow : OpenClaim := { program := "ytfomnpbhpncpaaa", sum := "301ee8b92213f85b4267a8c6d06dd3189cc481e914a8ad6b886c0fb0dc86bf46", func := "loop.example/pannage/laws.FnExactTextDiff", spec := "fnExactTextDiff", apart := false, narrowed := true }
def FnExactTextDiffUptoSaid : Prop := fnExactTextDiffUptoRow.holds Try.pinned (OpenSpec.upto fnExactTextDiffSpec)

/-- 'laws.FnTextDiff', WHERE WHAT IT READS IS OF BULK AT MOST 1048576: true; the input reads as it did. -/
def fnTextDiffUptoRow : OpenClaim := { program := "ytfomnpbhpncpaaa", sum := "301ee8b92213f85b4267a8c6d06dd3189cc481e914a8ad6b886c0fb0dc86bf46", func := "loop.example/pannage/laws.FnTextDiff", spec := "fnTextDiff", inPlace := ["internal/abi.NoEscape", "internal/bytealg.MakeNoZero"], apart := false, narrowed := true }
def FnTextDiffUptoSaid : Prop := fnTextDiffUptoRow.holds Try.pinned (OpenSpec.upto fnTextDiffSpec)

/-- 'laws.FnLayWrite', WHERE WHAT IT READS IS OF BULK AT MOST 1048576: true; the input reads as it did. -/
def fnLayWriteUptoRow : OpenClaim := { program := "ytfomnpbhpncpaaa", sum := "301ee8b92213f85b4267a8c6d06dd3189cc481e914a8ad6b886c0fb0dc86bf46", func := "loop.example/pannage/laws.FnLayWrite", spec := "fnLayWrite", inPlace := ["internal/abi.NoEscape", "internal/bytealg.MakeNoZero"], apart := false, narrowed := true }
def FnLayWriteUptoSaid : Prop := fnLayWriteUptoRow.holds Try.pinned (OpenSpec.upto fnLayWriteSpec)

end Rows
end Go.Proofs.Ytfomnpbhpncpaaa
