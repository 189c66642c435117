/-
  No cell of these rows narrows 'for every input' (looked for: loops, veiled, ifaces, maps, wideKeys, modest, calm, conditions, laid).
  DERIVED. THE GIVEN ROWS OF THIS SEAT. 12 by the template 'for every input the law returns true; each argument reads behind the call as it read before'; 0 by the template 'total and deterministic' (their statements: YtdbmipnbcbhcnaaTotals.lean).
  GIVEN WITH THE SEED: the statements are not yours to turn. If you find one false, say at which input.
  Laid BY PROGRAM, IN A SANDBOX (cutbox-rows.mjs): the forced cells as the released guide's own fill.sh prints them over the translation 91c388fb10f6d06b… (all of the seat's roots in one cut). By AI agents, Wed Nov 11 2026. No macro, syntax, notation, axiom, sorry.
-/
import Derived.Test.YtdbmipnbcbhcnaaChecked
import GoSem.Claim
import GoSem.ClaimJoined
import GoSem.ClaimMapViews
import Derived.JoinedTies
import Derived.KernelRfl
namespace Go.Proofs.Ytdbmipnbcbhcnaa
/- THE CELL 'sum', in the pinned program and in every row, IS THE sha256 OF THE DUMP (.gsa) THAT YtdbmipnbcbhcnaaProg.lean LOADS. Nothing in Lean hashes anything: it is a label: what it is worth is what the hold of that sum in a sandbox is worth. -/
noncomputable def Try.pinned : Pinned := { name := "ytdbmipnbcbhcnaa", sum := "91c388fb10f6d06bfff02ef77bd5b4401aefd14cd4c3c0045a09e7d5cda6c6b5", checked := Try.checked }
namespace Rows
def none {H : Type} : Left H := { results := [], args := [] }

/-- 'laws.FnExactConstants': WHATEVER THE INPUT: true; the input reads as it did. -/
def fnExactConstantsSpec : ChangeSpec := { name := "fnExactConstants", fn := fun _ => fun
  | [] => { results := [.lit (.bool true)], args := [] }
  | _ => none }
def fnExactConstantsRow : OpenClaim := { program := "ytdbmipnbcbhcnaa", sum := "91c388fb10f6d06bfff02ef77bd5b4401aefd14cd4c3c0045a09e7d5cda6c6b5", func := "loop.example/pannage/laws.FnExactConstants", spec := "fnExactConstants", apart := false }
def FnExactConstantsSaid : Prop := fnExactConstantsRow.holds Try.pinned (OpenSpec.ofChange fnExactConstantsSpec)

/-- ITS FALSE NEIGHBOUR: 'it returns false'. Refute it at one input. -/
def fnExactConstantsWrong : ChangeSpec := { name := "fnExactConstants", fn := fun _ => fun
  | [] => { results := [.lit (.bool false)], args := [] }
  | _ => none }
def FnExactConstantsWrongFalsely : Prop := fnExactConstantsRow.holds Try.pinned (OpenSpec.ofChange fnExactConstantsWrong)

/-- 'laws.FnExactSpanOk': WHATEVER THE INPUT: true; the input reads as it did. -/
def fnExactSpanOkSpec : ChangeSpec := { name := "fnExactSpanOk", fn := fun _ => fun
  | [d] => { results := [.lit (.bool true)], args := [d] }
  | _ => none }
def fnExactSpanOkRow : OpenClaim := { program := "ytdbmipnbcbhcnaa", sum := "91c388fb10f6d06bfff02ef77bd5b4401aefd14cd4c3c0045a09e7d5cda6c6b5", func := "loop.example/pannage/laws.FnExactSpanOk", spec := "fnExactSpanOk", apart := false }
def FnExactSpanOkSaid : Prop := fnExactSpanOkRow.holds Try.pinned (OpenSpec.ofChange fnExactSpanOkSpec)

/-- ITS FALSE NEIGHBOUR: 'it returns false'. Refute it at one input. -/
def fnExactSpanOkWrong : ChangeSpec := { name := "fnExactSpanOk", fn := fun _ => fun
  | [d] => { results := [.lit (.bool false)], args := [d] }
  | _ => none }
def FnExactSpanOkWrongFalsely : Prop := fnExactSpanOkRow.holds Try.pinned (OpenSpec.ofChange fnExactSpanOkWrong)

/-- 'laws.FnExactLayOk': WHATEVER THE INPUT: true; the input reads as it did. -/
def fnExactLayOkSpec : ChangeSpec := { name := "fnExactLayOk", fn := fun _ => fun
  | [d] => { results := [.lit (.bool true)], args := [d] }
  | _ => none }
def fnExactLayOkRow : OpenClaim := { program := "ytdbmipnbcbhcnaa", sum := "91c388fb10f6d06bfff02ef77bd5b4401aefd14cd4c3c0045a09e7d5cda6c6b5", func := "loop.example/pannage/laws.FnExactLayOk", spec := "fnExactLayOk", apart := false }
def FnExactLayOkSaid : Prop := fnExactLayOkRow.holds Try.pinned (OpenSpec.ofChange fnExactLayOkSpec)

/-- ITS FALSE NEIGHBOUR: 'it returns false'. Refute it at one input. -/
def fnExactLayOkWrong : ChangeSpec := { name := "fnExactLayOk", fn := fun _ => fun
  | [d] => { results := [.lit (.bool false)], args := [d] }
  | _ => none }
def FnExactLayOkWrongFalsely : Prop := fnExactLayOkRow.holds Try.pinned (OpenSpec.ofChange fnExactLayOkWrong)

/-- 'laws.FnExactTextOk': WHATEVER THE INPUT: true; the input reads as it did. -/
def fnExactTextOkSpec : ChangeSpec := { name := "fnExactTextOk", fn := fun _ => fun
  | [d] => { results := [.lit (.bool true)], args := [d] }
  | _ => none }
def fnExactTextOkRow : OpenClaim := { program := "ytdbmipnbcbhcnaa", sum := "91c388fb10f6d06bfff02ef77bd5b4401aefd14cd4c3c0045a09e7d5cda6c6b5", func := "loop.example/pannage/laws.FnExactTextOk", spec := "fnExactTextOk", apart := false }
def FnExactTextOkSaid : Prop := fnExactTextOkRow.holds Try.pinned (OpenSpec.ofChange fnExactTextOkSpec)

/-- ITS FALSE NEIGHBOUR: 'it returns false'. Refute it at one input. -/
def fnExactTextOkWrong : ChangeSpec := { name := "fnExactTextOk", fn := fun _ => fun
  | [d] => { results := [.lit (.bool false)], args := [d] }
  | _ => none }
def FnExactTextOkWrongFalsely : Prop := fnExactTextOkRow.holds Try.pinned (OpenSpec.ofChange fnExactTextOkWrong)

/-- 'laws.FnExactLayAt': WHATEVER THE INPUT: true; the input reads as it did. -/
def fnExactLayAtSpec : ChangeSpec := { name := "fnExactLayAt", fn := fun _ => fun
  | [d1, d2] => { results := [.lit (.bool true)], args := [d1, d2] }
  | _ => none }
def fnExactLayAtRow : OpenClaim := { program := "ytdbmipnbcbhcnaa", sum := "91c388fb10f6d06bfff02ef77bd5b4401aefd14cd4c3c0045a09e7d5cda6c6b5", func := "loop.example/pannage/laws.FnExactLayAt", spec := "fnExactLayAt", apart := false }
def FnExactLayAtSaid : Prop := fnExactLayAtRow.holds Try.pinned (OpenSpec.ofChange fnExactLayAtSpec)

/-- ITS FALSE NEIGHBOUR: 'it returns false'. Refute it at one input. -/
def fnExactLayAtWrong : ChangeSpec := { name := "fnExactLayAt", fn := fun _ => fun
  | [d1, d2] => { results := [.lit (.bool false)], args := [d1, d2] }
  | _ => none }
def FnExactLayAtWrongFalsely : Prop := fnExactLayAtRow.holds Try.pinned (OpenSpec.ofChange fnExactLayAtWrong)

/-- 'laws.FnExactLayBack': WHATEVER THE INPUT: true; the input reads as it did. -/
def fnExactLayBackSpec : ChangeSpec := { name := "fnExactLayBack", fn := fun _ => fun
  | [d1, d2, d3] => { results := [.lit (.bool true)], args := [d1, d2, d3] }
  | _ => none }
def fnExactLayBackRow : OpenClaim := { program := "ytdbmipnbcbhcnaa", sum := "91c388fb10f6d06bfff02ef77bd5b4401aefd14cd4c3c0045a09e7d5cda6c6b5", func := "loop.example/pannage/laws.FnExactLayBack", spec := "fnExactLayBack", apart := false }
def FnExactLayBackSaid : Prop := fnExactLayBackRow.holds Try.pinned (OpenSpec.ofChange fnExactLayBackSpec)

/-- ITS FALSE NEIGHBOUR: 'it returns false'. Refute it at one input. -/
def fnExactLayBackWrong : ChangeSpec := { name := "fnExactLayBack", fn := fun _ => fun
  | [d1, d2, d3] => { results := [.lit (.bool false)], args := [d1, d2, d3] }
  | _ => none }
def FnExactLayBackWrongFalsely : Prop := fnExactLayBackRow.holds Try.pinned (OpenSpec.ofChange fnExactLayBackWrong)

/-- 'laws.FnExactTextRead': WHATEVER THE INPUT: true; the input reads as it did. -/
def fnExactTextReadSpec : ChangeSpec := { name := "fnExactTextRead", fn := fun _ => fun
  | [d1, d2] => { results := [.lit (.bool true)], args := [d1, d2] }
  | _ => none }
def fnExactTextReadRow : OpenClaim := { program := "ytdbmipnbcbhcnaa", sum := "91c388fb10f6d06bfff02ef77bd5b4401aefd14cd4c3c0045a09e7d5cda6c6b5", func := "loop.example/pannage/laws.FnExactTextRead", spec := "fnExactTextRead", apart := false }
def FnExactTextReadSaid : Prop := fnExactTextReadRow.holds Try.pinned (OpenSpec.ofChange fnExactTextReadSpec)

/-- ITS FALSE NEIGHBOUR: 'it returns false'. Refute it at one input. -/
def fnExactTextReadWrong : ChangeSpec := { name := "fnExactTextRead", fn := fun _ => fun
  | [d1, d2] => { results := [.lit (.bool false)], args := [d1, d2] }
  | _ => none }
def FnExactTextReadWrongFalsely : Prop := fnExactTextReadRow.holds Try.pinned (OpenSpec.ofChange fnExactTextReadWrong)

/-- 'laws.FnExactSpanMeet': WHATEVER THE INPUT: true; the input reads as it did. -/
def fnExactSpanMeetSpec : ChangeSpec := { name := "fnExactSpanMeet", fn := fun _ => fun
  | [d1, d2] => { results := [.lit (.bool true)], args := [d1, d2] }
  | _ => none }
def fnExactSpanMeetRow : OpenClaim := { program := "ytdbmipnbcbhcnaa", sum := "91c388fb10f6d06bfff02ef77bd5b4401aefd14cd4c3c0045a09e7d5cda6c6b5", func := "loop.example/pannage/laws.FnExactSpanMeet", spec := "fnExactSpanMeet", apart := false }
def FnExactSpanMeetSaid : Prop := fnExactSpanMeetRow.holds Try.pinned (OpenSpec.ofChange fnExactSpanMeetSpec)

/-- ITS FALSE NEIGHBOUR: 'it returns false'. Refute it at one input. -/
def fnExactSpanMeetWrong : ChangeSpec := { name := "fnExactSpanMeet", fn := fun _ => fun
  | [d1, d2] => { results := [.lit (.bool false)], args := [d1, d2] }
  | _ => none }
def FnExactSpanMeetWrongFalsely : Prop := fnExactSpanMeetRow.holds Try.pinned (OpenSpec.ofChange fnExactSpanMeetWrong)

/-- 'laws.FnExactSpansOk': WHATEVER THE INPUT: true; the input reads as it did. -/
def fnExactSpansOkSpec : ChangeSpec := { name := "fnExactSpansOk", fn := fun _ => fun
  | [d] => { results := [.lit (.bool true)], args := [d] }
  | _ => none }
def fnExactSpansOkRow : OpenClaim := { program := "ytdbmipnbcbhcnaa", sum := "91c388fb10f6d06bfff02ef77bd5b4401aefd14cd4c3c0045a09e7d5cda6c6b5", func := "loop.example/pannage/laws.FnExactSpansOk", spec := "fnExactSpansOk", apart := false }
def FnExactSpansOkSaid : Prop := fnExactSpansOkRow.holds Try.pinned (OpenSpec.ofChange fnExactSpansOkSpec)

/-- ITS FALSE NEIGHBOUR: 'it returns false'. Refute it at one input. -/
def fnExactSpansOkWrong : ChangeSpec := { name := "fnExactSpansOk", fn := fun _ => fun
  | [d] => { results := [.lit (.bool false)], args := [d] }
  | _ => none }
def FnExactSpansOkWrongFalsely : Prop := fnExactSpansOkRow.holds Try.pinned (OpenSpec.ofChange fnExactSpansOkWrong)

/-- 'laws.FnExactSpansMany': WHATEVER THE INPUT: true; the input reads as it did. -/
def fnExactSpansManySpec : ChangeSpec := { name := "fnExactSpansMany", fn := fun _ => fun
  | [d] => { results := [.lit (.bool true)], args := [d] }
  | _ => none }
def fnExactSpansManyRow : OpenClaim := { program := "ytdbmipnbcbhcnaa", sum := "91c388fb10f6d06bfff02ef77bd5b4401aefd14cd4c3c0045a09e7d5cda6c6b5", func := "loop.example/pannage/laws.FnExactSpansMany", spec := "fnExactSpansMany", apart := false }
def FnExactSpansManySaid : Prop := fnExactSpansManyRow.holds Try.pinned (OpenSpec.ofChange fnExactSpansManySpec)

/-- ITS FALSE NEIGHBOUR: 'it returns false'. Refute it at one input. -/
def fnExactSpansManyWrong : ChangeSpec := { name := "fnExactSpansMany", fn := fun _ => fun
  | [d] => { results := [.lit (.bool false)], args := [d] }
  | _ => none }
def FnExactSpansManyWrongFalsely : Prop := fnExactSpansManyRow.holds Try.pinned (OpenSpec.ofChange fnExactSpansManyWrong)

/-- 'laws.FnExactLayLong': WHATEVER THE INPUT: true; the input reads as it did. -/
def fnExactLayLongSpec : ChangeSpec := { name := "fnExactLayLong", fn := fun _ => fun
  | [d1, d2] => { results := [.lit (.bool true)], args := [d1, d2] }
  | _ => none }
def fnExactLayLongRow : OpenClaim := { program := "ytdbmipnbcbhcnaa", sum := "91c388fb10f6d06bfff02ef77bd5b4401aefd14cd4c3c0045a09e7d5cda6c6b5", func := "loop.example/pannage/laws.FnExactLayLong", spec := "fnExactLayLong", apart := false }
def FnExactLayLongSaid : Prop := fnExactLayLongRow.holds Try.pinned (OpenSpec.ofChange fnExactLayLongSpec)

/-- ITS FALSE NEIGHBOUR: 'it returns false'. Refute it at one input. -/
def fnExactLayLongWrong : ChangeSpec := { name := "fnExactLayLong", fn := fun _ => fun
  | [d1, d2] => { results := [.lit (.bool false)], args := [d1, d2] }
  | _ => none }
def FnExactLayLongWrongFalsely : Prop := fnExactLayLongRow.holds Try.pinned (OpenSpec.ofChange fnExactLayLongWrong)

/-- 'laws.FnExactLayOf': WHATEVER THE INPUT: true; the input reads as it did. -/
def fnExactLayOfSpec : ChangeSpec := { name := "fnExactLayOf", fn := fun _ => fun
  | [d1, d2] => { results := [.lit (.bool true)], args := [d1, d2] }
  | _ => none }
def fnExactLayOfRow : OpenClaim := { program := "ytdbmipnbcbhcnaa", sum := "91c388fb10f6d06bfff02ef77bd5b4401aefd14cd4c3c0045a09e7d5cda6c6b5", func := "loop.example/pannage/laws.FnExactLayOf", spec := "fnExactLayOf", apart := false }
def FnExactLayOfSaid : Prop := fnExactLayOfRow.holds Try.pinned (OpenSpec.ofChange fnExactLayOfSpec)

/-- ITS FALSE NEIGHBOUR: 'it returns false'. Refute it at one input. -/
def fnExactLayOfWrong : ChangeSpec := { name := "fnExactLayOf", fn := fun _ => fun
  | [d1, d2] => { results := [.lit (.bool false)], args := [d1, d2] }
  | _ => none }
def FnExactLayOfWrongFalsely : Prop := fnExactLayOfRow.holds Try.pinned (OpenSpec.ofChange fnExactLayOfWrong)

/- THE SECOND FORM. 'bulk': how many values and letters a reading holds, each counted each time it is reached (what is shared counts as often as it is met; a slice's spare places count too). A statement '..UptoSaid' is the law's where the arguments, and the package variables that the reading takes, are together of bulk at most 1048576: NARROWER than '..Said'. Prove '..Said' where nothing that the law and all that it calls make is longer than what came in: it says more and counts as full. Else prove '..UptoSaid'. A law counts once. -/
mutual
def uptoBulk {H : Type} : DataW H → Nat
  | .lit (.string bytes) => bytes.length + 1
  | .lit _ => 1
  | .nil => 1
  | .ptr d => uptoBulk d + 1
  | .slice elems spare => uptoBulkAll elems + uptoBulkAll spare + 1
  | .agg parts => uptoBulkAll parts + 1
  | .iface _ d => uptoBulk d + 1
  | .map entries => uptoBulkEntries entries + 1
  | .held _ => 1
def uptoBulkAll {H : Type} : List (DataW H) → Nat
  | [] => 0
  | d :: r => uptoBulk d + uptoBulkAll r
def uptoBulkEntries {H : Type} : List (Lit × DataW H) → Nat
  | [] => 0
  | x :: r => uptoBulkEntry x + uptoBulkEntries r
def uptoBulkEntry {H : Type} : Lit × DataW H → Nat
  | (.string bytes, d) => bytes.length + uptoBulk d + 1
  | (_, d) => uptoBulk d + 1
 end
def uptoSmall : (H : Type) → List (DataW H) → Bool := fun _ ds => decide (uptoBulkAll ds ≤ 1048576)
def OpenSpec.upto (s : _root_.Go.ChangeSpec) : _root_.Go.OpenSpec := { _root_.Go.OpenSpec.ofChange s with cond := some uptoSmall }

/-- 'laws.FnExactConstants', WHERE WHAT IT READS IS OF BULK AT MOST 1048576: true; the input reads as it did. -/
def fnExactConstantsUptoRow : OpenClaim := { program := "ytdbmipnbcbhcnaa", sum := "91c388fb10f6d06bfff02ef77bd5b4401aefd14cd4c3c0045a09e7d5cda6c6b5", func := "loop.example/pannage/laws.FnExactConstants", spec := "fnExactConstants", apart := false, narrowed := true }
def FnExactConstantsUptoSaid : Prop := fnExactConstantsUptoRow.holds Try.pinned (OpenSpec.upto fnExactConstantsSpec)

/-- 'laws.FnExactSpanOk', WHERE WHAT IT READS IS OF BULK AT MOST 1048576: true; the input reads as it did. -/
def fnExactSpanOkUptoRow : OpenClaim := { program := "ytdbmipnbcbhcnaa", sum := "91c388fb10f6d06bfff02ef77bd5b4401aefd14cd4c3c0045a09e7d5cda6c6b5", func := "loop.example/pannage/laws.FnExactSpanOk", spec := "fnExactSpanOk", apart := false, narrowed := true }
def FnExactSpanOkUptoSaid : Prop := fnExactSpanOkUptoRow.holds Try.pinned (OpenSpec.upto fnExactSpanOkSpec)

/-- 'laws.FnExactLayOk', WHERE WHAT IT READS IS OF BULK AT MOST 1048576: true; the input reads as it did. -/
def fnExactLayOkUptoRow : OpenClaim := { program := "ytdbmipnbcbhcnaa", sum := "91c388fb10f6d06bfff02ef77bd5b4401aefd14cd4c3c0045a09e7d5cda6c6b5", func := "loop.example/pannage/laws.FnExactLayOk", spec := "fnExactLayOk", apart := false, narrowed := true }
def FnExactLayOkUptoSaid : Prop := fnExactLayOkUptoRow.holds Try.pinned (OpenSpec.upto fnExactLayOkSpec)

/-- 'laws.FnExactTextOk', WHERE WHAT IT READS IS OF BULK AT MOST 1048576: true; the input reads as it did. -/
def fnExactTextOkUptoRow : OpenClaim := { program := "ytdbmipnbcbhcnaa", sum := "91c388fb10f6d06bfff02ef77bd5b4401aefd14cd4c3c0045a09e7d5cda6c6b5", func := "loop.example/pannage/laws.FnExactTextOk", spec := "fnExactTextOk", apart := false, narrowed := true }
def FnExactTextOkUptoSaid : Prop := fnExactTextOkUptoRow.holds Try.pinned (OpenSpec.upto fnExactTextOkSpec)

/-- 'laws.FnExactLayAt', WHERE WHAT IT READS IS OF BULK AT MOST 1048576: true; the input reads as it did. -/
def fnExactLayAtUptoRow : OpenClaim := { program := "ytdbmipnbcbhcnaa", sum := "91c388fb10f6d06bfff02ef77bd5b4401aefd14cd4c3c0045a09e7d5cda6c6b5", func := "loop.example/pannage/laws.FnExactLayAt", spec := "fnExactLayAt", apart := false, narrowed := true }
def FnExactLayAtUptoSaid : Prop := fnExactLayAtUptoRow.holds Try.pinned (OpenSpec.upto fnExactLayAtSpec)

/-- 'laws.FnExactLayBack', WHERE WHAT IT READS IS OF BULK AT MOST 1048576: true; the input reads as it did. -/
def fnExactLayBackUptoRow : OpenClaim := { program := "ytdbmipnbcbhcnaa", sum := "91c388fb10f6d06bfff02ef77bd5b4401aefd14cd4c3c0045a09e7d5cda6c6b5", func := "loop.example/pannage/laws.FnExactLayBack", spec := "fnExactLayBack", apart := false, narrowed := true }
def FnExactLayBackUptoSaid : Prop := fnExactLayBackUptoRow.holds Try.pinned (OpenSpec.upto fnExactLayBackSpec)

/-- 'laws.FnExactTextRead', WHERE WHAT IT READS IS OF BULK AT MOST 1048576: true; the input reads as it did. -/
def fnExactTextReadUptoRow : OpenClaim := { program := "ytdbmipnbcbhcnaa", sum := "91c388fb10f6d06bfff02ef77bd5b4401aefd14cd4c3c0045a09e7d5cda6c6b5", func := "loop.example/pannage/laws.FnExactTextRead", spec := "fnExactTextRead", apart := false, narrowed := true }
def FnExactTextReadUptoSaid : Prop := fnExactTextReadUptoRow.holds Try.pinned (OpenSpec.upto fnExactTextReadSpec)

/-- 'laws.FnExactSpanMeet', WHERE WHAT IT READS IS OF BULK AT MOST 1048576: true; the input reads as it did. -/
def fnExactSpanMeetUptoRow : OpenClaim := { program := "ytdbmipnbcbhcnaa", sum := "91c388fb10f6d06bfff02ef77bd5b4401aefd14cd4c3c0045a09e7d5cda6c6b5", func := "loop.example/pannage/laws.FnExactSpanMeet", spec := "fnExactSpanMeet", apart := false, narrowed := true }
def FnExactSpanMeetUptoSaid : Prop := fnExactSpanMeetUptoRow.holds Try.pinned (OpenSpec.upto fnExactSpanMeetSpec)

/-- 'laws.FnExactSpansOk', WHERE WHAT IT READS IS OF BULK AT MOST 1048576: true; the input reads as it did. -/
def fnExactSpansOkUptoRow : OpenClaim := { program := "ytdbmipnbcbhcnaa", sum := "91c388fb10f6d06bfff02ef77bd5b4401aefd14cd4c3c0045a09e7d5cda6c6b5", func := "loop.example/pannage/laws.FnExactSpansOk", spec := "fnExactSpansOk", apart := false, narrowed := true }
def FnExactSpansOkUptoSaid : Prop := fnExactSpansOkUptoRow.holds Try.pinned (OpenSpec.upto fnExactSpansOkSpec)

/-- 'laws.FnExactSpansMany', WHERE WHAT IT READS IS OF BULK AT MOST 1048576: true; the input reads as it did. -/
def fnExactSpansManyUptoRow : OpenClaim := { program := "ytdbmipnbcbhcnaa", sum := "91c388fb10f6d06bfff02ef77bd5b4401aefd14cd4c3c0045a09e7d5cda6c6b5", func := "loop.example/pannage/laws.FnExactSpansMany", spec := "fnExactSpansMany", apart := false, narrowed := true }
def FnExactSpansManyUptoSaid : Prop := fnExactSpansManyUptoRow.holds Try.pinned (OpenSpec.upto fnExactSpansManySpec)

/-- 'laws.FnExactLayLong', WHERE WHAT IT READS IS OF BULK AT MOST 1048576: true; the input reads as it did. -/
def fnExactLayLongUptoRow : OpenClaim := { program := "ytdbmipnbcbhcnaa", sum := "91c388fb10f6d06bfff02ef77bd5b4401aefd14cd4c3c0045a09e7d5cda6c6b5", func := "loop.example/pannage/laws.FnExactLayLong", spec := "fnExactLayLong", apart := false, narrowed := true }
def FnExactLayLongUptoSaid : Prop := fnExactLayLongUptoRow.holds Try.pinned (OpenSpec.upto fnExactLayLongSpec)

/-- 'laws.FnExactLayOf', WHERE WHAT IT READS IS OF BULK AT MOST 1048576: true; the input reads as it did. -/
def fnExactLayOfUptoRow : OpenClaim := { program := "ytdbmipnbcbhcnaa", sum := "91c388fb10f6d06bfff02ef77bd5b4401aefd14cd4c3c0045a09e7d5cda6c6b5", func := "loop.example/pannage/laws.FnExactLayOf", spec := "fnExactLayOf", apart := false, narrowed := true }
def FnExactLayOfUptoSaid : Prop := fnExactLayOfUptoRow.holds Try.pinned (OpenSpec.upto fnExactLayOfSpec)

end Rows
end Go.Proofs.Ytdbmipnbcbhcnaa
