/-
  No cell of these rows narrows 'for every input' (looked for: loops, veiled, ifaces, maps, wideKeys, modest, calm, conditions, laid).
  DERIVED. THE GIVEN ROWS OF THIS SEAT. 12 by the template 'for every input the law returns true; each argument reads behind the call as it read before'; 0 by the template 'total and deterministic' (their statements: YtmplfidfckkmhaaTotals.lean).
  GIVEN WITH THE SEED: the statements are not yours to turn. If you find one false, say at which input.
  Laid BY PROGRAM, IN A SANDBOX (cutbox-rows.mjs): the forced cells as the released guide's own fill.sh prints them over the translation 0e08fefc6c318ec4… (all of the seat's roots in one cut). By AI agents, Wed Nov 11 2026. No macro, syntax, notation, axiom, sorry.
-/
import Derived.Test.YtmplfidfckkmhaaChecked
import GoSem.Claim
import GoSem.ClaimJoined
import GoSem.ClaimMapViews
import Derived.JoinedTies
import Derived.KernelRfl
namespace Go.Proofs.Ytmplfidfckkmhaa
/- THE CELL 'sum', in the pinned program and in every row, IS THE sha256 OF THE DUMP (.gsa) THAT YtmplfidfckkmhaaProg.lean LOADS. Nothing in Lean hashes anything: it is a label: what it is worth is what the hold of that sum in a sandbox is worth. -/
noncomputable def Try.pinned : Pinned := { name := "ytmplfidfckkmhaa", sum := "0e08fefc6c318ec4d4fbe5d32b13b15122be925e561f1654252cd54b26b3758d", checked := Try.checked }
namespace Rows
def none {H : Type} : Left H := { results := [], args := [] }

/-- 'laws.FnExactSpansHave': WHATEVER THE INPUT: true; the input reads as it did. -/
def fnExactSpansHaveSpec : ChangeSpec := { name := "fnExactSpansHave", fn := fun _ => fun
  | [d1, d2] => { results := [.lit (.bool true)], args := [d1, d2] }
  | _ => none }
def fnExactSpansHaveRow : OpenClaim := { program := "ytmplfidfckkmhaa", sum := "0e08fefc6c318ec4d4fbe5d32b13b15122be925e561f1654252cd54b26b3758d", func := "loop.example/pannage/laws.FnExactSpansHave", spec := "fnExactSpansHave", apart := false }
def FnExactSpansHaveSaid : Prop := fnExactSpansHaveRow.holds Try.pinned (OpenSpec.ofChange fnExactSpansHaveSpec)

/-- ITS FALSE NEIGHBOUR: 'it returns false'. Refute it at one input. -/
def fnExactSpansHaveWrong : ChangeSpec := { name := "fnExactSpansHave", fn := fun _ => fun
  | [d1, d2] => { results := [.lit (.bool false)], args := [d1, d2] }
  | _ => none }
def FnExactSpansHaveWrongFalsely : Prop := fnExactSpansHaveRow.holds Try.pinned (OpenSpec.ofChange fnExactSpansHaveWrong)

/-- 'laws.FnExactSpansMeet': WHATEVER THE INPUT: true; the input reads as it did. -/
def fnExactSpansMeetSpec : ChangeSpec := { name := "fnExactSpansMeet", fn := fun _ => fun
  | [d1, d2] => { results := [.lit (.bool true)], args := [d1, d2] }
  | _ => none }
def fnExactSpansMeetRow : OpenClaim := { program := "ytmplfidfckkmhaa", sum := "0e08fefc6c318ec4d4fbe5d32b13b15122be925e561f1654252cd54b26b3758d", func := "loop.example/pannage/laws.FnExactSpansMeet", spec := "fnExactSpansMeet", apart := false }
def FnExactSpansMeetSaid : Prop := fnExactSpansMeetRow.holds Try.pinned (OpenSpec.ofChange fnExactSpansMeetSpec)

/-- ITS FALSE NEIGHBOUR: 'it returns false'. Refute it at one input. -/
def fnExactSpansMeetWrong : ChangeSpec := { name := "fnExactSpansMeet", fn := fun _ => fun
  | [d1, d2] => { results := [.lit (.bool false)], args := [d1, d2] }
  | _ => none }
def FnExactSpansMeetWrongFalsely : Prop := fnExactSpansMeetRow.holds Try.pinned (OpenSpec.ofChange fnExactSpansMeetWrong)

/-- 'laws.FnExactSpansAdd': WHATEVER THE INPUT: true; the input reads as it did. -/
def fnExactSpansAddSpec : ChangeSpec := { name := "fnExactSpansAdd", fn := fun _ => fun
  | [d1, d2] => { results := [.lit (.bool true)], args := [d1, d2] }
  | _ => none }
def fnExactSpansAddRow : OpenClaim := { program := "ytmplfidfckkmhaa", sum := "0e08fefc6c318ec4d4fbe5d32b13b15122be925e561f1654252cd54b26b3758d", func := "loop.example/pannage/laws.FnExactSpansAdd", spec := "fnExactSpansAdd", apart := false }
def FnExactSpansAddSaid : Prop := fnExactSpansAddRow.holds Try.pinned (OpenSpec.ofChange fnExactSpansAddSpec)

/-- ITS FALSE NEIGHBOUR: 'it returns false'. Refute it at one input. -/
def fnExactSpansAddWrong : ChangeSpec := { name := "fnExactSpansAdd", fn := fun _ => fun
  | [d1, d2] => { results := [.lit (.bool false)], args := [d1, d2] }
  | _ => none }
def FnExactSpansAddWrongFalsely : Prop := fnExactSpansAddRow.holds Try.pinned (OpenSpec.ofChange fnExactSpansAddWrong)

/-- 'laws.FnExactSpansCut': WHATEVER THE INPUT: true; the input reads as it did. -/
def fnExactSpansCutSpec : ChangeSpec := { name := "fnExactSpansCut", fn := fun _ => fun
  | [d1, d2] => { results := [.lit (.bool true)], args := [d1, d2] }
  | _ => none }
def fnExactSpansCutRow : OpenClaim := { program := "ytmplfidfckkmhaa", sum := "0e08fefc6c318ec4d4fbe5d32b13b15122be925e561f1654252cd54b26b3758d", func := "loop.example/pannage/laws.FnExactSpansCut", spec := "fnExactSpansCut", apart := false }
def FnExactSpansCutSaid : Prop := fnExactSpansCutRow.holds Try.pinned (OpenSpec.ofChange fnExactSpansCutSpec)

/-- ITS FALSE NEIGHBOUR: 'it returns false'. Refute it at one input. -/
def fnExactSpansCutWrong : ChangeSpec := { name := "fnExactSpansCut", fn := fun _ => fun
  | [d1, d2] => { results := [.lit (.bool false)], args := [d1, d2] }
  | _ => none }
def FnExactSpansCutWrongFalsely : Prop := fnExactSpansCutRow.holds Try.pinned (OpenSpec.ofChange fnExactSpansCutWrong)

/-- 'laws.FnSpansParts': WHATEVER THE INPUT: true; the input reads as it did. -/
def fnSpansPartsSpec : ChangeSpec := { name := "fnSpansParts", fn := fun _ => fun
  | [d] => { results := [.lit (.bool true)], args := [d] }
  | _ => none }
def fnSpansPartsRow : OpenClaim := { program := "ytmplfidfckkmhaa", sum := "0e08fefc6c318ec4d4fbe5d32b13b15122be925e561f1654252cd54b26b3758d", func := "loop.example/pannage/laws.FnSpansParts", spec := "fnSpansParts", apart := false }
def FnSpansPartsSaid : Prop := fnSpansPartsRow.holds Try.pinned (OpenSpec.ofChange fnSpansPartsSpec)

/-- ITS FALSE NEIGHBOUR: 'it returns false'. Refute it at one input. -/
def fnSpansPartsWrong : ChangeSpec := { name := "fnSpansParts", fn := fun _ => fun
  | [d] => { results := [.lit (.bool false)], args := [d] }
  | _ => none }
def FnSpansPartsWrongFalsely : Prop := fnSpansPartsRow.holds Try.pinned (OpenSpec.ofChange fnSpansPartsWrong)

/-- 'laws.FnSpansTurn': WHATEVER THE INPUT: true; the input reads as it did. -/
def fnSpansTurnSpec : ChangeSpec := { name := "fnSpansTurn", fn := fun _ => fun
  | [d1, d2] => { results := [.lit (.bool true)], args := [d1, d2] }
  | _ => none }
def fnSpansTurnRow : OpenClaim := { program := "ytmplfidfckkmhaa", sum := "0e08fefc6c318ec4d4fbe5d32b13b15122be925e561f1654252cd54b26b3758d", func := "loop.example/pannage/laws.FnSpansTurn", spec := "fnSpansTurn", apart := false }
def FnSpansTurnSaid : Prop := fnSpansTurnRow.holds Try.pinned (OpenSpec.ofChange fnSpansTurnSpec)

/-- ITS FALSE NEIGHBOUR: 'it returns false'. Refute it at one input. -/
def fnSpansTurnWrong : ChangeSpec := { name := "fnSpansTurn", fn := fun _ => fun
  | [d1, d2] => { results := [.lit (.bool false)], args := [d1, d2] }
  | _ => none }
def FnSpansTurnWrongFalsely : Prop := fnSpansTurnRow.holds Try.pinned (OpenSpec.ofChange fnSpansTurnWrong)

/-- 'laws.FnSpansAdd': WHATEVER THE INPUT: true; the input reads as it did. -/
def fnSpansAddSpec : ChangeSpec := { name := "fnSpansAdd", fn := fun _ => fun
  | [d] => { results := [.lit (.bool true)], args := [d] }
  | _ => none }
def fnSpansAddRow : OpenClaim := { program := "ytmplfidfckkmhaa", sum := "0e08fefc6c318ec4d4fbe5d32b13b15122be925e561f1654252cd54b26b3758d", func := "loop.example/pannage/laws.FnSpansAdd", spec := "fnSpansAdd", apart := false }
def FnSpansAddSaid : Prop := fnSpansAddRow.holds Try.pinned (OpenSpec.ofChange fnSpansAddSpec)

/-- ITS FALSE NEIGHBOUR: 'it returns false'. Refute it at one input. -/
def fnSpansAddWrong : ChangeSpec := { name := "fnSpansAdd", fn := fun _ => fun
  | [d] => { results := [.lit (.bool false)], args := [d] }
  | _ => none }
def FnSpansAddWrongFalsely : Prop := fnSpansAddRow.holds Try.pinned (OpenSpec.ofChange fnSpansAddWrong)

/-- 'laws.FnSpansHave': WHATEVER THE INPUT: true; the input reads as it did. -/
def fnSpansHaveSpec : ChangeSpec := { name := "fnSpansHave", fn := fun _ => fun
  | [d] => { results := [.lit (.bool true)], args := [d] }
  | _ => none }
def fnSpansHaveRow : OpenClaim := { program := "ytmplfidfckkmhaa", sum := "0e08fefc6c318ec4d4fbe5d32b13b15122be925e561f1654252cd54b26b3758d", func := "loop.example/pannage/laws.FnSpansHave", spec := "fnSpansHave", apart := false }
def FnSpansHaveSaid : Prop := fnSpansHaveRow.holds Try.pinned (OpenSpec.ofChange fnSpansHaveSpec)

/-- ITS FALSE NEIGHBOUR: 'it returns false'. Refute it at one input. -/
def fnSpansHaveWrong : ChangeSpec := { name := "fnSpansHave", fn := fun _ => fun
  | [d] => { results := [.lit (.bool false)], args := [d] }
  | _ => none }
def FnSpansHaveWrongFalsely : Prop := fnSpansHaveRow.holds Try.pinned (OpenSpec.ofChange fnSpansHaveWrong)

/-- 'laws.FnSpansLess': WHATEVER THE INPUT: true; the input reads as it did. -/
def fnSpansLessSpec : ChangeSpec := { name := "fnSpansLess", fn := fun _ => fun
  | [d] => { results := [.lit (.bool true)], args := [d] }
  | _ => none }
def fnSpansLessRow : OpenClaim := { program := "ytmplfidfckkmhaa", sum := "0e08fefc6c318ec4d4fbe5d32b13b15122be925e561f1654252cd54b26b3758d", func := "loop.example/pannage/laws.FnSpansLess", spec := "fnSpansLess", apart := false }
def FnSpansLessSaid : Prop := fnSpansLessRow.holds Try.pinned (OpenSpec.ofChange fnSpansLessSpec)

/-- ITS FALSE NEIGHBOUR: 'it returns false'. Refute it at one input. -/
def fnSpansLessWrong : ChangeSpec := { name := "fnSpansLess", fn := fun _ => fun
  | [d] => { results := [.lit (.bool false)], args := [d] }
  | _ => none }
def FnSpansLessWrongFalsely : Prop := fnSpansLessRow.holds Try.pinned (OpenSpec.ofChange fnSpansLessWrong)

/-- 'laws.FnSpansWhole': WHATEVER THE INPUT: true; the input reads as it did. -/
def fnSpansWholeSpec : ChangeSpec := { name := "fnSpansWhole", fn := fun _ => fun
  | [d] => { results := [.lit (.bool true)], args := [d] }
  | _ => none }
def fnSpansWholeRow : OpenClaim := { program := "ytmplfidfckkmhaa", sum := "0e08fefc6c318ec4d4fbe5d32b13b15122be925e561f1654252cd54b26b3758d", func := "loop.example/pannage/laws.FnSpansWhole", spec := "fnSpansWhole", apart := false }
def FnSpansWholeSaid : Prop := fnSpansWholeRow.holds Try.pinned (OpenSpec.ofChange fnSpansWholeSpec)

/-- ITS FALSE NEIGHBOUR: 'it returns false'. Refute it at one input. -/
def fnSpansWholeWrong : ChangeSpec := { name := "fnSpansWhole", fn := fun _ => fun
  | [d] => { results := [.lit (.bool false)], args := [d] }
  | _ => none }
def FnSpansWholeWrongFalsely : Prop := fnSpansWholeRow.holds Try.pinned (OpenSpec.ofChange fnSpansWholeWrong)

/-- 'laws.FnSpansCut': WHATEVER THE INPUT: true; the input reads as it did. -/
def fnSpansCutSpec : ChangeSpec := { name := "fnSpansCut", fn := fun _ => fun
  | [d] => { results := [.lit (.bool true)], args := [d] }
  | _ => none }
def fnSpansCutRow : OpenClaim := { program := "ytmplfidfckkmhaa", sum := "0e08fefc6c318ec4d4fbe5d32b13b15122be925e561f1654252cd54b26b3758d", func := "loop.example/pannage/laws.FnSpansCut", spec := "fnSpansCut", apart := false }
def FnSpansCutSaid : Prop := fnSpansCutRow.holds Try.pinned (OpenSpec.ofChange fnSpansCutSpec)

/-- ITS FALSE NEIGHBOUR: 'it returns false'. Refute it at one input. -/
def fnSpansCutWrong : ChangeSpec := { name := "fnSpansCut", fn := fun _ => fun
  | [d] => { results := [.lit (.bool false)], args := [d] }
  | _ => none }
def FnSpansCutWrongFalsely : Prop := fnSpansCutRow.holds Try.pinned (OpenSpec.ofChange fnSpansCutWrong)

/-- 'laws.FnSpansMeet': WHATEVER THE INPUT: true; the input reads as it did. -/
def fnSpansMeetSpec : ChangeSpec := { name := "fnSpansMeet", fn := fun _ => fun
  | [d] => { results := [.lit (.bool true)], args := [d] }
  | _ => none }
def fnSpansMeetRow : OpenClaim := { program := "ytmplfidfckkmhaa", sum := "0e08fefc6c318ec4d4fbe5d32b13b15122be925e561f1654252cd54b26b3758d", func := "loop.example/pannage/laws.FnSpansMeet", spec := "fnSpansMeet", apart := false }
def FnSpansMeetSaid : Prop := fnSpansMeetRow.holds Try.pinned (OpenSpec.ofChange fnSpansMeetSpec)

/-- ITS FALSE NEIGHBOUR: 'it returns false'. Refute it at one input. -/
def fnSpansMeetWrong : ChangeSpec := { name := "fnSpansMeet", fn := fun _ => fun
  | [d] => { results := [.lit (.bool false)], args := [d] }
  | _ => none }
def FnSpansMeetWrongFalsely : Prop := fnSpansMeetRow.holds Try.pinned (OpenSpec.ofChange fnSpansMeetWrong)

/- THE SECOND FORM. 'bulk': how many values and letters a reading holds, each counted each time it is reached (what is shared counts as often as it is met; a slice's spare places count too). A statement '..UptoSaid' is the law's where the arguments, and the package variables that the reading takes, are together of bulk at most 1048576: NARROWER than '..Said'. Prove '..Said' where nothing that the law and all that it calls make is longer than what came in: it says more and counts as full. Else prove '..UptoSaid'. A law counts once. -/
mutual
def uptoBulk {H : Type} : DataW H → Nat
  | .lit (.string bytes) => bytes.length + 1
  | .lit _ => 1
  | .nil => 1
  | .ptr d => uptoBulk d + 1
  | .slice elems spare => uptoBulkAll elems + uptoBulkAll spare + 1
  | .agg parts => uptoBulkAll parts + 1
  | .iface _ d => uptoBulk d + 1
  | .map entries => uptoBulkEntries entries + 1
  | .held _ => 1
def uptoBulkAll {H : Type} : List (DataW H) → Nat
  | [] => 0
  | d :: r => uptoBulk d + uptoBulkAll r
def uptoBulkEntries {H : Type} : List (Lit × DataW H) → Nat
  | [] => 0
  | x :: r => uptoBulkEntry x + uptoBulkEntries r
def uptoBulkEntry {H : Type} : Lit × DataW H → Nat
  | (.string bytes, d) => bytes.length + uptoBulk d + 1
  | (_, d) => uptoBulk d + 1
 end
def uptoSmall : (H : Type) → List (DataW H) → Bool := fun _ ds => decide (uptoBulkAll ds ≤ 1048576)
def OpenSpec.upto (s : _root_.Go.ChangeSpec) : _root_.Go.OpenSpec := { _root_.Go.OpenSpec.ofChange s with cond := some uptoSmall }

/-- 'laws.FnExactSpansHave', WHERE WHAT IT READS IS OF BULK AT MOST 1048576: true; the input reads as it did. -/
def fnExactSpansHaveUptoRow : OpenClaim := { program := "ytmplfidfckkmhaa", sum := "0e08fefc6c318ec4d4fbe5d32b13b15122be925e561f1654252cd54b26b3758d", func := "loop.example/pannage/laws.FnExactSpansHave", spec := "fnExactSpansHave", apart := false, narrowed := true }
def FnExactSpansHaveUptoSaid : Prop := fnExactSpansHaveUptoRow.holds Try.pinned (OpenSpec.upto fnExactSpansHaveSpec)

/-- 'laws.FnExactSpansMeet', WHERE WHAT IT READS IS OF BULK AT MOST 1048576: true; the input reads as it did. -/
def fnExactSpansMeetUptoRow : OpenClaim := { program := "ytmplfidfckkmhaa", sum := "0e08fefc6c318ec4d4fbe5d32b13b15122be925e561f1654252cd54b26b3758d", func := "loop.example/pannage/laws.FnExactSpansMeet", spec := "fnExactSpansMeet", apart := false, narrowed := true }
def FnExactSpansMeetUptoSaid : Prop := fnExactSpansMeetUptoRow.holds Try.pinned (OpenSpec.upto fnExactSpansMeetSpec)

/-- 'laws.FnExactSpansAdd', WHERE WHAT IT READS IS OF BULK AT MOST 1048576: true; the input reads as it did. -/
def fnExactSpansAddUptoRow : OpenClaim := { program := "ytmplfidfckkmhaa", sum := "0e08fefc6c318ec4d4fbe5d32b13b15122be925e561f1654252cd54b26b3758d", func := "loop.example/pannage/laws.FnExactSpansAdd", spec := "fnExactSpansAdd", apart := false, narrowed := true }
def FnExactSpansAddUptoSaid : Prop := fnExactSpansAddUptoRow.holds Try.pinned (OpenSpec.upto fnExactSpansAddSpec)

/-- 'laws.FnExactSpansCut', WHERE WHAT IT READS IS OF BULK AT MOST 1048576: true; the input reads as it did. -/
def fnExactSpansCutUptoRow : OpenClaim := { program := "ytmplfidfckkmhaa", sum := "0e08fefc6c318ec4d4fbe5d32b13b15122be925e561f1654252cd54b26b3758d", func := "loop.example/pannage/laws.FnExactSpansCut", spec := "fnExactSpansCut", apart := false, narrowed := true }
def FnExactSpansCutUptoSaid : Prop := fnExactSpansCutUptoRow.holds Try.pinned (OpenSpec.upto fnExactSpansCutSpec)

/-- 'laws.FnSpansParts', WHERE WHAT IT READS IS OF BULK AT MOST 1048576: true; the input reads as it did. -/
def fnSpansPartsUptoRow : OpenClaim := { program := "ytmplfidfckkmhaa", sum := "0e08fefc6c318ec4d4fbe5d32b13b15122be925e561f1654252cd54b26b3758d", func := "loop.example/pannage/laws.FnSpansParts", spec := "fnSpansParts", apart := false, narrowed := true }
def FnSpansPartsUptoSaid : Prop := fnSpansPartsUptoRow.holds Try.pinned (OpenSpec.upto fnSpansPartsSpec)

/-- 'laws.FnSpansTurn', WHERE WHAT IT READS IS OF BULK AT MOST 1048576: true; the input reads as it did. -/
def fnSpansTurnUptoRow : OpenClaim := { program := "ytmplfidfckkmhaa", sum := "0e08fefc6c318ec4d4fbe5d32b13b15122be925e561f1654252cd54b26b3758d", func := "loop.example/pannage/laws.FnSpansTurn", spec := "fnSpansTurn", apart := false, narrowed := true }
def FnSpansTurnUptoSaid : Prop := fnSpansTurnUptoRow.holds Try.pinned (OpenSpec.upto fnSpansTurnSpec)

/-- 'laws.FnSpansAdd', WHERE WHAT IT READS IS OF BULK AT MOST 1048576: true; the input reads as it did. -/
def fnSpansAddUptoRow : OpenClaim := { program := "ytmplfidfckkmhaa", sum := "0e08fefc6c318ec4d4fbe5d32b13b15122be925e561f1654252cd54b26b3758d", func := "loop.example/pannage/laws.FnSpansAdd", spec := "fnSpansAdd", apart := false, narrowed := true }
def FnSpansAddUptoSaid : Prop := fnSpansAddUptoRow.holds Try.pinned (OpenSpec.upto fnSpansAddSpec)

/-- 'laws.FnSpansHave', WHERE WHAT IT READS IS OF BULK AT MOST 1048576: true; the input reads as it did. -/
def fnSpansHaveUptoRow : OpenClaim := { program := "ytmplfidfckkmhaa", sum := "0e08fefc6c318ec4d4fbe5d32b13b15122be925e561f1654252cd54b26b3758d", func := "loop.example/pannage/laws.FnSpansHave", spec := "fnSpansHave", apart := false, narrowed := true }
def FnSpansHaveUptoSaid : Prop := fnSpansHaveUptoRow.holds Try.pinned (OpenSpec.upto fnSpansHaveSpec)

/-- 'laws.FnSpansLess', WHERE WHAT IT READS IS OF BULK AT MOST 1048576: true; the input reads as it did. -/
def fnSpansLessUptoRow : OpenClaim := { program := "ytmplfidfckkmhaa", sum := "0e08fefc6c318ec4d4fbe5d32b13b15122be925e561f1654252cd54b26b3758d", func := "loop.example/pannage/laws.FnSpansLess", spec := "fnSpansLess", apart := false, narrowed := true }
def FnSpansLessUptoSaid : Prop := fnSpansLessUptoRow.holds Try.pinned (OpenSpec.upto fnSpansLessSpec)

/-- 'laws.FnSpansWhole', WHERE WHAT IT READS IS OF BULK AT MOST 1048576: true; the input reads as it did. -/
def fnSpansWholeUptoRow : OpenClaim := { program := "ytmplfidfckkmhaa", sum := "0e08fefc6c318ec4d4fbe5d32b13b15122be925e561f1654252cd54b26b3758d", func := "loop.example/pannage/laws.FnSpansWhole", spec := "fnSpansWhole", apart := false, narrowed := true }
def FnSpansWholeUptoSaid : Prop := fnSpansWholeUptoRow.holds Try.pinned (OpenSpec.upto fnSpansWholeSpec)

/-- 'laws.FnSpansCut', WHERE WHAT IT READS IS OF BULK AT MOST 1048576: true; the input reads as it did. -/
def fnSpansCutUptoRow : OpenClaim := { program := "ytmplfidfckkmhaa", sum := "0e08fefc6c318ec4d4fbe5d32b13b15122be925e561f1654252cd54b26b3758d", func := "loop.example/pannage/laws.FnSpansCut", spec := "fnSpansCut", apart := false, narrowed := true }
def FnSpansCutUptoSaid : Prop := fnSpansCutUptoRow.holds Try.pinned (OpenSpec.upto fnSpansCutSpec)

/-- 'laws.FnSpansMeet', WHERE WHAT IT READS IS OF BULK AT MOST 1048576: true; the input reads as it did. -/
def fnSpansMeetUptoRow : OpenClaim := { program := "ytmplfidfckkmhaa", sum := "0e08fefc6c318ec4d4fbe5d32b13b15122be925e561f1654252cd54b26b3758d", func := "loop.example/pannage/laws.FnSpansMeet", spec := "fnSpansMeet", apart := false, narrowed := true }
def FnSpansMeetUptoSaid : Prop := fnSpansMeetUptoRow.holds Try.pinned (OpenSpec.upto fnSpansMeetSpec)

end Rows
end Go.Proofs.Ytmplfidfckkmhaa
