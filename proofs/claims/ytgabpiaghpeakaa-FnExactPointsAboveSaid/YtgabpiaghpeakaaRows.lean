/-
  No cell of these rows narrows 'for every input' (looked for: loops, veiled, ifaces, maps, wideKeys, modest, calm, conditions, laid).
  DERIVED. THE GIVEN ROWS OF THIS SEAT. 7 by the template 'for every input the law returns true; each argument reads behind the call as it read before'; 0 by the template 'total and deterministic' (their statements: YtgabpiaghpeakaaTotals.lean).
  GIVEN WITH THE SEED: the statements are not yours to turn. If you find one false, say at which input.
  Laid BY PROGRAM, IN A SANDBOX (cutbox-rows.mjs): the forced cells as the released guide's own fill.sh prints them over the translation 87fa8379ce21f8d8… (all of the seat's roots in one cut). By AI agents, Wed Nov 11 2026. No macro, syntax, notation, axiom, sorry.
-/
import Derived.Test.YtgabpiaghpeakaaChecked
import GoSem.Claim
import GoSem.ClaimJoined
import GoSem.ClaimMapViews
import Derived.JoinedTies
import Derived.KernelRfl
namespace Go.Proofs.Ytgabpiaghpeakaa
/- THE CELL 'sum', in the pinned program and in every row, IS THE sha256 OF THE DUMP (.gsa) THAT YtgabpiaghpeakaaProg.lean LOADS. Nothing in Lean hashes anything: it is a label: what it is worth is what the hold of that sum in a sandbox is worth. -/
noncomputable def Try.pinned : Pinned := { name := "ytgabpiaghpeakaa", sum := "87fa8379ce21f8d8f1e121cbac0f48473290943e6a5a29b3dfd9605304af1cad", checked := Try.checked }
namespace Rows
def none {H : Type} : Left H := { results := [], args := [] }

/-- 'laws.FnExactConstants': WHATEVER THE INPUT: true; the input reads as it did. -/
def fnExactConstantsSpec : ChangeSpec := { name := "fnExactConstants", fn := fun _ => fun
  | [] => { results := [.lit (.bool true)], args := [] }
  | _ => none }
def fnExactConstantsRow : OpenClaim := { program := "ytgabpiaghpeakaa", sum := "87fa8379ce21f8d8f1e121cbac0f48473290943e6a5a29b3dfd9605304af1cad", func := "loop.example/g01313/laws.FnExactConstants", spec := "fnExactConstants", apart := false }
def FnExactConstantsSaid : Prop := fnExactConstantsRow.holds Try.pinned (OpenSpec.ofChange fnExactConstantsSpec)

/-- ITS FALSE NEIGHBOUR: 'it returns false'. Refute it at one input. -/
def fnExactConstantsWrong : ChangeSpec := { name := "fnExactConstants", fn := fun _ => fun
  | [] => { results := [.lit (.bool false)], args := [] }
  | _ => none }
def FnExactConstantsWrongFalsely : Prop := fnExactConstantsRow.holds Try.pinned (OpenSpec.ofChange fnExactConstantsWrong)

/-- 'laws.FnExactValueCounts': WHATEVER THE INPUT: true; the input reads as it did. -/
def fnExactValueCountsSpec : ChangeSpec := { name := "fnExactValueCounts", fn := fun _ => fun
  | [d1, d2, d3] => { results := [.lit (.bool true)], args := [d1, d2, d3] }
  | _ => none }
def fnExactValueCountsRow : OpenClaim := { program := "ytgabpiaghpeakaa", sum := "87fa8379ce21f8d8f1e121cbac0f48473290943e6a5a29b3dfd9605304af1cad", func := "loop.example/g01313/laws.FnExactValueCounts", spec := "fnExactValueCounts", apart := false }
def FnExactValueCountsSaid : Prop := fnExactValueCountsRow.holds Try.pinned (OpenSpec.ofChange fnExactValueCountsSpec)

/-- ITS FALSE NEIGHBOUR: 'it returns false'. Refute it at one input. -/
def fnExactValueCountsWrong : ChangeSpec := { name := "fnExactValueCounts", fn := fun _ => fun
  | [d1, d2, d3] => { results := [.lit (.bool false)], args := [d1, d2, d3] }
  | _ => none }
def FnExactValueCountsWrongFalsely : Prop := fnExactValueCountsRow.holds Try.pinned (OpenSpec.ofChange fnExactValueCountsWrong)

/-- 'laws.FnExactCurveDefect': WHATEVER THE INPUT: true; the input reads as it did. -/
def fnExactCurveDefectSpec : ChangeSpec := { name := "fnExactCurveDefect", fn := fun _ => fun
  | [d1, d2] => { results := [.lit (.bool true)], args := [d1, d2] }
  | _ => none }
def fnExactCurveDefectRow : OpenClaim := { program := "ytgabpiaghpeakaa", sum := "87fa8379ce21f8d8f1e121cbac0f48473290943e6a5a29b3dfd9605304af1cad", func := "loop.example/g01313/laws.FnExactCurveDefect", spec := "fnExactCurveDefect", apart := false }
def FnExactCurveDefectSaid : Prop := fnExactCurveDefectRow.holds Try.pinned (OpenSpec.ofChange fnExactCurveDefectSpec)

/-- ITS FALSE NEIGHBOUR: 'it returns false'. Refute it at one input. -/
def fnExactCurveDefectWrong : ChangeSpec := { name := "fnExactCurveDefect", fn := fun _ => fun
  | [d1, d2] => { results := [.lit (.bool false)], args := [d1, d2] }
  | _ => none }
def FnExactCurveDefectWrongFalsely : Prop := fnExactCurveDefectRow.holds Try.pinned (OpenSpec.ofChange fnExactCurveDefectWrong)

/-- 'laws.FnExactCountFull': WHATEVER THE INPUT: true; the input reads as it did. -/
def fnExactCountFullSpec : ChangeSpec := { name := "fnExactCountFull", fn := fun _ => fun
  | [d1, d2, d3, d4] => { results := [.lit (.bool true)], args := [d1, d2, d3, d4] }
  | _ => none }
def fnExactCountFullRow : OpenClaim := { program := "ytgabpiaghpeakaa", sum := "87fa8379ce21f8d8f1e121cbac0f48473290943e6a5a29b3dfd9605304af1cad", func := "loop.example/g01313/laws.FnExactCountFull", spec := "fnExactCountFull", apart := false }
def FnExactCountFullSaid : Prop := fnExactCountFullRow.holds Try.pinned (OpenSpec.ofChange fnExactCountFullSpec)

/-- ITS FALSE NEIGHBOUR: 'it returns false'. Refute it at one input. -/
def fnExactCountFullWrong : ChangeSpec := { name := "fnExactCountFull", fn := fun _ => fun
  | [d1, d2, d3, d4] => { results := [.lit (.bool false)], args := [d1, d2, d3, d4] }
  | _ => none }
def FnExactCountFullWrongFalsely : Prop := fnExactCountFullRow.holds Try.pinned (OpenSpec.ofChange fnExactCountFullWrong)

/-- 'laws.FnExactPointsAbove': WHATEVER THE INPUT: true; the input reads as it did. -/
def fnExactPointsAboveSpec : ChangeSpec := { name := "fnExactPointsAbove", fn := fun _ => fun
  | [d1, d2, d3] => { results := [.lit (.bool true)], args := [d1, d2, d3] }
  | _ => none }
def fnExactPointsAboveRow : OpenClaim := { program := "ytgabpiaghpeakaa", sum := "87fa8379ce21f8d8f1e121cbac0f48473290943e6a5a29b3dfd9605304af1cad", func := "loop.example/g01313/laws.FnExactPointsAbove", spec := "fnExactPointsAbove", unfollowed := true, recurses := true, apart := false }
def FnExactPointsAboveSaid : Prop := fnExactPointsAboveRow.holds Try.pinned (OpenSpec.ofChange fnExactPointsAboveSpec)

/-- ITS FALSE NEIGHBOUR: 'it returns false'. Refute it at one input. -/
def fnExactPointsAboveWrong : ChangeSpec := { name := "fnExactPointsAbove", fn := fun _ => fun
  | [d1, d2, d3] => { results := [.lit (.bool false)], args := [d1, d2, d3] }
  | _ => none }
def FnExactPointsAboveWrongFalsely : Prop := fnExactPointsAboveRow.holds Try.pinned (OpenSpec.ofChange fnExactPointsAboveWrong)

/-- 'laws.FnExactInverseCharacter': WHATEVER THE INPUT: true; the input reads as it did. -/
def fnExactInverseCharacterSpec : ChangeSpec := { name := "fnExactInverseCharacter", fn := fun _ => fun
  | [d] => { results := [.lit (.bool true)], args := [d] }
  | _ => none }
def fnExactInverseCharacterRow : OpenClaim := { program := "ytgabpiaghpeakaa", sum := "87fa8379ce21f8d8f1e121cbac0f48473290943e6a5a29b3dfd9605304af1cad", func := "loop.example/g01313/laws.FnExactInverseCharacter", spec := "fnExactInverseCharacter", apart := false }
def FnExactInverseCharacterSaid : Prop := fnExactInverseCharacterRow.holds Try.pinned (OpenSpec.ofChange fnExactInverseCharacterSpec)

/-- ITS FALSE NEIGHBOUR: 'it returns false'. Refute it at one input. -/
def fnExactInverseCharacterWrong : ChangeSpec := { name := "fnExactInverseCharacter", fn := fun _ => fun
  | [d] => { results := [.lit (.bool false)], args := [d] }
  | _ => none }
def FnExactInverseCharacterWrongFalsely : Prop := fnExactInverseCharacterRow.holds Try.pinned (OpenSpec.ofChange fnExactInverseCharacterWrong)

/-- 'laws.FnExactIsPlainPair': WHATEVER THE INPUT: true; the input reads as it did. -/
def fnExactIsPlainPairSpec : ChangeSpec := { name := "fnExactIsPlainPair", fn := fun _ => fun
  | [d1, d2] => { results := [.lit (.bool true)], args := [d1, d2] }
  | _ => none }
def fnExactIsPlainPairRow : OpenClaim := { program := "ytgabpiaghpeakaa", sum := "87fa8379ce21f8d8f1e121cbac0f48473290943e6a5a29b3dfd9605304af1cad", func := "loop.example/g01313/laws.FnExactIsPlainPair", spec := "fnExactIsPlainPair", apart := false }
def FnExactIsPlainPairSaid : Prop := fnExactIsPlainPairRow.holds Try.pinned (OpenSpec.ofChange fnExactIsPlainPairSpec)

/-- ITS FALSE NEIGHBOUR: 'it returns false'. Refute it at one input. -/
def fnExactIsPlainPairWrong : ChangeSpec := { name := "fnExactIsPlainPair", fn := fun _ => fun
  | [d1, d2] => { results := [.lit (.bool false)], args := [d1, d2] }
  | _ => none }
def FnExactIsPlainPairWrongFalsely : Prop := fnExactIsPlainPairRow.holds Try.pinned (OpenSpec.ofChange fnExactIsPlainPairWrong)

/- THE SECOND FORM. 'bulk': how many values and letters a reading holds, each counted each time it is reached (what is shared counts as often as it is met; a slice's spare places count too). A statement '..UptoSaid' is the law's where the arguments, and the package variables that the reading takes, are together of bulk at most 1048576: NARROWER than '..Said'. Prove '..Said' where nothing that the law and all that it calls make is longer than what came in: it says more and counts as full. Else prove '..UptoSaid'. A law counts once. -/
mutual
def uptoBulk {H : Type} : DataW H → Nat
  | .lit (.string bytes) => bytes.length + 1
  | .lit _ => 1
  | .nil => 1
  | .ptr d => uptoBulk d + 1
  | .slice elems spare => uptoBulkAll elems + uptoBulkAll spare + 1
  | .agg parts => uptoBulkAll parts + 1
  | .iface _ d => uptoBulk d + 1
  | .map entries => uptoBulkEntries entries + 1
  | .held _ => 1
def uptoBulkAll {H : Type} : List (DataW H) → Nat
  | [] => 0
  | d :: r => uptoBulk d + uptoBulkAll r
def uptoBulkEntries {H : Type} : List (Lit × DataW H) → Nat
  | [] => 0
  | x :: r => uptoBulkEntry x + uptoBulkEntries r
def uptoBulkEntry {H : Type} : Lit × DataW H → Nat
  | (.string bytes, d) => bytes.length + uptoBulk d + 1
  | (_, d) => uptoBulk d + 1
 end
def uptoSmall : (H : Type) → List (DataW H) → Bool := fun _ ds => decide (uptoBulkAll ds ≤ 1048576)
def OpenSpec.upto (s : _root_.Go.ChangeSpec) : _root_.Go.OpenSpec := { _root_.Go.OpenSpec.ofChange s with cond := some uptoSmall }

/-- 'laws.FnExactConstants', WHERE WHAT IT READS IS OF BULK AT MOST 1048576: true; the input reads as it did. -/
def fnExactConstantsUptoRow : OpenClaim := { program := "ytgabpiaghpeakaa", sum := "87fa8379ce21f8d8f1e121cbac0f48473290943e6a5a29b3dfd9605304af1cad", func := "loop.example/g01313/laws.FnExactConstants", spec := "fnExactConstants", apart := false, narrowed := true }
def FnExactConstantsUptoSaid : Prop := fnExactConstantsUptoRow.holds Try.pinned (OpenSpec.upto fnExactConstantsSpec)

/-- 'laws.FnExactValueCounts', WHERE WHAT IT READS IS OF BULK AT MOST 1048576: true; the input reads as it did. -/
def fnExactValueCountsUptoRow : OpenClaim := { program := "ytgabpiaghpeakaa", sum := "87fa8379ce21f8d8f1e121cbac0f48473290943e6a5a29b3dfd9605304af1cad", func := "loop.example/g01313/laws.FnExactValueCounts", spec := "fnExactValueCounts", apart := false, narrowed := true }
def FnExactValueCountsUptoSaid : Prop := fnExactValueCountsUptoRow.holds Try.pinned (OpenSpec.upto fnExactValueCountsSpec)

/-- 'laws.FnExactCurveDefect', WHERE WHAT IT READS IS OF BULK AT MOST 1048576: true; the input reads as it did. -/
def fnExactCurveDefectUptoRow : OpenClaim := { program := "ytgabpiaghpeakaa", sum := "87fa8379ce21f8d8f1e121cbac0f48473290943e6a5a29b3dfd9605304af1cad", func := "loop.example/g01313/laws.FnExactCurveDefect", spec := "fnExactCurveDefect", apart := false, narrowed := true }
def FnExactCurveDefectUptoSaid : Prop := fnExactCurveDefectUptoRow.holds Try.pinned (OpenSpec.upto fnExactCurveDefectSpec)

/-- 'laws.FnExactCountFull', WHERE WHAT IT READS IS OF BULK AT MOST 1048576: true; the input reads as it did. -/
def fnExactCountFullUptoRow : OpenClaim := { program := "ytgabpiaghpeakaa", sum := "87fa8379ce21f8d8f1e121cbac0f48473290943e6a5a29b3dfd9605304af1cad", func := "loop.example/g01313/laws.FnExactCountFull", spec := "fnExactCountFull", apart := false, narrowed := true }
def FnExactCountFullUptoSaid : Prop := fnExactCountFullUptoRow.holds Try.pinned (OpenSpec.upto fnExactCountFullSpec)

/-- 'laws.FnExactPointsAbove', WHERE WHAT IT READS IS OF BULK AT MOST 1048576: true; the input reads as it did. -/
def fnExactPointsAboveUptoRow : OpenClaim := { program := "ytgabpiaghpeakaa", sum := "87fa8379ce21f8d8f1e121cbac0f48473290943e6a5a29b3dfd9605304af1cad", func := "loop.example/g01313/laws.FnExactPointsAbove", spec := "fnExactPointsAbove", unfollowed := true, recurses := true, apart := false, narrowed := true }
def FnExactPointsAboveUptoSaid : Prop := fnExactPointsAboveUptoRow.holds Try.pinned (OpenSpec.upto fnExactPointsAboveSpec)

/-- 'laws.FnExactInverseCharacter', WHERE WHAT IT READS IS OF BULK AT MOST 1048576: true; the input reads as it did. -/
def fnExactInverseCharacterUptoRow : OpenClaim := { program := "ytgabpiaghpeakaa", sum := "87fa8379ce21f8d8f1e121cbac0f48473290943e6a5a29b3dfd9605304af1cad", func := "loop.example/g01313/laws.FnExactInverseCharacter", spec := "fnExactInverseCharacter", apart := false, narrowed := true }
def FnExactInverseCharacterUptoSaid : Prop := fnExactInverseCharacterUptoRow.holds Try.pinned (OpenSpec.upto fnExactInverseCharacterSpec)

/-- 'laws.FnExactIsPlainPair', WHERE WHAT IT READS IS OF BULK AT MOST 1048576: true; the input reads as it did. -/
def fnExactIsPlainPairUptoRow : OpenClaim := { program := "ytgabpiaghpeakaa", sum := "87fa8379ce21f8d8f1e121cbac0f48473290943e6a5a29b3dfd9605304af1cad", func := "loop.example/g01313/laws.FnExactIsPlainPair", spec := "fnExactIsPlainPair", apart := false, narrowed := true }
def FnExactIsPlainPairUptoSaid : Prop := fnExactIsPlainPairUptoRow.holds Try.pinned (OpenSpec.upto fnExactIsPlainPairSpec)

end Rows
end Go.Proofs.Ytgabpiaghpeakaa
