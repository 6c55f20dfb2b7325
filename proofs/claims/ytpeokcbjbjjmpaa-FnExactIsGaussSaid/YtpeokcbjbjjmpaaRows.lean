/-
  No cell of these rows narrows 'for every input' (looked for: loops, veiled, ifaces, maps, wideKeys, modest, calm, conditions, laid).
  DERIVED. THE GIVEN ROWS OF THIS SEAT. 6 by the template 'for every input the law returns true; each argument reads behind the call as it read before'; 0 by the template 'total and deterministic' (their statements: YtpeokcbjbjjmpaaTotals.lean).
  GIVEN WITH THE SEED: the statements are not yours to turn. If you find one false, say at which input.
  Laid BY PROGRAM, IN A SANDBOX (cutbox-rows.mjs): the forced cells as the released guide's own fill.sh prints them over the translation e7527e8cb7e6ceba… (all of the seat's roots in one cut). By AI agents, Wed Nov 11 2026. No macro, syntax, notation, axiom, sorry.
-/
import Derived.Test.YtpeokcbjbjjmpaaChecked
import GoSem.Claim
import GoSem.ClaimJoined
import GoSem.ClaimMapViews
import Derived.JoinedTies
import Derived.KernelRfl
namespace Go.Proofs.Ytpeokcbjbjjmpaa
/- THE CELL 'sum', in the pinned program and in every row, IS THE sha256 OF THE DUMP (.gsa) THAT YtpeokcbjbjjmpaaProg.lean LOADS. Nothing in Lean hashes anything: it is a label: what it is worth is what the hold of that sum in a sandbox is worth. -/
noncomputable def Try.pinned : Pinned := { name := "ytpeokcbjbjjmpaa", sum := "e7527e8cb7e6cebac25721fa599969e44f538b943b1c4510147843c56538bc5e", checked := Try.checked }
namespace Rows
def none {H : Type} : Left H := { results := [], args := [] }

/-- 'laws.FnExactKernelOf': WHATEVER THE INPUT: true; the input reads as it did. -/
def fnExactKernelOfSpec : ChangeSpec := { name := "fnExactKernelOf", fn := fun _ => fun
  | [d] => { results := [.lit (.bool true)], args := [d] }
  | _ => none }
def fnExactKernelOfRow : OpenClaim := { program := "ytpeokcbjbjjmpaa", sum := "e7527e8cb7e6cebac25721fa599969e44f538b943b1c4510147843c56538bc5e", func := "loop.example/g01313/laws.FnExactKernelOf", spec := "fnExactKernelOf", apart := false }
def FnExactKernelOfSaid : Prop := fnExactKernelOfRow.holds Try.pinned (OpenSpec.ofChange fnExactKernelOfSpec)

/-- ITS FALSE NEIGHBOUR: 'it returns false'. Refute it at one input. -/
def fnExactKernelOfWrong : ChangeSpec := { name := "fnExactKernelOf", fn := fun _ => fun
  | [d] => { results := [.lit (.bool false)], args := [d] }
  | _ => none }
def FnExactKernelOfWrongFalsely : Prop := fnExactKernelOfRow.holds Try.pinned (OpenSpec.ofChange fnExactKernelOfWrong)

/-- 'laws.FnExactCurvePoints': WHATEVER THE INPUT: true; the input reads as it did. -/
def fnExactCurvePointsSpec : ChangeSpec := { name := "fnExactCurvePoints", fn := fun _ => fun
  | [d1, d2] => { results := [.lit (.bool true)], args := [d1, d2] }
  | _ => none }
def fnExactCurvePointsRow : OpenClaim := { program := "ytpeokcbjbjjmpaa", sum := "e7527e8cb7e6cebac25721fa599969e44f538b943b1c4510147843c56538bc5e", func := "loop.example/g01313/laws.FnExactCurvePoints", spec := "fnExactCurvePoints", apart := false }
def FnExactCurvePointsSaid : Prop := fnExactCurvePointsRow.holds Try.pinned (OpenSpec.ofChange fnExactCurvePointsSpec)

/-- ITS FALSE NEIGHBOUR: 'it returns false'. Refute it at one input. -/
def fnExactCurvePointsWrong : ChangeSpec := { name := "fnExactCurvePoints", fn := fun _ => fun
  | [d1, d2] => { results := [.lit (.bool false)], args := [d1, d2] }
  | _ => none }
def FnExactCurvePointsWrongFalsely : Prop := fnExactCurvePointsRow.holds Try.pinned (OpenSpec.ofChange fnExactCurvePointsWrong)

/-- 'laws.FnExactCountSolutions': WHATEVER THE INPUT: true; the input reads as it did. -/
def fnExactCountSolutionsSpec : ChangeSpec := { name := "fnExactCountSolutions", fn := fun _ => fun
  | [d1, d2, d3, d4] => { results := [.lit (.bool true)], args := [d1, d2, d3, d4] }
  | _ => none }
def fnExactCountSolutionsRow : OpenClaim := { program := "ytpeokcbjbjjmpaa", sum := "e7527e8cb7e6cebac25721fa599969e44f538b943b1c4510147843c56538bc5e", func := "loop.example/g01313/laws.FnExactCountSolutions", spec := "fnExactCountSolutions", apart := false }
def FnExactCountSolutionsSaid : Prop := fnExactCountSolutionsRow.holds Try.pinned (OpenSpec.ofChange fnExactCountSolutionsSpec)

/-- ITS FALSE NEIGHBOUR: 'it returns false'. Refute it at one input. -/
def fnExactCountSolutionsWrong : ChangeSpec := { name := "fnExactCountSolutions", fn := fun _ => fun
  | [d1, d2, d3, d4] => { results := [.lit (.bool false)], args := [d1, d2, d3, d4] }
  | _ => none }
def FnExactCountSolutionsWrongFalsely : Prop := fnExactCountSolutionsRow.holds Try.pinned (OpenSpec.ofChange fnExactCountSolutionsWrong)

/-- 'laws.FnExactIsGauss': WHATEVER THE INPUT: true; the input reads as it did. -/
def fnExactIsGaussSpec : ChangeSpec := { name := "fnExactIsGauss", fn := fun _ => fun
  | [d] => { results := [.lit (.bool true)], args := [d] }
  | _ => none }
def fnExactIsGaussRow : OpenClaim := { program := "ytpeokcbjbjjmpaa", sum := "e7527e8cb7e6cebac25721fa599969e44f538b943b1c4510147843c56538bc5e", func := "loop.example/g01313/laws.FnExactIsGauss", spec := "fnExactIsGauss", unfollowed := true, recurses := true, apart := false }
def FnExactIsGaussSaid : Prop := fnExactIsGaussRow.holds Try.pinned (OpenSpec.ofChange fnExactIsGaussSpec)

/-- ITS FALSE NEIGHBOUR: 'it returns false'. Refute it at one input. -/
def fnExactIsGaussWrong : ChangeSpec := { name := "fnExactIsGauss", fn := fun _ => fun
  | [d] => { results := [.lit (.bool false)], args := [d] }
  | _ => none }
def FnExactIsGaussWrongFalsely : Prop := fnExactIsGaussRow.holds Try.pinned (OpenSpec.ofChange fnExactIsGaussWrong)

/-- 'laws.FnExactExponentsOf': WHATEVER THE INPUT: true; the input reads as it did. -/
def fnExactExponentsOfSpec : ChangeSpec := { name := "fnExactExponentsOf", fn := fun _ => fun
  | [d] => { results := [.lit (.bool true)], args := [d] }
  | _ => none }
def fnExactExponentsOfRow : OpenClaim := { program := "ytpeokcbjbjjmpaa", sum := "e7527e8cb7e6cebac25721fa599969e44f538b943b1c4510147843c56538bc5e", func := "loop.example/g01313/laws.FnExactExponentsOf", spec := "fnExactExponentsOf", apart := false }
def FnExactExponentsOfSaid : Prop := fnExactExponentsOfRow.holds Try.pinned (OpenSpec.ofChange fnExactExponentsOfSpec)

/-- ITS FALSE NEIGHBOUR: 'it returns false'. Refute it at one input. -/
def fnExactExponentsOfWrong : ChangeSpec := { name := "fnExactExponentsOf", fn := fun _ => fun
  | [d] => { results := [.lit (.bool false)], args := [d] }
  | _ => none }
def FnExactExponentsOfWrongFalsely : Prop := fnExactExponentsOfRow.holds Try.pinned (OpenSpec.ofChange fnExactExponentsOfWrong)

/-- 'laws.FnExactIsEvenCharacter': WHATEVER THE INPUT: true; the input reads as it did. -/
def fnExactIsEvenCharacterSpec : ChangeSpec := { name := "fnExactIsEvenCharacter", fn := fun _ => fun
  | [d] => { results := [.lit (.bool true)], args := [d] }
  | _ => none }
def fnExactIsEvenCharacterRow : OpenClaim := { program := "ytpeokcbjbjjmpaa", sum := "e7527e8cb7e6cebac25721fa599969e44f538b943b1c4510147843c56538bc5e", func := "loop.example/g01313/laws.FnExactIsEvenCharacter", spec := "fnExactIsEvenCharacter", apart := false }
def FnExactIsEvenCharacterSaid : Prop := fnExactIsEvenCharacterRow.holds Try.pinned (OpenSpec.ofChange fnExactIsEvenCharacterSpec)

/-- ITS FALSE NEIGHBOUR: 'it returns false'. Refute it at one input. -/
def fnExactIsEvenCharacterWrong : ChangeSpec := { name := "fnExactIsEvenCharacter", fn := fun _ => fun
  | [d] => { results := [.lit (.bool false)], args := [d] }
  | _ => none }
def FnExactIsEvenCharacterWrongFalsely : Prop := fnExactIsEvenCharacterRow.holds Try.pinned (OpenSpec.ofChange fnExactIsEvenCharacterWrong)

/- THE SECOND FORM. 'bulk': how many values and letters a reading holds, each counted each time it is reached (what is shared counts as often as it is met; a slice's spare places count too). A statement '..UptoSaid' is the law's where the arguments, and the package variables that the reading takes, are together of bulk at most 1048576: NARROWER than '..Said'. Prove '..Said' where nothing that the law and all that it calls make is longer than what came in: it says more and counts as full. Else prove '..UptoSaid'. A law counts once. -/
mutual
def uptoBulk {H : Type} : DataW H → Nat
  | .lit (.string bytes) => bytes.length + 1
  | .lit _ => 1
  | .nil => 1
  | .ptr d => uptoBulk d + 1
  | .slice elems spare => uptoBulkAll elems + uptoBulkAll spare + 1
  | .agg parts => uptoBulkAll parts + 1
  | .iface _ d => uptoBulk d + 1
  | .map entries => uptoBulkEntries entries + 1
  | .held _ => 1
def uptoBulkAll {H : Type} : List (DataW H) → Nat
  | [] => 0
  | d :: r => uptoBulk d + uptoBulkAll r
def uptoBulkEntries {H : Type} : List (Lit × DataW H) → Nat
  | [] => 0
  | x :: r => uptoBulkEntry x + uptoBulkEntries r
def uptoBulkEntry {H : Type} : Lit × DataW H → Nat
  | (.string bytes, d) => bytes.length + uptoBulk d + 1
  | (_, d) => uptoBulk d + 1
 end
def uptoSmall : (H : Type) → List (DataW H) → Bool := fun _ ds => decide (uptoBulkAll ds ≤ 1048576)
def OpenSpec.upto (s : _root_.Go.ChangeSpec) : _root_.Go.OpenSpec := { _root_.Go.OpenSpec.ofChange s with cond := some uptoSmall }

/-- 'laws.FnExactKernelOf', WHERE WHAT IT READS IS OF BULK AT MOST 1048576: true; the input reads as it did. -/
def fnExactKernelOfUptoRow : OpenClaim := { program := "ytpeokcbjbjjmpaa", sum := "e7527e8cb7e6cebac25721fa599969e44f538b943b1c4510147843c56538bc5e", func := "loop.example/g01313/laws.FnExactKernelOf", spec := "fnExactKernelOf", apart := false, narrowed := true }
def FnExactKernelOfUptoSaid : Prop := fnExactKernelOfUptoRow.holds Try.pinned (OpenSpec.upto fnExactKernelOfSpec)

/-- 'laws.FnExactCurvePoints', WHERE WHAT IT READS IS OF BULK AT MOST 1048576: true; the input reads as it did. -/
def fnExactCurvePointsUptoRow : OpenClaim := { program := "ytpeokcbjbjjmpaa", sum := "e7527e8cb7e6cebac25721fa599969e44f538b943b1c4510147843c56538bc5e", func := "loop.example/g01313/laws.FnExactCurvePoints", spec := "fnExactCurvePoints", apart := false, narrowed := true }
def FnExactCurvePointsUptoSaid : Prop := fnExactCurvePointsUptoRow.holds Try.pinned (OpenSpec.upto fnExactCurvePointsSpec)

/-- 'laws.FnExactCountSolutions', WHERE WHAT IT READS IS OF BULK AT MOST 1048576: true; the input reads as it did. -/
def fnExactCountSolutionsUptoRow : OpenClaim := { program := "ytpeokcbjbjjmpaa", sum := "e7527e8cb7e6cebac25721fa599969e44f538b943b1c4510147843c56538bc5e", func := "loop.example/g01313/laws.FnExactCountSolutions", spec := "fnExactCountSolutions", apart := false, narrowed := true }
def FnExactCountSolutionsUptoSaid : Prop := fnExactCountSolutionsUptoRow.holds Try.pinned (OpenSpec.upto fnExactCountSolutionsSpec)

/-- 'laws.FnExactIsGauss', WHERE WHAT IT READS IS OF BULK AT MOST 1048576: true; the input reads as it did. -/
def fnExactIsGaussUptoRow : OpenClaim := { program := "ytpeokcbjbjjmpaa", sum := "e7527e8cb7e6cebac25721fa599969e44f538b943b1c4510147843c56538bc5e", func := "loop.example/g01313/laws.FnExactIsGauss", spec := "fnExactIsGauss", unfollowed := true, recurses := true, apart := false, narrowed := true }
def FnExactIsGaussUptoSaid : Prop := fnExactIsGaussUptoRow.holds Try.pinned (OpenSpec.upto fnExactIsGaussSpec)

/-- 'laws.FnExactExponentsOf', WHERE WHAT IT READS IS OF BULK AT MOST 1048576: true; the input reads as it did. -/
def fnExactExponentsOfUptoRow : OpenClaim := { program := "ytpeokcbjbjjmpaa", sum := "e7527e8cb7e6cebac25721fa599969e44f538b943b1c4510147843c56538bc5e", func := "loop.example/g01313/laws.FnExactExponentsOf", spec := "fnExactExponentsOf", apart := false, narrowed := true }
def FnExactExponentsOfUptoSaid : Prop := fnExactExponentsOfUptoRow.holds Try.pinned (OpenSpec.upto fnExactExponentsOfSpec)

/-- 'laws.FnExactIsEvenCharacter', WHERE WHAT IT READS IS OF BULK AT MOST 1048576: true; the input reads as it did. -/
def fnExactIsEvenCharacterUptoRow : OpenClaim := { program := "ytpeokcbjbjjmpaa", sum := "e7527e8cb7e6cebac25721fa599969e44f538b943b1c4510147843c56538bc5e", func := "loop.example/g01313/laws.FnExactIsEvenCharacter", spec := "fnExactIsEvenCharacter", apart := false, narrowed := true }
def FnExactIsEvenCharacterUptoSaid : Prop := fnExactIsEvenCharacterUptoRow.holds Try.pinned (OpenSpec.upto fnExactIsEvenCharacterSpec)

end Rows
end Go.Proofs.Ytpeokcbjbjjmpaa
