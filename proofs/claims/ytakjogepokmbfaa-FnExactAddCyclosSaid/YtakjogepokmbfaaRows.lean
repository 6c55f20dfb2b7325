/-
  No cell of these rows narrows 'for every input' (looked for: loops, veiled, ifaces, maps, wideKeys, modest, calm, conditions, laid).
  DERIVED. THE GIVEN ROWS OF THIS SEAT. 10 by the template 'for every input the law returns true; each argument reads behind the call as it read before'; 0 by the template 'total and deterministic' (their statements: YtakjogepokmbfaaTotals.lean).
  GIVEN WITH THE SEED: the statements are not yours to turn. If you find one false, say at which input.
  Laid BY PROGRAM, IN A SANDBOX (cutbox-rows.mjs): the forced cells as the released guide's own fill.sh prints them over the translation 5e538a1577c48065… (all of the seat's roots in one cut). By AI agents, Wed Nov 11 2026. No macro, syntax, notation, axiom, sorry.
-/
import Derived.Test.YtakjogepokmbfaaChecked
import GoSem.Claim
import GoSem.ClaimJoined
import GoSem.ClaimMapViews
import Derived.JoinedTies
import Derived.KernelRfl
namespace Go.Proofs.Ytakjogepokmbfaa
/- THE CELL 'sum', in the pinned program and in every row, IS THE sha256 OF THE DUMP (.gsa) THAT YtakjogepokmbfaaProg.lean LOADS. Nothing in Lean hashes anything: it is a label: what it is worth is what the hold of that sum in a sandbox is worth. -/
noncomputable def Try.pinned : Pinned := { name := "ytakjogepokmbfaa", sum := "5e538a1577c48065b0bc51c547d7cd48baca396b73dd73f57eef24d0fe3efecb", checked := Try.checked }
namespace Rows
def none {H : Type} : Left H := { results := [], args := [] }

/-- 'laws.FnExactConstants': WHATEVER THE INPUT: true; the input reads as it did. -/
def fnExactConstantsSpec : ChangeSpec := { name := "fnExactConstants", fn := fun _ => fun
  | [] => { results := [.lit (.bool true)], args := [] }
  | _ => none }
def fnExactConstantsRow : OpenClaim := { program := "ytakjogepokmbfaa", sum := "5e538a1577c48065b0bc51c547d7cd48baca396b73dd73f57eef24d0fe3efecb", func := "loop.example/g01313/laws.FnExactConstants", spec := "fnExactConstants", apart := false }
def FnExactConstantsSaid : Prop := fnExactConstantsRow.holds Try.pinned (OpenSpec.ofChange fnExactConstantsSpec)

/-- ITS FALSE NEIGHBOUR: 'it returns false'. Refute it at one input. -/
def fnExactConstantsWrong : ChangeSpec := { name := "fnExactConstants", fn := fun _ => fun
  | [] => { results := [.lit (.bool false)], args := [] }
  | _ => none }
def FnExactConstantsWrongFalsely : Prop := fnExactConstantsRow.holds Try.pinned (OpenSpec.ofChange fnExactConstantsWrong)

/-- 'laws.FnExactGenusOfCurve': WHATEVER THE INPUT: true; the input reads as it did. -/
def fnExactGenusOfCurveSpec : ChangeSpec := { name := "fnExactGenusOfCurve", fn := fun _ => fun
  | [d] => { results := [.lit (.bool true)], args := [d] }
  | _ => none }
def fnExactGenusOfCurveRow : OpenClaim := { program := "ytakjogepokmbfaa", sum := "5e538a1577c48065b0bc51c547d7cd48baca396b73dd73f57eef24d0fe3efecb", func := "loop.example/g01313/laws.FnExactGenusOfCurve", spec := "fnExactGenusOfCurve", apart := false }
def FnExactGenusOfCurveSaid : Prop := fnExactGenusOfCurveRow.holds Try.pinned (OpenSpec.ofChange fnExactGenusOfCurveSpec)

/-- ITS FALSE NEIGHBOUR: 'it returns false'. Refute it at one input. -/
def fnExactGenusOfCurveWrong : ChangeSpec := { name := "fnExactGenusOfCurve", fn := fun _ => fun
  | [d] => { results := [.lit (.bool false)], args := [d] }
  | _ => none }
def FnExactGenusOfCurveWrongFalsely : Prop := fnExactGenusOfCurveRow.holds Try.pinned (OpenSpec.ofChange fnExactGenusOfCurveWrong)

/-- 'laws.FnExactTotientOf': WHATEVER THE INPUT: true; the input reads as it did. -/
def fnExactTotientOfSpec : ChangeSpec := { name := "fnExactTotientOf", fn := fun _ => fun
  | [d] => { results := [.lit (.bool true)], args := [d] }
  | _ => none }
def fnExactTotientOfRow : OpenClaim := { program := "ytakjogepokmbfaa", sum := "5e538a1577c48065b0bc51c547d7cd48baca396b73dd73f57eef24d0fe3efecb", func := "loop.example/g01313/laws.FnExactTotientOf", spec := "fnExactTotientOf", apart := false }
def FnExactTotientOfSaid : Prop := fnExactTotientOfRow.holds Try.pinned (OpenSpec.ofChange fnExactTotientOfSpec)

/-- ITS FALSE NEIGHBOUR: 'it returns false'. Refute it at one input. -/
def fnExactTotientOfWrong : ChangeSpec := { name := "fnExactTotientOf", fn := fun _ => fun
  | [d] => { results := [.lit (.bool false)], args := [d] }
  | _ => none }
def FnExactTotientOfWrongFalsely : Prop := fnExactTotientOfRow.holds Try.pinned (OpenSpec.ofChange fnExactTotientOfWrong)

/-- 'laws.FnExactCyclotomicPolynomial': WHATEVER THE INPUT: true; the input reads as it did. -/
def fnExactCyclotomicPolynomialSpec : ChangeSpec := { name := "fnExactCyclotomicPolynomial", fn := fun _ => fun
  | [d] => { results := [.lit (.bool true)], args := [d] }
  | _ => none }
def fnExactCyclotomicPolynomialRow : OpenClaim := { program := "ytakjogepokmbfaa", sum := "5e538a1577c48065b0bc51c547d7cd48baca396b73dd73f57eef24d0fe3efecb", func := "loop.example/g01313/laws.FnExactCyclotomicPolynomial", spec := "fnExactCyclotomicPolynomial", recurses := true, apart := false }
def FnExactCyclotomicPolynomialSaid : Prop := fnExactCyclotomicPolynomialRow.holds Try.pinned (OpenSpec.ofChange fnExactCyclotomicPolynomialSpec)

/-- ITS FALSE NEIGHBOUR: 'it returns false'. Refute it at one input. -/
def fnExactCyclotomicPolynomialWrong : ChangeSpec := { name := "fnExactCyclotomicPolynomial", fn := fun _ => fun
  | [d] => { results := [.lit (.bool false)], args := [d] }
  | _ => none }
def FnExactCyclotomicPolynomialWrongFalsely : Prop := fnExactCyclotomicPolynomialRow.holds Try.pinned (OpenSpec.ofChange fnExactCyclotomicPolynomialWrong)

/-- 'laws.FnExactIsCyclo': WHATEVER THE INPUT: true; the input reads as it did. -/
def fnExactIsCycloSpec : ChangeSpec := { name := "fnExactIsCyclo", fn := fun _ => fun
  | [d] => { results := [.lit (.bool true)], args := [d] }
  | _ => none }
def fnExactIsCycloRow : OpenClaim := { program := "ytakjogepokmbfaa", sum := "5e538a1577c48065b0bc51c547d7cd48baca396b73dd73f57eef24d0fe3efecb", func := "loop.example/g01313/laws.FnExactIsCyclo", spec := "fnExactIsCyclo", unfollowed := true, recurses := true, apart := false }
def FnExactIsCycloSaid : Prop := fnExactIsCycloRow.holds Try.pinned (OpenSpec.ofChange fnExactIsCycloSpec)

/-- ITS FALSE NEIGHBOUR: 'it returns false'. Refute it at one input. -/
def fnExactIsCycloWrong : ChangeSpec := { name := "fnExactIsCyclo", fn := fun _ => fun
  | [d] => { results := [.lit (.bool false)], args := [d] }
  | _ => none }
def FnExactIsCycloWrongFalsely : Prop := fnExactIsCycloRow.holds Try.pinned (OpenSpec.ofChange fnExactIsCycloWrong)

/-- 'laws.FnExactContentOf': WHATEVER THE INPUT: true; the input reads as it did. -/
def fnExactContentOfSpec : ChangeSpec := { name := "fnExactContentOf", fn := fun _ => fun
  | [d] => { results := [.lit (.bool true)], args := [d] }
  | _ => none }
def fnExactContentOfRow : OpenClaim := { program := "ytakjogepokmbfaa", sum := "5e538a1577c48065b0bc51c547d7cd48baca396b73dd73f57eef24d0fe3efecb", func := "loop.example/g01313/laws.FnExactContentOf", spec := "fnExactContentOf", unfollowed := true, recurses := true, apart := false }
def FnExactContentOfSaid : Prop := fnExactContentOfRow.holds Try.pinned (OpenSpec.ofChange fnExactContentOfSpec)

/-- ITS FALSE NEIGHBOUR: 'it returns false'. Refute it at one input. -/
def fnExactContentOfWrong : ChangeSpec := { name := "fnExactContentOf", fn := fun _ => fun
  | [d] => { results := [.lit (.bool false)], args := [d] }
  | _ => none }
def FnExactContentOfWrongFalsely : Prop := fnExactContentOfRow.holds Try.pinned (OpenSpec.ofChange fnExactContentOfWrong)

/-- 'laws.FnExactIsCubicNumber': WHATEVER THE INPUT: true; the input reads as it did. -/
def fnExactIsCubicNumberSpec : ChangeSpec := { name := "fnExactIsCubicNumber", fn := fun _ => fun
  | [d] => { results := [.lit (.bool true)], args := [d] }
  | _ => none }
def fnExactIsCubicNumberRow : OpenClaim := { program := "ytakjogepokmbfaa", sum := "5e538a1577c48065b0bc51c547d7cd48baca396b73dd73f57eef24d0fe3efecb", func := "loop.example/g01313/laws.FnExactIsCubicNumber", spec := "fnExactIsCubicNumber", unfollowed := true, recurses := true, apart := false }
def FnExactIsCubicNumberSaid : Prop := fnExactIsCubicNumberRow.holds Try.pinned (OpenSpec.ofChange fnExactIsCubicNumberSpec)

/-- ITS FALSE NEIGHBOUR: 'it returns false'. Refute it at one input. -/
def fnExactIsCubicNumberWrong : ChangeSpec := { name := "fnExactIsCubicNumber", fn := fun _ => fun
  | [d] => { results := [.lit (.bool false)], args := [d] }
  | _ => none }
def FnExactIsCubicNumberWrongFalsely : Prop := fnExactIsCubicNumberRow.holds Try.pinned (OpenSpec.ofChange fnExactIsCubicNumberWrong)

/-- 'laws.FnExactNormOfCubic': WHATEVER THE INPUT: true; the input reads as it did. -/
def fnExactNormOfCubicSpec : ChangeSpec := { name := "fnExactNormOfCubic", fn := fun _ => fun
  | [d] => { results := [.lit (.bool true)], args := [d] }
  | _ => none }
def fnExactNormOfCubicRow : OpenClaim := { program := "ytakjogepokmbfaa", sum := "5e538a1577c48065b0bc51c547d7cd48baca396b73dd73f57eef24d0fe3efecb", func := "loop.example/g01313/laws.FnExactNormOfCubic", spec := "fnExactNormOfCubic", unfollowed := true, recurses := true, apart := false }
def FnExactNormOfCubicSaid : Prop := fnExactNormOfCubicRow.holds Try.pinned (OpenSpec.ofChange fnExactNormOfCubicSpec)

/-- ITS FALSE NEIGHBOUR: 'it returns false'. Refute it at one input. -/
def fnExactNormOfCubicWrong : ChangeSpec := { name := "fnExactNormOfCubic", fn := fun _ => fun
  | [d] => { results := [.lit (.bool false)], args := [d] }
  | _ => none }
def FnExactNormOfCubicWrongFalsely : Prop := fnExactNormOfCubicRow.holds Try.pinned (OpenSpec.ofChange fnExactNormOfCubicWrong)

/-- 'laws.FnExactIsCubicPrime': WHATEVER THE INPUT: true; the input reads as it did. -/
def fnExactIsCubicPrimeSpec : ChangeSpec := { name := "fnExactIsCubicPrime", fn := fun _ => fun
  | [d] => { results := [.lit (.bool true)], args := [d] }
  | _ => none }
def fnExactIsCubicPrimeRow : OpenClaim := { program := "ytakjogepokmbfaa", sum := "5e538a1577c48065b0bc51c547d7cd48baca396b73dd73f57eef24d0fe3efecb", func := "loop.example/g01313/laws.FnExactIsCubicPrime", spec := "fnExactIsCubicPrime", unfollowed := true, recurses := true, apart := false }
def FnExactIsCubicPrimeSaid : Prop := fnExactIsCubicPrimeRow.holds Try.pinned (OpenSpec.ofChange fnExactIsCubicPrimeSpec)

/-- ITS FALSE NEIGHBOUR: 'it returns false'. Refute it at one input. -/
def fnExactIsCubicPrimeWrong : ChangeSpec := { name := "fnExactIsCubicPrime", fn := fun _ => fun
  | [d] => { results := [.lit (.bool false)], args := [d] }
  | _ => none }
def FnExactIsCubicPrimeWrongFalsely : Prop := fnExactIsCubicPrimeRow.holds Try.pinned (OpenSpec.ofChange fnExactIsCubicPrimeWrong)

/-- 'laws.FnExactAddCyclos': WHATEVER THE INPUT: true; the input reads as it did. -/
def fnExactAddCyclosSpec : ChangeSpec := { name := "fnExactAddCyclos", fn := fun _ => fun
  | [d1, d2, d3] => { results := [.lit (.bool true)], args := [d1, d2, d3] }
  | _ => none }
def fnExactAddCyclosRow : OpenClaim := { program := "ytakjogepokmbfaa", sum := "5e538a1577c48065b0bc51c547d7cd48baca396b73dd73f57eef24d0fe3efecb", func := "loop.example/g01313/laws.FnExactAddCyclos", spec := "fnExactAddCyclos", unfollowed := true, recurses := true, apart := false }
def FnExactAddCyclosSaid : Prop := fnExactAddCyclosRow.holds Try.pinned (OpenSpec.ofChange fnExactAddCyclosSpec)

/-- ITS FALSE NEIGHBOUR: 'it returns false'. Refute it at one input. -/
def fnExactAddCyclosWrong : ChangeSpec := { name := "fnExactAddCyclos", fn := fun _ => fun
  | [d1, d2, d3] => { results := [.lit (.bool false)], args := [d1, d2, d3] }
  | _ => none }
def FnExactAddCyclosWrongFalsely : Prop := fnExactAddCyclosRow.holds Try.pinned (OpenSpec.ofChange fnExactAddCyclosWrong)

/- THE SECOND FORM. 'bulk': how many values and letters a reading holds, each counted each time it is reached (what is shared counts as often as it is met; a slice's spare places count too). A statement '..UptoSaid' is the law's where the arguments, and the package variables that the reading takes, are together of bulk at most 1048576: NARROWER than '..Said'. Prove '..Said' where nothing that the law and all that it calls make is longer than what came in: it says more and counts as full. Else prove '..UptoSaid'. A law counts once. -/
mutual
def uptoBulk {H : Type} : DataW H → Nat
  | .lit (.string bytes) => bytes.length + 1
  | .lit _ => 1
  | .nil => 1
  | .ptr d => uptoBulk d + 1
  | .slice elems spare => uptoBulkAll elems + uptoBulkAll spare + 1
  | .agg parts => uptoBulkAll parts + 1
  | .iface _ d => uptoBulk d + 1
  | .map entries => uptoBulkEntries entries + 1
  | .held _ => 1
def uptoBulkAll {H : Type} : List (DataW H) → Nat
  | [] => 0
  | d :: r => uptoBulk d + uptoBulkAll r
def uptoBulkEntries {H : Type} : List (Lit × DataW H) → Nat
  | [] => 0
  | x :: r => uptoBulkEntry x + uptoBulkEntries r
def uptoBulkEntry {H : Type} : Lit × DataW H → Nat
  | (.string bytes, d) => bytes.length + uptoBulk d + 1
  | (_, d) => uptoBulk d + 1
 end
def uptoSmall : (H : Type) → List (DataW H) → Bool := fun _ ds => decide (uptoBulkAll ds ≤ 1048576)
def OpenSpec.upto (s : _root_.Go.ChangeSpec) : _root_.Go.OpenSpec := { _root_.Go.OpenSpec.ofChange s with cond := some uptoSmall }

/-- 'laws.FnExactConstants', WHERE WHAT IT READS IS OF BULK AT MOST 1048576: true; the input reads as it did. -/
def fnExactConstantsUptoRow : OpenClaim := { program := "ytakjogepokmbfaa", sum := "5e538a1577c48065b0bc51c547d7cd48baca396b73dd73f57eef24d0fe3efecb", func := "loop.example/g01313/laws.FnExactConstants", spec := "fnExactConstants", apart := false, narrowed := true }
def FnExactConstantsUptoSaid : Prop := fnExactConstantsUptoRow.holds Try.pinned (OpenSpec.upto fnExactConstantsSpec)

/-- 'laws.FnExactGenusOfCurve', WHERE WHAT IT READS IS OF BULK AT MOST 1048576: true; the input reads as it did. -/
def fnExactGenusOfCurveUptoRow : OpenClaim := { program := "ytakjogepokmbfaa", sum := "5e538a1577c48065b0bc51c547d7cd48baca396b73dd73f57eef24d0fe3efecb", func := "loop.example/g01313/laws.FnExactGenusOfCurve", spec := "fnExactGenusOfCurve", apart := false, narrowed := true }
def FnExactGenusOfCurveUptoSaid : Prop := fnExactGenusOfCurveUptoRow.holds Try.pinned (OpenSpec.upto fnExactGenusOfCurveSpec)

/-- 'laws.FnExactTotientOf', WHERE WHAT IT READS IS OF BULK AT MOST 1048576: true; the input reads as it did. -/
def fnExactTotientOfUptoRow : OpenClaim := { program := "ytakjogepokmbfaa", sum := "5e538a1577c48065b0bc51c547d7cd48baca396b73dd73f57eef24d0fe3efecb", func := "loop.example/g01313/laws.FnExactTotientOf", spec := "fnExactTotientOf", apart := false, narrowed := true }
def FnExactTotientOfUptoSaid : Prop := fnExactTotientOfUptoRow.holds Try.pinned (OpenSpec.upto fnExactTotientOfSpec)

/-- 'laws.FnExactCyclotomicPolynomial', WHERE WHAT IT READS IS OF BULK AT MOST 1048576: true; the input reads as it did. -/
def fnExactCyclotomicPolynomialUptoRow : OpenClaim := { program := "ytakjogepokmbfaa", sum := "5e538a1577c48065b0bc51c547d7cd48baca396b73dd73f57eef24d0fe3efecb", func := "loop.example/g01313/laws.FnExactCyclotomicPolynomial", spec := "fnExactCyclotomicPolynomial", recurses := true, apart := false, narrowed := true }
def FnExactCyclotomicPolynomialUptoSaid : Prop := fnExactCyclotomicPolynomialUptoRow.holds Try.pinned (OpenSpec.upto fnExactCyclotomicPolynomialSpec)

/-- 'laws.FnExactIsCyclo', WHERE WHAT IT READS IS OF BULK AT MOST 1048576: true; the input reads as it did. -/
def fnExactIsCycloUptoRow : OpenClaim := { program := "ytakjogepokmbfaa", sum := "5e538a1577c48065b0bc51c547d7cd48baca396b73dd73f57eef24d0fe3efecb", func := "loop.example/g01313/laws.FnExactIsCyclo", spec := "fnExactIsCyclo", unfollowed := true, recurses := true, apart := false, narrowed := true }
def FnExactIsCycloUptoSaid : Prop := fnExactIsCycloUptoRow.holds Try.pinned (OpenSpec.upto fnExactIsCycloSpec)

/-- 'laws.FnExactContentOf', WHERE WHAT IT READS IS OF BULK AT MOST 1048576: true; the input reads as it did. -/
def fnExactContentOfUptoRow : OpenClaim := { program := "ytakjogepokmbfaa", sum := "5e538a1577c48065b0bc51c547d7cd48baca396b73dd73f57eef24d0fe3efecb", func := "loop.example/g01313/laws.FnExactContentOf", spec := "fnExactContentOf", unfollowed := true, recurses := true, apart := false, narrowed := true }
def FnExactContentOfUptoSaid : Prop := fnExactContentOfUptoRow.holds Try.pinned (OpenSpec.upto fnExactContentOfSpec)

/-- 'laws.FnExactIsCubicNumber', WHERE WHAT IT READS IS OF BULK AT MOST 1048576: true; the input reads as it did. -/
def fnExactIsCubicNumberUptoRow : OpenClaim := { program := "ytakjogepokmbfaa", sum := "5e538a1577c48065b0bc51c547d7cd48baca396b73dd73f57eef24d0fe3efecb", func := "loop.example/g01313/laws.FnExactIsCubicNumber", spec := "fnExactIsCubicNumber", unfollowed := true, recurses := true, apart := false, narrowed := true }
def FnExactIsCubicNumberUptoSaid : Prop := fnExactIsCubicNumberUptoRow.holds Try.pinned (OpenSpec.upto fnExactIsCubicNumberSpec)

/-- 'laws.FnExactNormOfCubic', WHERE WHAT IT READS IS OF BULK AT MOST 1048576: true; the input reads as it did. -/
def fnExactNormOfCubicUptoRow : OpenClaim := { program := "ytakjogepokmbfaa", sum := "5e538a1577c48065b0bc51c547d7cd48baca396b73dd73f57eef24d0fe3efecb", func := "loop.example/g01313/laws.FnExactNormOfCubic", spec := "fnExactNormOfCubic", unfollowed := true, recurses := true, apart := false, narrowed := true }
def FnExactNormOfCubicUptoSaid : Prop := fnExactNormOfCubicUptoRow.holds Try.pinned (OpenSpec.upto fnExactNormOfCubicSpec)

/-- 'laws.FnExactIsCubicPrime', WHERE WHAT IT READS IS OF BULK AT MOST 1048576: true; the input reads as it did. -/
def fnExactIsCubicPrimeUptoRow : OpenClaim := { program := "ytakjogepokmbfaa", sum := "5e538a1577c48065b0bc51c547d7cd48baca396b73dd73f57eef24d0fe3efecb", func := "loop.example/g01313/laws.FnExactIsCubicPrime", spec := "fnExactIsCubicPrime", unfollowed := true, recurses := true, apart := false, narrowed := true }
def FnExactIsCubicPrimeUptoSaid : Prop := fnExactIsCubicPrimeUptoRow.holds Try.pinned (OpenSpec.upto fnExactIsCubicPrimeSpec)

/-- 'laws.FnExactAddCyclos', WHERE WHAT IT READS IS OF BULK AT MOST 1048576: true; the input reads as it did. -/
def fnExactAddCyclosUptoRow : OpenClaim := { program := "ytakjogepokmbfaa", sum := "5e538a1577c48065b0bc51c547d7cd48baca396b73dd73f57eef24d0fe3efecb", func := "loop.example/g01313/laws.FnExactAddCyclos", spec := "fnExactAddCyclos", unfollowed := true, recurses := true, apart := false, narrowed := true }
def FnExactAddCyclosUptoSaid : Prop := fnExactAddCyclosUptoRow.holds Try.pinned (OpenSpec.upto fnExactAddCyclosSpec)

end Rows
end Go.Proofs.Ytakjogepokmbfaa
