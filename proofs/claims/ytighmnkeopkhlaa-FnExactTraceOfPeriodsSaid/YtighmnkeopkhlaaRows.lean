/-
  No cell of these rows narrows 'for every input' (looked for: loops, veiled, ifaces, maps, wideKeys, modest, calm, conditions, laid).
  DERIVED. THE GIVEN ROWS OF THIS SEAT. 9 by the template 'for every input the law returns true; each argument reads behind the call as it read before'; 0 by the template 'total and deterministic' (their statements: YtighmnkeopkhlaaTotals.lean).
  GIVEN WITH THE SEED: the statements are not yours to turn. If you find one false, say at which input.
  Laid BY PROGRAM, IN A SANDBOX (cutbox-rows.mjs): the forced cells as the released guide's own fill.sh prints them over the translation 8b742a84e0ff83a6… (all of the seat's roots in one cut). By AI agents, Wed Nov 11 2026. No macro, syntax, notation, axiom, sorry.
-/
import Derived.Test.YtighmnkeopkhlaaChecked
import GoSem.Claim
import GoSem.ClaimJoined
import GoSem.ClaimMapViews
import Derived.JoinedTies
import Derived.KernelRfl
namespace Go.Proofs.Ytighmnkeopkhlaa
/- THE CELL 'sum', in the pinned program and in every row, IS THE sha256 OF THE DUMP (.gsa) THAT YtighmnkeopkhlaaProg.lean LOADS. Nothing in Lean hashes anything: it is a label: what it is worth is what the hold of that sum in a sandbox is worth. -/
noncomputable def Try.pinned : Pinned := { name := "ytighmnkeopkhlaa", sum := "8b742a84e0ff83a6032daf65f6b475c74be9468d18eb67bcd56044df1656f457", checked := Try.checked }
namespace Rows
def none {H : Type} : Left H := { results := [], args := [] }

/-- 'laws.FnExactTotientOf': WHATEVER THE INPUT: true; the input reads as it did. -/
def fnExactTotientOfSpec : ChangeSpec := { name := "fnExactTotientOf", fn := fun _ => fun
  | [d] => { results := [.lit (.bool true)], args := [d] }
  | _ => none }
def fnExactTotientOfRow : OpenClaim := { program := "ytighmnkeopkhlaa", sum := "8b742a84e0ff83a6032daf65f6b475c74be9468d18eb67bcd56044df1656f457", func := "loop.example/g01313/laws.FnExactTotientOf", spec := "fnExactTotientOf", apart := false }
def FnExactTotientOfSaid : Prop := fnExactTotientOfRow.holds Try.pinned (OpenSpec.ofChange fnExactTotientOfSpec)

/-- ITS FALSE NEIGHBOUR: 'it returns false'. Refute it at one input. -/
def fnExactTotientOfWrong : ChangeSpec := { name := "fnExactTotientOf", fn := fun _ => fun
  | [d] => { results := [.lit (.bool false)], args := [d] }
  | _ => none }
def FnExactTotientOfWrongFalsely : Prop := fnExactTotientOfRow.holds Try.pinned (OpenSpec.ofChange fnExactTotientOfWrong)

/-- 'laws.FnExactClassMembers': WHATEVER THE INPUT: true; the input reads as it did. -/
def fnExactClassMembersSpec : ChangeSpec := { name := "fnExactClassMembers", fn := fun _ => fun
  | [d1, d2, d3] => { results := [.lit (.bool true)], args := [d1, d2, d3] }
  | _ => none }
def fnExactClassMembersRow : OpenClaim := { program := "ytighmnkeopkhlaa", sum := "8b742a84e0ff83a6032daf65f6b475c74be9468d18eb67bcd56044df1656f457", func := "loop.example/g01313/laws.FnExactClassMembers", spec := "fnExactClassMembers", apart := false }
def FnExactClassMembersSaid : Prop := fnExactClassMembersRow.holds Try.pinned (OpenSpec.ofChange fnExactClassMembersSpec)

/-- ITS FALSE NEIGHBOUR: 'it returns false'. Refute it at one input. -/
def fnExactClassMembersWrong : ChangeSpec := { name := "fnExactClassMembers", fn := fun _ => fun
  | [d1, d2, d3] => { results := [.lit (.bool false)], args := [d1, d2, d3] }
  | _ => none }
def FnExactClassMembersWrongFalsely : Prop := fnExactClassMembersRow.holds Try.pinned (OpenSpec.ofChange fnExactClassMembersWrong)

/-- 'laws.FnExactCyclotomicPolynomial': WHATEVER THE INPUT: true; the input reads as it did. -/
def fnExactCyclotomicPolynomialSpec : ChangeSpec := { name := "fnExactCyclotomicPolynomial", fn := fun _ => fun
  | [d] => { results := [.lit (.bool true)], args := [d] }
  | _ => none }
def fnExactCyclotomicPolynomialRow : OpenClaim := { program := "ytighmnkeopkhlaa", sum := "8b742a84e0ff83a6032daf65f6b475c74be9468d18eb67bcd56044df1656f457", func := "loop.example/g01313/laws.FnExactCyclotomicPolynomial", spec := "fnExactCyclotomicPolynomial", recurses := true, apart := false }
def FnExactCyclotomicPolynomialSaid : Prop := fnExactCyclotomicPolynomialRow.holds Try.pinned (OpenSpec.ofChange fnExactCyclotomicPolynomialSpec)

/-- ITS FALSE NEIGHBOUR: 'it returns false'. Refute it at one input. -/
def fnExactCyclotomicPolynomialWrong : ChangeSpec := { name := "fnExactCyclotomicPolynomial", fn := fun _ => fun
  | [d] => { results := [.lit (.bool false)], args := [d] }
  | _ => none }
def FnExactCyclotomicPolynomialWrongFalsely : Prop := fnExactCyclotomicPolynomialRow.holds Try.pinned (OpenSpec.ofChange fnExactCyclotomicPolynomialWrong)

/-- 'laws.FnExactIsDifferenceClass': WHATEVER THE INPUT: true; the input reads as it did. -/
def fnExactIsDifferenceClassSpec : ChangeSpec := { name := "fnExactIsDifferenceClass", fn := fun _ => fun
  | [d1, d2] => { results := [.lit (.bool true)], args := [d1, d2] }
  | _ => none }
def fnExactIsDifferenceClassRow : OpenClaim := { program := "ytighmnkeopkhlaa", sum := "8b742a84e0ff83a6032daf65f6b475c74be9468d18eb67bcd56044df1656f457", func := "loop.example/g01313/laws.FnExactIsDifferenceClass", spec := "fnExactIsDifferenceClass", apart := false }
def FnExactIsDifferenceClassSaid : Prop := fnExactIsDifferenceClassRow.holds Try.pinned (OpenSpec.ofChange fnExactIsDifferenceClassSpec)

/-- ITS FALSE NEIGHBOUR: 'it returns false'. Refute it at one input. -/
def fnExactIsDifferenceClassWrong : ChangeSpec := { name := "fnExactIsDifferenceClass", fn := fun _ => fun
  | [d1, d2] => { results := [.lit (.bool false)], args := [d1, d2] }
  | _ => none }
def FnExactIsDifferenceClassWrongFalsely : Prop := fnExactIsDifferenceClassRow.holds Try.pinned (OpenSpec.ofChange fnExactIsDifferenceClassWrong)

/-- 'laws.FnExactTraceOfPeriods': WHATEVER THE INPUT: true; the input reads as it did. -/
def fnExactTraceOfPeriodsSpec : ChangeSpec := { name := "fnExactTraceOfPeriods", fn := fun _ => fun
  | [d1, d2, d3] => { results := [.lit (.bool true)], args := [d1, d2, d3] }
  | _ => none }
def fnExactTraceOfPeriodsRow : OpenClaim := { program := "ytighmnkeopkhlaa", sum := "8b742a84e0ff83a6032daf65f6b475c74be9468d18eb67bcd56044df1656f457", func := "loop.example/g01313/laws.FnExactTraceOfPeriods", spec := "fnExactTraceOfPeriods", unfollowed := true, recurses := true, apart := false }
def FnExactTraceOfPeriodsSaid : Prop := fnExactTraceOfPeriodsRow.holds Try.pinned (OpenSpec.ofChange fnExactTraceOfPeriodsSpec)

/-- ITS FALSE NEIGHBOUR: 'it returns false'. Refute it at one input. -/
def fnExactTraceOfPeriodsWrong : ChangeSpec := { name := "fnExactTraceOfPeriods", fn := fun _ => fun
  | [d1, d2, d3] => { results := [.lit (.bool false)], args := [d1, d2, d3] }
  | _ => none }
def FnExactTraceOfPeriodsWrongFalsely : Prop := fnExactTraceOfPeriodsRow.holds Try.pinned (OpenSpec.ofChange fnExactTraceOfPeriodsWrong)

/-- 'laws.FnExactClassOf': WHATEVER THE INPUT: true; the input reads as it did. -/
def fnExactClassOfSpec : ChangeSpec := { name := "fnExactClassOf", fn := fun _ => fun
  | [d1, d2, d3] => { results := [.lit (.bool true)], args := [d1, d2, d3] }
  | _ => none }
def fnExactClassOfRow : OpenClaim := { program := "ytighmnkeopkhlaa", sum := "8b742a84e0ff83a6032daf65f6b475c74be9468d18eb67bcd56044df1656f457", func := "loop.example/g01313/laws.FnExactClassOf", spec := "fnExactClassOf", apart := false }
def FnExactClassOfSaid : Prop := fnExactClassOfRow.holds Try.pinned (OpenSpec.ofChange fnExactClassOfSpec)

/-- ITS FALSE NEIGHBOUR: 'it returns false'. Refute it at one input. -/
def fnExactClassOfWrong : ChangeSpec := { name := "fnExactClassOf", fn := fun _ => fun
  | [d1, d2, d3] => { results := [.lit (.bool false)], args := [d1, d2, d3] }
  | _ => none }
def FnExactClassOfWrongFalsely : Prop := fnExactClassOfRow.holds Try.pinned (OpenSpec.ofChange fnExactClassOfWrong)

/-- 'laws.FnExactGenusOfCurve': WHATEVER THE INPUT: true; the input reads as it did. -/
def fnExactGenusOfCurveSpec : ChangeSpec := { name := "fnExactGenusOfCurve", fn := fun _ => fun
  | [d] => { results := [.lit (.bool true)], args := [d] }
  | _ => none }
def fnExactGenusOfCurveRow : OpenClaim := { program := "ytighmnkeopkhlaa", sum := "8b742a84e0ff83a6032daf65f6b475c74be9468d18eb67bcd56044df1656f457", func := "loop.example/g01313/laws.FnExactGenusOfCurve", spec := "fnExactGenusOfCurve", apart := false }
def FnExactGenusOfCurveSaid : Prop := fnExactGenusOfCurveRow.holds Try.pinned (OpenSpec.ofChange fnExactGenusOfCurveSpec)

/-- ITS FALSE NEIGHBOUR: 'it returns false'. Refute it at one input. -/
def fnExactGenusOfCurveWrong : ChangeSpec := { name := "fnExactGenusOfCurve", fn := fun _ => fun
  | [d] => { results := [.lit (.bool false)], args := [d] }
  | _ => none }
def FnExactGenusOfCurveWrongFalsely : Prop := fnExactGenusOfCurveRow.holds Try.pinned (OpenSpec.ofChange fnExactGenusOfCurveWrong)

/-- 'laws.FnExactConstants': WHATEVER THE INPUT: true; the input reads as it did. -/
def fnExactConstantsSpec : ChangeSpec := { name := "fnExactConstants", fn := fun _ => fun
  | [] => { results := [.lit (.bool true)], args := [] }
  | _ => none }
def fnExactConstantsRow : OpenClaim := { program := "ytighmnkeopkhlaa", sum := "8b742a84e0ff83a6032daf65f6b475c74be9468d18eb67bcd56044df1656f457", func := "loop.example/g01313/laws.FnExactConstants", spec := "fnExactConstants", apart := false }
def FnExactConstantsSaid : Prop := fnExactConstantsRow.holds Try.pinned (OpenSpec.ofChange fnExactConstantsSpec)

/-- ITS FALSE NEIGHBOUR: 'it returns false'. Refute it at one input. -/
def fnExactConstantsWrong : ChangeSpec := { name := "fnExactConstants", fn := fun _ => fun
  | [] => { results := [.lit (.bool false)], args := [] }
  | _ => none }
def FnExactConstantsWrongFalsely : Prop := fnExactConstantsRow.holds Try.pinned (OpenSpec.ofChange fnExactConstantsWrong)

/-- 'laws.FnExactCyclotomicNumber': WHATEVER THE INPUT: true; the input reads as it did. -/
def fnExactCyclotomicNumberSpec : ChangeSpec := { name := "fnExactCyclotomicNumber", fn := fun _ => fun
  | [d1, d2, d3, d4] => { results := [.lit (.bool true)], args := [d1, d2, d3, d4] }
  | _ => none }
def fnExactCyclotomicNumberRow : OpenClaim := { program := "ytighmnkeopkhlaa", sum := "8b742a84e0ff83a6032daf65f6b475c74be9468d18eb67bcd56044df1656f457", func := "loop.example/g01313/laws.FnExactCyclotomicNumber", spec := "fnExactCyclotomicNumber", apart := false }
def FnExactCyclotomicNumberSaid : Prop := fnExactCyclotomicNumberRow.holds Try.pinned (OpenSpec.ofChange fnExactCyclotomicNumberSpec)

/-- ITS FALSE NEIGHBOUR: 'it returns false'. Refute it at one input. -/
def fnExactCyclotomicNumberWrong : ChangeSpec := { name := "fnExactCyclotomicNumber", fn := fun _ => fun
  | [d1, d2, d3, d4] => { results := [.lit (.bool false)], args := [d1, d2, d3, d4] }
  | _ => none }
def FnExactCyclotomicNumberWrongFalsely : Prop := fnExactCyclotomicNumberRow.holds Try.pinned (OpenSpec.ofChange fnExactCyclotomicNumberWrong)

/- THE SECOND FORM. 'bulk': how many values and letters a reading holds, each counted each time it is reached (what is shared counts as often as it is met; a slice's spare places count too). A statement '..UptoSaid' is the law's where the arguments, and the package variables that the reading takes, are together of bulk at most 1048576: NARROWER than '..Said'. Prove '..Said' where nothing that the law and all that it calls make is longer than what came in: it says more and counts as full. Else prove '..UptoSaid'. A law counts once. -/
mutual
def uptoBulk {H : Type} : DataW H → Nat
  | .lit (.string bytes) => bytes.length + 1
  | .lit _ => 1
  | .nil => 1
  | .ptr d => uptoBulk d + 1
  | .slice elems spare => uptoBulkAll elems + uptoBulkAll spare + 1
  | .agg parts => uptoBulkAll parts + 1
  | .iface _ d => uptoBulk d + 1
  | .map entries => uptoBulkEntries entries + 1
  | .held _ => 1
def uptoBulkAll {H : Type} : List (DataW H) → Nat
  | [] => 0
  | d :: r => uptoBulk d + uptoBulkAll r
def uptoBulkEntries {H : Type} : List (Lit × DataW H) → Nat
  | [] => 0
  | x :: r => uptoBulkEntry x + uptoBulkEntries r
def uptoBulkEntry {H : Type} : Lit × DataW H → Nat
  | (.string bytes, d) => bytes.length + uptoBulk d + 1
  | (_, d) => uptoBulk d + 1
 end
def uptoSmall : (H : Type) → List (DataW H) → Bool := fun _ ds => decide (uptoBulkAll ds ≤ 1048576)
def OpenSpec.upto (s : _root_.Go.ChangeSpec) : _root_.Go.OpenSpec := { _root_.Go.OpenSpec.ofChange s with cond := some uptoSmall }

/-- 'laws.FnExactTotientOf', WHERE WHAT IT READS IS OF BULK AT MOST 1048576: true; the input reads as it did. -/
def fnExactTotientOfUptoRow : OpenClaim := { program := "ytighmnkeopkhlaa", sum := "8b742a84e0ff83a6032daf65f6b475c74be9468d18eb67bcd56044df1656f457", func := "loop.example/g01313/laws.FnExactTotientOf", spec := "fnExactTotientOf", apart := false, narrowed := true }
def FnExactTotientOfUptoSaid : Prop := fnExactTotientOfUptoRow.holds Try.pinned (OpenSpec.upto fnExactTotientOfSpec)

/-- 'laws.FnExactClassMembers', WHERE WHAT IT READS IS OF BULK AT MOST 1048576: true; the input reads as it did. -/
def fnExactClassMembersUptoRow : OpenClaim := { program := "ytighmnkeopkhlaa", sum := "8b742a84e0ff83a6032daf65f6b475c74be9468d18eb67bcd56044df1656f457", func := "loop.example/g01313/laws.FnExactClassMembers", spec := "fnExactClassMembers", apart := false, narrowed := true }
def FnExactClassMembersUptoSaid : Prop := fnExactClassMembersUptoRow.holds Try.pinned (OpenSpec.upto fnExactClassMembersSpec)

/-- 'laws.FnExactCyclotomicPolynomial', WHERE WHAT IT READS IS OF BULK AT MOST 1048576: true; the input reads as it did. -/
def fnExactCyclotomicPolynomialUptoRow : OpenClaim := { program := "ytighmnkeopkhlaa", sum := "8b742a84e0ff83a6032daf65f6b475c74be9468d18eb67bcd56044df1656f457", func := "loop.example/g01313/laws.FnExactCyclotomicPolynomial", spec := "fnExactCyclotomicPolynomial", recurses := true, apart := false, narrowed := true }
def FnExactCyclotomicPolynomialUptoSaid : Prop := fnExactCyclotomicPolynomialUptoRow.holds Try.pinned (OpenSpec.upto fnExactCyclotomicPolynomialSpec)

/-- 'laws.FnExactIsDifferenceClass', WHERE WHAT IT READS IS OF BULK AT MOST 1048576: true; the input reads as it did. -/
def fnExactIsDifferenceClassUptoRow : OpenClaim := { program := "ytighmnkeopkhlaa", sum := "8b742a84e0ff83a6032daf65f6b475c74be9468d18eb67bcd56044df1656f457", func := "loop.example/g01313/laws.FnExactIsDifferenceClass", spec := "fnExactIsDifferenceClass", apart := false, narrowed := true }
def FnExactIsDifferenceClassUptoSaid : Prop := fnExactIsDifferenceClassUptoRow.holds Try.pinned (OpenSpec.upto fnExactIsDifferenceClassSpec)

/-- 'laws.FnExactTraceOfPeriods', WHERE WHAT IT READS IS OF BULK AT MOST 1048576: true; the input reads as it did. -/
def fnExactTraceOfPeriodsUptoRow : OpenClaim := { program := "ytighmnkeopkhlaa", sum := "8b742a84e0ff83a6032daf65f6b475c74be9468d18eb67bcd56044df1656f457", func := "loop.example/g01313/laws.FnExactTraceOfPeriods", spec := "fnExactTraceOfPeriods", unfollowed := true, recurses := true, apart := false, narrowed := true }
def FnExactTraceOfPeriodsUptoSaid : Prop := fnExactTraceOfPeriodsUptoRow.holds Try.pinned (OpenSpec.upto fnExactTraceOfPeriodsSpec)

/-- 'laws.FnExactClassOf', WHERE WHAT IT READS IS OF BULK AT MOST 1048576: true; the input reads as it did. -/
def fnExactClassOfUptoRow : OpenClaim := { program := "ytighmnkeopkhlaa", sum := "8b742a84e0ff83a6032daf65f6b475c74be9468d18eb67bcd56044df1656f457", func := "loop.example/g01313/laws.FnExactClassOf", spec := "fnExactClassOf", apart := false, narrowed := true }
def FnExactClassOfUptoSaid : Prop := fnExactClassOfUptoRow.holds Try.pinned (OpenSpec.upto fnExactClassOfSpec)

/-- 'laws.FnExactGenusOfCurve', WHERE WHAT IT READS IS OF BULK AT MOST 1048576: true; the input reads as it did. -/
def fnExactGenusOfCurveUptoRow : OpenClaim := { program := "ytighmnkeopkhlaa", sum := "8b742a84e0ff83a6032daf65f6b475c74be9468d18eb67bcd56044df1656f457", func := "loop.example/g01313/laws.FnExactGenusOfCurve", spec := "fnExactGenusOfCurve", apart := false, narrowed := true }
def FnExactGenusOfCurveUptoSaid : Prop := fnExactGenusOfCurveUptoRow.holds Try.pinned (OpenSpec.upto fnExactGenusOfCurveSpec)

/-- 'laws.FnExactConstants', WHERE WHAT IT READS IS OF BULK AT MOST 1048576: true; the input reads as it did. -/
def fnExactConstantsUptoRow : OpenClaim := { program := "ytighmnkeopkhlaa", sum := "8b742a84e0ff83a6032daf65f6b475c74be9468d18eb67bcd56044df1656f457", func := "loop.example/g01313/laws.FnExactConstants", spec := "fnExactConstants", apart := false, narrowed := true }
def FnExactConstantsUptoSaid : Prop := fnExactConstantsUptoRow.holds Try.pinned (OpenSpec.upto fnExactConstantsSpec)

/-- 'laws.FnExactCyclotomicNumber', WHERE WHAT IT READS IS OF BULK AT MOST 1048576: true; the input reads as it did. -/
def fnExactCyclotomicNumberUptoRow : OpenClaim := { program := "ytighmnkeopkhlaa", sum := "8b742a84e0ff83a6032daf65f6b475c74be9468d18eb67bcd56044df1656f457", func := "loop.example/g01313/laws.FnExactCyclotomicNumber", spec := "fnExactCyclotomicNumber", apart := false, narrowed := true }
def FnExactCyclotomicNumberUptoSaid : Prop := fnExactCyclotomicNumberUptoRow.holds Try.pinned (OpenSpec.upto fnExactCyclotomicNumberSpec)

end Rows
end Go.Proofs.Ytighmnkeopkhlaa
