/-
  No cell of these rows narrows 'for every input' (looked for: loops, veiled, ifaces, maps, wideKeys, modest, calm, conditions, laid).
  DERIVED. THE GIVEN ROWS OF THIS SEAT. 10 by the template 'for every input the law returns true; each argument reads behind the call as it read before'; 0 by the template 'total and deterministic' (their statements: YtilofmfmfagofaaTotals.lean).
  GIVEN WITH THE SEED: the statements are not yours to turn. If you find one false, say at which input.
  Laid BY PROGRAM, IN A SANDBOX (cutbox-rows.mjs): the forced cells as the released guide's own fill.sh prints them over the translation 89bad5016b2d4a32… (all of the seat's roots in one cut). By AI agents, Wed Nov 11 2026. No macro, syntax, notation, axiom, sorry.
-/
import Derived.Test.YtilofmfmfagofaaChecked
import GoSem.Claim
import GoSem.ClaimJoined
import GoSem.ClaimMapViews
import Derived.JoinedTies
import Derived.KernelRfl
namespace Go.Proofs.Ytilofmfmfagofaa
/- THE CELL 'sum', in the pinned program and in every row, IS THE sha256 OF THE DUMP (.gsa) THAT YtilofmfmfagofaaProg.lean LOADS. Nothing in Lean hashes anything: it is a label: what it is worth is what the hold of that sum in a sandbox is worth. -/
noncomputable def Try.pinned : Pinned := { name := "ytilofmfmfagofaa", sum := "89bad5016b2d4a32e83d1206bbab25f1e83cadbad7633872f6174ac7919fd333", checked := Try.checked }
namespace Rows
def none {H : Type} : Left H := { results := [], args := [] }

/-- 'laws.FnExactFindImage': WHATEVER THE INPUT: true; the input reads as it did. -/
def fnExactFindImageSpec : ChangeSpec := { name := "fnExactFindImage", fn := fun _ => fun
  | [d1, d2] => { results := [.lit (.bool true)], args := [d1, d2] }
  | _ => none }
def fnExactFindImageRow : OpenClaim := { program := "ytilofmfmfagofaa", sum := "89bad5016b2d4a32e83d1206bbab25f1e83cadbad7633872f6174ac7919fd333", func := "loop.example/g01313/laws.FnExactFindImage", spec := "fnExactFindImage", unfollowed := true, recurses := true, apart := false }
def FnExactFindImageSaid : Prop := fnExactFindImageRow.holds Try.pinned (OpenSpec.ofChange fnExactFindImageSpec)

/-- ITS FALSE NEIGHBOUR: 'it returns false'. Refute it at one input. -/
def fnExactFindImageWrong : ChangeSpec := { name := "fnExactFindImage", fn := fun _ => fun
  | [d1, d2] => { results := [.lit (.bool false)], args := [d1, d2] }
  | _ => none }
def FnExactFindImageWrongFalsely : Prop := fnExactFindImageRow.holds Try.pinned (OpenSpec.ofChange fnExactFindImageWrong)

/-- 'laws.FnExactPowerOfZ': WHATEVER THE INPUT: true; the input reads as it did. -/
def fnExactPowerOfZSpec : ChangeSpec := { name := "fnExactPowerOfZ", fn := fun _ => fun
  | [d1, d2] => { results := [.lit (.bool true)], args := [d1, d2] }
  | _ => none }
def fnExactPowerOfZRow : OpenClaim := { program := "ytilofmfmfagofaa", sum := "89bad5016b2d4a32e83d1206bbab25f1e83cadbad7633872f6174ac7919fd333", func := "loop.example/g01313/laws.FnExactPowerOfZ", spec := "fnExactPowerOfZ", unfollowed := true, recurses := true, apart := false }
def FnExactPowerOfZSaid : Prop := fnExactPowerOfZRow.holds Try.pinned (OpenSpec.ofChange fnExactPowerOfZSpec)

/-- ITS FALSE NEIGHBOUR: 'it returns false'. Refute it at one input. -/
def fnExactPowerOfZWrong : ChangeSpec := { name := "fnExactPowerOfZ", fn := fun _ => fun
  | [d1, d2] => { results := [.lit (.bool false)], args := [d1, d2] }
  | _ => none }
def FnExactPowerOfZWrongFalsely : Prop := fnExactPowerOfZRow.holds Try.pinned (OpenSpec.ofChange fnExactPowerOfZWrong)

/-- 'laws.FnExactCycloOf': WHATEVER THE INPUT: true; the input reads as it did. -/
def fnExactCycloOfSpec : ChangeSpec := { name := "fnExactCycloOf", fn := fun _ => fun
  | [d1, d2] => { results := [.lit (.bool true)], args := [d1, d2] }
  | _ => none }
def fnExactCycloOfRow : OpenClaim := { program := "ytilofmfmfagofaa", sum := "89bad5016b2d4a32e83d1206bbab25f1e83cadbad7633872f6174ac7919fd333", func := "loop.example/g01313/laws.FnExactCycloOf", spec := "fnExactCycloOf", unfollowed := true, recurses := true, apart := false }
def FnExactCycloOfSaid : Prop := fnExactCycloOfRow.holds Try.pinned (OpenSpec.ofChange fnExactCycloOfSpec)

/-- ITS FALSE NEIGHBOUR: 'it returns false'. Refute it at one input. -/
def fnExactCycloOfWrong : ChangeSpec := { name := "fnExactCycloOf", fn := fun _ => fun
  | [d1, d2] => { results := [.lit (.bool false)], args := [d1, d2] }
  | _ => none }
def FnExactCycloOfWrongFalsely : Prop := fnExactCycloOfRow.holds Try.pinned (OpenSpec.ofChange fnExactCycloOfWrong)

/-- 'laws.FnExactIsReal': WHATEVER THE INPUT: true; the input reads as it did. -/
def fnExactIsRealSpec : ChangeSpec := { name := "fnExactIsReal", fn := fun _ => fun
  | [d] => { results := [.lit (.bool true)], args := [d] }
  | _ => none }
def fnExactIsRealRow : OpenClaim := { program := "ytilofmfmfagofaa", sum := "89bad5016b2d4a32e83d1206bbab25f1e83cadbad7633872f6174ac7919fd333", func := "loop.example/g01313/laws.FnExactIsReal", spec := "fnExactIsReal", unfollowed := true, recurses := true, apart := false }
def FnExactIsRealSaid : Prop := fnExactIsRealRow.holds Try.pinned (OpenSpec.ofChange fnExactIsRealSpec)

/-- ITS FALSE NEIGHBOUR: 'it returns false'. Refute it at one input. -/
def fnExactIsRealWrong : ChangeSpec := { name := "fnExactIsReal", fn := fun _ => fun
  | [d] => { results := [.lit (.bool false)], args := [d] }
  | _ => none }
def FnExactIsRealWrongFalsely : Prop := fnExactIsRealRow.holds Try.pinned (OpenSpec.ofChange fnExactIsRealWrong)

/-- 'laws.FnExactIsInField': WHATEVER THE INPUT: true; the input reads as it did. -/
def fnExactIsInFieldSpec : ChangeSpec := { name := "fnExactIsInField", fn := fun _ => fun
  | [d1, d2] => { results := [.lit (.bool true)], args := [d1, d2] }
  | _ => none }
def fnExactIsInFieldRow : OpenClaim := { program := "ytilofmfmfagofaa", sum := "89bad5016b2d4a32e83d1206bbab25f1e83cadbad7633872f6174ac7919fd333", func := "loop.example/g01313/laws.FnExactIsInField", spec := "fnExactIsInField", unfollowed := true, recurses := true, apart := false }
def FnExactIsInFieldSaid : Prop := fnExactIsInFieldRow.holds Try.pinned (OpenSpec.ofChange fnExactIsInFieldSpec)

/-- ITS FALSE NEIGHBOUR: 'it returns false'. Refute it at one input. -/
def fnExactIsInFieldWrong : ChangeSpec := { name := "fnExactIsInField", fn := fun _ => fun
  | [d1, d2] => { results := [.lit (.bool false)], args := [d1, d2] }
  | _ => none }
def FnExactIsInFieldWrongFalsely : Prop := fnExactIsInFieldRow.holds Try.pinned (OpenSpec.ofChange fnExactIsInFieldWrong)

/-- 'laws.FnExactLiftCyclo': WHATEVER THE INPUT: true; the input reads as it did. -/
def fnExactLiftCycloSpec : ChangeSpec := { name := "fnExactLiftCyclo", fn := fun _ => fun
  | [d1, d2] => { results := [.lit (.bool true)], args := [d1, d2] }
  | _ => none }
def fnExactLiftCycloRow : OpenClaim := { program := "ytilofmfmfagofaa", sum := "89bad5016b2d4a32e83d1206bbab25f1e83cadbad7633872f6174ac7919fd333", func := "loop.example/g01313/laws.FnExactLiftCyclo", spec := "fnExactLiftCyclo", unfollowed := true, recurses := true, apart := false }
def FnExactLiftCycloSaid : Prop := fnExactLiftCycloRow.holds Try.pinned (OpenSpec.ofChange fnExactLiftCycloSpec)

/-- ITS FALSE NEIGHBOUR: 'it returns false'. Refute it at one input. -/
def fnExactLiftCycloWrong : ChangeSpec := { name := "fnExactLiftCyclo", fn := fun _ => fun
  | [d1, d2] => { results := [.lit (.bool false)], args := [d1, d2] }
  | _ => none }
def FnExactLiftCycloWrongFalsely : Prop := fnExactLiftCycloRow.holds Try.pinned (OpenSpec.ofChange fnExactLiftCycloWrong)

/-- 'laws.FnExactConjugateOf': WHATEVER THE INPUT: true; the input reads as it did. -/
def fnExactConjugateOfSpec : ChangeSpec := { name := "fnExactConjugateOf", fn := fun _ => fun
  | [d] => { results := [.lit (.bool true)], args := [d] }
  | _ => none }
def fnExactConjugateOfRow : OpenClaim := { program := "ytilofmfmfagofaa", sum := "89bad5016b2d4a32e83d1206bbab25f1e83cadbad7633872f6174ac7919fd333", func := "loop.example/g01313/laws.FnExactConjugateOf", spec := "fnExactConjugateOf", unfollowed := true, recurses := true, apart := false }
def FnExactConjugateOfSaid : Prop := fnExactConjugateOfRow.holds Try.pinned (OpenSpec.ofChange fnExactConjugateOfSpec)

/-- ITS FALSE NEIGHBOUR: 'it returns false'. Refute it at one input. -/
def fnExactConjugateOfWrong : ChangeSpec := { name := "fnExactConjugateOf", fn := fun _ => fun
  | [d] => { results := [.lit (.bool false)], args := [d] }
  | _ => none }
def FnExactConjugateOfWrongFalsely : Prop := fnExactConjugateOfRow.holds Try.pinned (OpenSpec.ofChange fnExactConjugateOfWrong)

/-- 'laws.FnExactTraceOf': WHATEVER THE INPUT: true; the input reads as it did. -/
def fnExactTraceOfSpec : ChangeSpec := { name := "fnExactTraceOf", fn := fun _ => fun
  | [d] => { results := [.lit (.bool true)], args := [d] }
  | _ => none }
def fnExactTraceOfRow : OpenClaim := { program := "ytilofmfmfagofaa", sum := "89bad5016b2d4a32e83d1206bbab25f1e83cadbad7633872f6174ac7919fd333", func := "loop.example/g01313/laws.FnExactTraceOf", spec := "fnExactTraceOf", unfollowed := true, recurses := true, apart := false }
def FnExactTraceOfSaid : Prop := fnExactTraceOfRow.holds Try.pinned (OpenSpec.ofChange fnExactTraceOfSpec)

/-- ITS FALSE NEIGHBOUR: 'it returns false'. Refute it at one input. -/
def fnExactTraceOfWrong : ChangeSpec := { name := "fnExactTraceOf", fn := fun _ => fun
  | [d] => { results := [.lit (.bool false)], args := [d] }
  | _ => none }
def FnExactTraceOfWrongFalsely : Prop := fnExactTraceOfRow.holds Try.pinned (OpenSpec.ofChange fnExactTraceOfWrong)

/-- 'laws.FnExactGaloisImage': WHATEVER THE INPUT: true; the input reads as it did. -/
def fnExactGaloisImageSpec : ChangeSpec := { name := "fnExactGaloisImage", fn := fun _ => fun
  | [d1, d2] => { results := [.lit (.bool true)], args := [d1, d2] }
  | _ => none }
def fnExactGaloisImageRow : OpenClaim := { program := "ytilofmfmfagofaa", sum := "89bad5016b2d4a32e83d1206bbab25f1e83cadbad7633872f6174ac7919fd333", func := "loop.example/g01313/laws.FnExactGaloisImage", spec := "fnExactGaloisImage", unfollowed := true, recurses := true, apart := false }
def FnExactGaloisImageSaid : Prop := fnExactGaloisImageRow.holds Try.pinned (OpenSpec.ofChange fnExactGaloisImageSpec)

/-- ITS FALSE NEIGHBOUR: 'it returns false'. Refute it at one input. -/
def fnExactGaloisImageWrong : ChangeSpec := { name := "fnExactGaloisImage", fn := fun _ => fun
  | [d1, d2] => { results := [.lit (.bool false)], args := [d1, d2] }
  | _ => none }
def FnExactGaloisImageWrongFalsely : Prop := fnExactGaloisImageRow.holds Try.pinned (OpenSpec.ofChange fnExactGaloisImageWrong)

/-- 'laws.FnExactDegreeOf': WHATEVER THE INPUT: true; the input reads as it did. -/
def fnExactDegreeOfSpec : ChangeSpec := { name := "fnExactDegreeOf", fn := fun _ => fun
  | [d] => { results := [.lit (.bool true)], args := [d] }
  | _ => none }
def fnExactDegreeOfRow : OpenClaim := { program := "ytilofmfmfagofaa", sum := "89bad5016b2d4a32e83d1206bbab25f1e83cadbad7633872f6174ac7919fd333", func := "loop.example/g01313/laws.FnExactDegreeOf", spec := "fnExactDegreeOf", unfollowed := true, recurses := true, apart := false }
def FnExactDegreeOfSaid : Prop := fnExactDegreeOfRow.holds Try.pinned (OpenSpec.ofChange fnExactDegreeOfSpec)

/-- ITS FALSE NEIGHBOUR: 'it returns false'. Refute it at one input. -/
def fnExactDegreeOfWrong : ChangeSpec := { name := "fnExactDegreeOf", fn := fun _ => fun
  | [d] => { results := [.lit (.bool false)], args := [d] }
  | _ => none }
def FnExactDegreeOfWrongFalsely : Prop := fnExactDegreeOfRow.holds Try.pinned (OpenSpec.ofChange fnExactDegreeOfWrong)

/- THE SECOND FORM. 'bulk': how many values and letters a reading holds, each counted each time it is reached (what is shared counts as often as it is met; a slice's spare places count too). A statement '..UptoSaid' is the law's where the arguments, and the package variables that the reading takes, are together of bulk at most 1048576: NARROWER than '..Said'. Prove '..Said' where nothing that the law and all that it calls make is longer than what came in: it says more and counts as full. Else prove '..UptoSaid'. A law counts once. -/
mutual
def uptoBulk {H : Type} : DataW H → Nat
  | .lit (.string bytes) => bytes.length + 1
  | .lit _ => 1
  | .nil => 1
  | .ptr d => uptoBulk d + 1
  | .slice elems spare => uptoBulkAll elems + uptoBulkAll spare + 1
  | .agg parts => uptoBulkAll parts + 1
  | .iface _ d => uptoBulk d + 1
  | .map entries => uptoBulkEntries entries + 1
  | .held _ => 1
def uptoBulkAll {H : Type} : List (DataW H) → Nat
  | [] => 0
  | d :: r => uptoBulk d + uptoBulkAll r
def uptoBulkEntries {H : Type} : List (Lit × DataW H) → Nat
  | [] => 0
  | x :: r => uptoBulkEntry x + uptoBulkEntries r
def uptoBulkEntry {H : Type} : Lit × DataW H → Nat
  | (.string bytes, d) => bytes.length + uptoBulk d + 1
  | (_, d) => uptoBulk d + 1
 end
def uptoSmall : (H : Type) → List (DataW H) → Bool := fun _ ds => decide (uptoBulkAll ds ≤ 1048576)
def OpenSpec.upto (s : _root_.Go.ChangeSpec) : _root_.Go.OpenSpec := { _root_.Go.OpenSpec.ofChange s with cond := some uptoSmall }

/-- 'laws.FnExactFindImage', WHERE WHAT IT READS IS OF BULK AT MOST 1048576: true; the input reads as it did. -/
def fnExactFindImageUptoRow : OpenClaim := { program := "ytilofmfmfagofaa", sum := "89bad5016b2d4a32e83d1206bbab25f1e83cadbad7633872f6174ac7919fd333", func := "loop.example/g01313/laws.FnExactFindImage", spec := "fnExactFindImage", unfollowed := true, recurses := true, apart := false, narrowed := true }
def FnExactFindImageUptoSaid : Prop := fnExactFindImageUptoRow.holds Try.pinned (OpenSpec.upto fnExactFindImageSpec)

/-- 'laws.FnExactPowerOfZ', WHERE WHAT IT READS IS OF BULK AT MOST 1048576: true; the input reads as it did. -/
def fnExactPowerOfZUptoRow : OpenClaim := { program := "ytilofmfmfagofaa", sum := "89bad5016b2d4a32e83d1206bbab25f1e83cadbad7633872f6174ac7919fd333", func := "loop.example/g01313/laws.FnExactPowerOfZ", spec := "fnExactPowerOfZ", unfollowed := true, recurses := true, apart := false, narrowed := true }
def FnExactPowerOfZUptoSaid : Prop := fnExactPowerOfZUptoRow.holds Try.pinned (OpenSpec.upto fnExactPowerOfZSpec)

/-- 'laws.FnExactCycloOf', WHERE WHAT IT READS IS OF BULK AT MOST 1048576: true; the input reads as it did. -/
def fnExactCycloOfUptoRow : OpenClaim := { program := "ytilofmfmfagofaa", sum := "89bad5016b2d4a32e83d1206bbab25f1e83cadbad7633872f6174ac7919fd333", func := "loop.example/g01313/laws.FnExactCycloOf", spec := "fnExactCycloOf", unfollowed := true, recurses := true, apart := false, narrowed := true }
def FnExactCycloOfUptoSaid : Prop := fnExactCycloOfUptoRow.holds Try.pinned (OpenSpec.upto fnExactCycloOfSpec)

/-- 'laws.FnExactIsReal', WHERE WHAT IT READS IS OF BULK AT MOST 1048576: true; the input reads as it did. -/
def fnExactIsRealUptoRow : OpenClaim := { program := "ytilofmfmfagofaa", sum := "89bad5016b2d4a32e83d1206bbab25f1e83cadbad7633872f6174ac7919fd333", func := "loop.example/g01313/laws.FnExactIsReal", spec := "fnExactIsReal", unfollowed := true, recurses := true, apart := false, narrowed := true }
def FnExactIsRealUptoSaid : Prop := fnExactIsRealUptoRow.holds Try.pinned (OpenSpec.upto fnExactIsRealSpec)

/-- 'laws.FnExactIsInField', WHERE WHAT IT READS IS OF BULK AT MOST 1048576: true; the input reads as it did. -/
def fnExactIsInFieldUptoRow : OpenClaim := { program := "ytilofmfmfagofaa", sum := "89bad5016b2d4a32e83d1206bbab25f1e83cadbad7633872f6174ac7919fd333", func := "loop.example/g01313/laws.FnExactIsInField", spec := "fnExactIsInField", unfollowed := true, recurses := true, apart := false, narrowed := true }
def FnExactIsInFieldUptoSaid : Prop := fnExactIsInFieldUptoRow.holds Try.pinned (OpenSpec.upto fnExactIsInFieldSpec)

/-- 'laws.FnExactLiftCyclo', WHERE WHAT IT READS IS OF BULK AT MOST 1048576: true; the input reads as it did. -/
def fnExactLiftCycloUptoRow : OpenClaim := { program := "ytilofmfmfagofaa", sum := "89bad5016b2d4a32e83d1206bbab25f1e83cadbad7633872f6174ac7919fd333", func := "loop.example/g01313/laws.FnExactLiftCyclo", spec := "fnExactLiftCyclo", unfollowed := true, recurses := true, apart := false, narrowed := true }
def FnExactLiftCycloUptoSaid : Prop := fnExactLiftCycloUptoRow.holds Try.pinned (OpenSpec.upto fnExactLiftCycloSpec)

/-- 'laws.FnExactConjugateOf', WHERE WHAT IT READS IS OF BULK AT MOST 1048576: true; the input reads as it did. -/
def fnExactConjugateOfUptoRow : OpenClaim := { program := "ytilofmfmfagofaa", sum := "89bad5016b2d4a32e83d1206bbab25f1e83cadbad7633872f6174ac7919fd333", func := "loop.example/g01313/laws.FnExactConjugateOf", spec := "fnExactConjugateOf", unfollowed := true, recurses := true, apart := false, narrowed := true }
def FnExactConjugateOfUptoSaid : Prop := fnExactConjugateOfUptoRow.holds Try.pinned (OpenSpec.upto fnExactConjugateOfSpec)

/-- 'laws.FnExactTraceOf', WHERE WHAT IT READS IS OF BULK AT MOST 1048576: true; the input reads as it did. -/
def fnExactTraceOfUptoRow : OpenClaim := { program := "ytilofmfmfagofaa", sum := "89bad5016b2d4a32e83d1206bbab25f1e83cadbad7633872f6174ac7919fd333", func := "loop.example/g01313/laws.FnExactTraceOf", spec := "fnExactTraceOf", unfollowed := true, recurses := true, apart := false, narrowed := true }
def FnExactTraceOfUptoSaid : Prop := fnExactTraceOfUptoRow.holds Try.pinned (OpenSpec.upto fnExactTraceOfSpec)

/-- 'laws.FnExactGaloisImage', WHERE WHAT IT READS IS OF BULK AT MOST 1048576: true; the input reads as it did. -/
def fnExactGaloisImageUptoRow : OpenClaim := { program := "ytilofmfmfagofaa", sum := "89bad5016b2d4a32e83d1206bbab25f1e83cadbad7633872f6174ac7919fd333", func := "loop.example/g01313/laws.FnExactGaloisImage", spec := "fnExactGaloisImage", unfollowed := true, recurses := true, apart := false, narrowed := true }
def FnExactGaloisImageUptoSaid : Prop := fnExactGaloisImageUptoRow.holds Try.pinned (OpenSpec.upto fnExactGaloisImageSpec)

/-- 'laws.FnExactDegreeOf', WHERE WHAT IT READS IS OF BULK AT MOST 1048576: true; the input reads as it did. -/
def fnExactDegreeOfUptoRow : OpenClaim := { program := "ytilofmfmfagofaa", sum := "89bad5016b2d4a32e83d1206bbab25f1e83cadbad7633872f6174ac7919fd333", func := "loop.example/g01313/laws.FnExactDegreeOf", spec := "fnExactDegreeOf", unfollowed := true, recurses := true, apart := false, narrowed := true }
def FnExactDegreeOfUptoSaid : Prop := fnExactDegreeOfUptoRow.holds Try.pinned (OpenSpec.upto fnExactDegreeOfSpec)

end Rows
end Go.Proofs.Ytilofmfmfagofaa
