/-
  No cell of these rows narrows 'for every input' (looked for: loops, veiled, ifaces, maps, wideKeys, modest, calm, conditions, laid).
  DERIVED. THE GIVEN ROWS OF THIS SEAT. 7 by the template 'for every input the law returns true; each argument reads behind the call as it read before'; 0 by the template 'total and deterministic' (their statements: YtamdeiclkaopmaaTotals.lean).
  GIVEN WITH THE SEED: the statements are not yours to turn. If you find one false, say at which input.
  Laid BY PROGRAM, IN A SANDBOX (cutbox-rows.mjs): the forced cells as the released guide's own fill.sh prints them over the translation 46aadcfacc1371ef… (all of the seat's roots in one cut). By AI agents, Wed Nov 11 2026. No macro, syntax, notation, axiom, sorry.
-/
import Derived.Test.YtamdeiclkaopmaaChecked
import GoSem.Claim
import GoSem.ClaimJoined
import GoSem.ClaimMapViews
import Derived.JoinedTies
import Derived.KernelRfl
namespace Go.Proofs.Ytamdeiclkaopmaa
/- THE CELL 'sum', in the pinned program and in every row, IS THE sha256 OF THE DUMP (.gsa) THAT YtamdeiclkaopmaaProg.lean LOADS. Nothing in Lean hashes anything: it is a label: what it is worth is what the hold of that sum in a sandbox is worth. -/
noncomputable def Try.pinned : Pinned := { name := "ytamdeiclkaopmaa", sum := "46aadcfacc1371ef8abf8662b444b206425ec3fec7b294c747cd1163d09f0aa7", checked := Try.checked }
namespace Rows
def none {H : Type} : Left H := { results := [], args := [] }

/-- 'laws.FnExactSplittingOf': WHATEVER THE INPUT: true; the input reads as it did. -/
def fnExactSplittingOfSpec : ChangeSpec := { name := "fnExactSplittingOf", fn := fun _ => fun
  | [d1, d2] => { results := [.lit (.bool true)], args := [d1, d2] }
  | _ => none }
def fnExactSplittingOfRow : OpenClaim := { program := "ytamdeiclkaopmaa", sum := "46aadcfacc1371ef8abf8662b444b206425ec3fec7b294c747cd1163d09f0aa7", func := "loop.example/g01313/laws.FnExactSplittingOf", spec := "fnExactSplittingOf", apart := false }
def FnExactSplittingOfSaid : Prop := fnExactSplittingOfRow.holds Try.pinned (OpenSpec.ofChange fnExactSplittingOfSpec)

/-- ITS FALSE NEIGHBOUR: 'it returns false'. Refute it at one input. -/
def fnExactSplittingOfWrong : ChangeSpec := { name := "fnExactSplittingOf", fn := fun _ => fun
  | [d1, d2] => { results := [.lit (.bool false)], args := [d1, d2] }
  | _ => none }
def FnExactSplittingOfWrongFalsely : Prop := fnExactSplittingOfRow.holds Try.pinned (OpenSpec.ofChange fnExactSplittingOfWrong)

/-- 'laws.FnExactRootsFor': WHATEVER THE INPUT: true; the input reads as it did. -/
def fnExactRootsForSpec : ChangeSpec := { name := "fnExactRootsFor", fn := fun _ => fun
  | [d1, d2] => { results := [.lit (.bool true)], args := [d1, d2] }
  | _ => none }
def fnExactRootsForRow : OpenClaim := { program := "ytamdeiclkaopmaa", sum := "46aadcfacc1371ef8abf8662b444b206425ec3fec7b294c747cd1163d09f0aa7", func := "loop.example/g01313/laws.FnExactRootsFor", spec := "fnExactRootsFor", recurses := true, apart := false }
def FnExactRootsForSaid : Prop := fnExactRootsForRow.holds Try.pinned (OpenSpec.ofChange fnExactRootsForSpec)

/-- ITS FALSE NEIGHBOUR: 'it returns false'. Refute it at one input. -/
def fnExactRootsForWrong : ChangeSpec := { name := "fnExactRootsFor", fn := fun _ => fun
  | [d1, d2] => { results := [.lit (.bool false)], args := [d1, d2] }
  | _ => none }
def FnExactRootsForWrongFalsely : Prop := fnExactRootsForRow.holds Try.pinned (OpenSpec.ofChange fnExactRootsForWrong)

/-- 'laws.FnExactLegendreSymbol': WHATEVER THE INPUT: true; the input reads as it did. -/
def fnExactLegendreSymbolSpec : ChangeSpec := { name := "fnExactLegendreSymbol", fn := fun _ => fun
  | [d1, d2] => { results := [.lit (.bool true)], args := [d1, d2] }
  | _ => none }
def fnExactLegendreSymbolRow : OpenClaim := { program := "ytamdeiclkaopmaa", sum := "46aadcfacc1371ef8abf8662b444b206425ec3fec7b294c747cd1163d09f0aa7", func := "loop.example/g01313/laws.FnExactLegendreSymbol", spec := "fnExactLegendreSymbol", apart := false }
def FnExactLegendreSymbolSaid : Prop := fnExactLegendreSymbolRow.holds Try.pinned (OpenSpec.ofChange fnExactLegendreSymbolSpec)

/-- ITS FALSE NEIGHBOUR: 'it returns false'. Refute it at one input. -/
def fnExactLegendreSymbolWrong : ChangeSpec := { name := "fnExactLegendreSymbol", fn := fun _ => fun
  | [d1, d2] => { results := [.lit (.bool false)], args := [d1, d2] }
  | _ => none }
def FnExactLegendreSymbolWrongFalsely : Prop := fnExactLegendreSymbolRow.holds Try.pinned (OpenSpec.ofChange fnExactLegendreSymbolWrong)

/-- 'laws.FnExactMovePlace': WHATEVER THE INPUT: true; the input reads as it did. -/
def fnExactMovePlaceSpec : ChangeSpec := { name := "fnExactMovePlace", fn := fun _ => fun
  | [d1, d2, d3, d4] => { results := [.lit (.bool true)], args := [d1, d2, d3, d4] }
  | _ => none }
def fnExactMovePlaceRow : OpenClaim := { program := "ytamdeiclkaopmaa", sum := "46aadcfacc1371ef8abf8662b444b206425ec3fec7b294c747cd1163d09f0aa7", func := "loop.example/g01313/laws.FnExactMovePlace", spec := "fnExactMovePlace", recurses := true, apart := false }
def FnExactMovePlaceSaid : Prop := fnExactMovePlaceRow.holds Try.pinned (OpenSpec.ofChange fnExactMovePlaceSpec)

/-- ITS FALSE NEIGHBOUR: 'it returns false'. Refute it at one input. -/
def fnExactMovePlaceWrong : ChangeSpec := { name := "fnExactMovePlace", fn := fun _ => fun
  | [d1, d2, d3, d4] => { results := [.lit (.bool false)], args := [d1, d2, d3, d4] }
  | _ => none }
def FnExactMovePlaceWrongFalsely : Prop := fnExactMovePlaceRow.holds Try.pinned (OpenSpec.ofChange fnExactMovePlaceWrong)

/-- 'laws.FnExactConstants': WHATEVER THE INPUT: true; the input reads as it did. -/
def fnExactConstantsSpec : ChangeSpec := { name := "fnExactConstants", fn := fun _ => fun
  | [] => { results := [.lit (.bool true)], args := [] }
  | _ => none }
def fnExactConstantsRow : OpenClaim := { program := "ytamdeiclkaopmaa", sum := "46aadcfacc1371ef8abf8662b444b206425ec3fec7b294c747cd1163d09f0aa7", func := "loop.example/g01313/laws.FnExactConstants", spec := "fnExactConstants", apart := false }
def FnExactConstantsSaid : Prop := fnExactConstantsRow.holds Try.pinned (OpenSpec.ofChange fnExactConstantsSpec)

/-- ITS FALSE NEIGHBOUR: 'it returns false'. Refute it at one input. -/
def fnExactConstantsWrong : ChangeSpec := { name := "fnExactConstants", fn := fun _ => fun
  | [] => { results := [.lit (.bool false)], args := [] }
  | _ => none }
def FnExactConstantsWrongFalsely : Prop := fnExactConstantsRow.holds Try.pinned (OpenSpec.ofChange fnExactConstantsWrong)

/-- 'laws.FnExactExactOrder': WHATEVER THE INPUT: true; the input reads as it did. -/
def fnExactExactOrderSpec : ChangeSpec := { name := "fnExactExactOrder", fn := fun _ => fun
  | [d] => { results := [.lit (.bool true)], args := [d] }
  | _ => none }
def fnExactExactOrderRow : OpenClaim := { program := "ytamdeiclkaopmaa", sum := "46aadcfacc1371ef8abf8662b444b206425ec3fec7b294c747cd1163d09f0aa7", func := "loop.example/g01313/laws.FnExactExactOrder", spec := "fnExactExactOrder", apart := false }
def FnExactExactOrderSaid : Prop := fnExactExactOrderRow.holds Try.pinned (OpenSpec.ofChange fnExactExactOrderSpec)

/-- ITS FALSE NEIGHBOUR: 'it returns false'. Refute it at one input. -/
def fnExactExactOrderWrong : ChangeSpec := { name := "fnExactExactOrder", fn := fun _ => fun
  | [d] => { results := [.lit (.bool false)], args := [d] }
  | _ => none }
def FnExactExactOrderWrongFalsely : Prop := fnExactExactOrderRow.holds Try.pinned (OpenSpec.ofChange fnExactExactOrderWrong)

/-- 'laws.FnExactMultiplyCharacters': WHATEVER THE INPUT: true; the input reads as it did. -/
def fnExactMultiplyCharactersSpec : ChangeSpec := { name := "fnExactMultiplyCharacters", fn := fun _ => fun
  | [d1, d2] => { results := [.lit (.bool true)], args := [d1, d2] }
  | _ => none }
def fnExactMultiplyCharactersRow : OpenClaim := { program := "ytamdeiclkaopmaa", sum := "46aadcfacc1371ef8abf8662b444b206425ec3fec7b294c747cd1163d09f0aa7", func := "loop.example/g01313/laws.FnExactMultiplyCharacters", spec := "fnExactMultiplyCharacters", apart := false }
def FnExactMultiplyCharactersSaid : Prop := fnExactMultiplyCharactersRow.holds Try.pinned (OpenSpec.ofChange fnExactMultiplyCharactersSpec)

/-- ITS FALSE NEIGHBOUR: 'it returns false'. Refute it at one input. -/
def fnExactMultiplyCharactersWrong : ChangeSpec := { name := "fnExactMultiplyCharacters", fn := fun _ => fun
  | [d1, d2] => { results := [.lit (.bool false)], args := [d1, d2] }
  | _ => none }
def FnExactMultiplyCharactersWrongFalsely : Prop := fnExactMultiplyCharactersRow.holds Try.pinned (OpenSpec.ofChange fnExactMultiplyCharactersWrong)

/- THE SECOND FORM. 'bulk': how many values and letters a reading holds, each counted each time it is reached (what is shared counts as often as it is met; a slice's spare places count too). A statement '..UptoSaid' is the law's where the arguments, and the package variables that the reading takes, are together of bulk at most 1048576: NARROWER than '..Said'. Prove '..Said' where nothing that the law and all that it calls make is longer than what came in: it says more and counts as full. Else prove '..UptoSaid'. A law counts once. -/
mutual
def uptoBulk {H : Type} : DataW H → Nat
  | .lit (.string bytes) => bytes.length + 1
  | .lit _ => 1
  | .nil => 1
  | .ptr d => uptoBulk d + 1
  | .slice elems spare => uptoBulkAll elems + uptoBulkAll spare + 1
  | .agg parts => uptoBulkAll parts + 1
  | .iface _ d => uptoBulk d + 1
  | .map entries => uptoBulkEntries entries + 1
  | .held _ => 1
def uptoBulkAll {H : Type} : List (DataW H) → Nat
  | [] => 0
  | d :: r => uptoBulk d + uptoBulkAll r
def uptoBulkEntries {H : Type} : List (Lit × DataW H) → Nat
  | [] => 0
  | x :: r => uptoBulkEntry x + uptoBulkEntries r
def uptoBulkEntry {H : Type} : Lit × DataW H → Nat
  | (.string bytes, d) => bytes.length + uptoBulk d + 1
  | (_, d) => uptoBulk d + 1
 end
def uptoSmall : (H : Type) → List (DataW H) → Bool := fun _ ds => decide (uptoBulkAll ds ≤ 1048576)
def OpenSpec.upto (s : _root_.Go.ChangeSpec) : _root_.Go.OpenSpec := { _root_.Go.OpenSpec.ofChange s with cond := some uptoSmall }

/-- 'laws.FnExactSplittingOf', WHERE WHAT IT READS IS OF BULK AT MOST 1048576: true; the input reads as it did. -/
def fnExactSplittingOfUptoRow : OpenClaim := { program := "ytamdeiclkaopmaa", sum := "46aadcfacc1371ef8abf8662b444b206425ec3fec7b294c747cd1163d09f0aa7", func := "loop.example/g01313/laws.FnExactSplittingOf", spec := "fnExactSplittingOf", apart := false, narrowed := true }
def FnExactSplittingOfUptoSaid : Prop := fnExactSplittingOfUptoRow.holds Try.pinned (OpenSpec.upto fnExactSplittingOfSpec)

/-- 'laws.FnExactRootsFor', WHERE WHAT IT READS IS OF BULK AT MOST 1048576: true; the input reads as it did. -/
def fnExactRootsForUptoRow : OpenClaim := { program := "ytamdeiclkaopmaa", sum := "46aadcfacc1371ef8abf8662b444b206425ec3fec7b294c747cd1163d09f0aa7", func := "loop.example/g01313/laws.FnExactRootsFor", spec := "fnExactRootsFor", recurses := true, apart := false, narrowed := true }
def FnExactRootsForUptoSaid : Prop := fnExactRootsForUptoRow.holds Try.pinned (OpenSpec.upto fnExactRootsForSpec)

/-- 'laws.FnExactLegendreSymbol', WHERE WHAT IT READS IS OF BULK AT MOST 1048576: true; the input reads as it did. -/
def fnExactLegendreSymbolUptoRow : OpenClaim := { program := "ytamdeiclkaopmaa", sum := "46aadcfacc1371ef8abf8662b444b206425ec3fec7b294c747cd1163d09f0aa7", func := "loop.example/g01313/laws.FnExactLegendreSymbol", spec := "fnExactLegendreSymbol", apart := false, narrowed := true }
def FnExactLegendreSymbolUptoSaid : Prop := fnExactLegendreSymbolUptoRow.holds Try.pinned (OpenSpec.upto fnExactLegendreSymbolSpec)

/-- 'laws.FnExactMovePlace', WHERE WHAT IT READS IS OF BULK AT MOST 1048576: true; the input reads as it did. -/
def fnExactMovePlaceUptoRow : OpenClaim := { program := "ytamdeiclkaopmaa", sum := "46aadcfacc1371ef8abf8662b444b206425ec3fec7b294c747cd1163d09f0aa7", func := "loop.example/g01313/laws.FnExactMovePlace", spec := "fnExactMovePlace", recurses := true, apart := false, narrowed := true }
def FnExactMovePlaceUptoSaid : Prop := fnExactMovePlaceUptoRow.holds Try.pinned (OpenSpec.upto fnExactMovePlaceSpec)

/-- 'laws.FnExactConstants', WHERE WHAT IT READS IS OF BULK AT MOST 1048576: true; the input reads as it did. -/
def fnExactConstantsUptoRow : OpenClaim := { program := "ytamdeiclkaopmaa", sum := "46aadcfacc1371ef8abf8662b444b206425ec3fec7b294c747cd1163d09f0aa7", func := "loop.example/g01313/laws.FnExactConstants", spec := "fnExactConstants", apart := false, narrowed := true }
def FnExactConstantsUptoSaid : Prop := fnExactConstantsUptoRow.holds Try.pinned (OpenSpec.upto fnExactConstantsSpec)

/-- 'laws.FnExactExactOrder', WHERE WHAT IT READS IS OF BULK AT MOST 1048576: true; the input reads as it did. -/
def fnExactExactOrderUptoRow : OpenClaim := { program := "ytamdeiclkaopmaa", sum := "46aadcfacc1371ef8abf8662b444b206425ec3fec7b294c747cd1163d09f0aa7", func := "loop.example/g01313/laws.FnExactExactOrder", spec := "fnExactExactOrder", apart := false, narrowed := true }
def FnExactExactOrderUptoSaid : Prop := fnExactExactOrderUptoRow.holds Try.pinned (OpenSpec.upto fnExactExactOrderSpec)

/-- 'laws.FnExactMultiplyCharacters', WHERE WHAT IT READS IS OF BULK AT MOST 1048576: true; the input reads as it did. -/
def fnExactMultiplyCharactersUptoRow : OpenClaim := { program := "ytamdeiclkaopmaa", sum := "46aadcfacc1371ef8abf8662b444b206425ec3fec7b294c747cd1163d09f0aa7", func := "loop.example/g01313/laws.FnExactMultiplyCharacters", spec := "fnExactMultiplyCharacters", apart := false, narrowed := true }
def FnExactMultiplyCharactersUptoSaid : Prop := fnExactMultiplyCharactersUptoRow.holds Try.pinned (OpenSpec.upto fnExactMultiplyCharactersSpec)

end Rows
end Go.Proofs.Ytamdeiclkaopmaa
