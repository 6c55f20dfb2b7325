/-
  No cell of these rows narrows 'for every input' (looked for: loops, veiled, ifaces, maps, wideKeys, modest, calm, conditions, laid).
  DERIVED. THE GIVEN ROWS OF THIS SEAT. 5 by the template 'for every input the law returns true; each argument reads behind the call as it read before'; 0 by the template 'total and deterministic' (their statements: YtgpjamonbhijaaaTotals.lean).
  GIVEN WITH THE SEED: the statements are not yours to turn. If you find one false, say at which input.
  Laid BY PROGRAM, IN A SANDBOX (cutbox-rows.mjs): the forced cells as the released guide's own fill.sh prints them over the translation fd2c768bb5e82016… (all of the seat's roots in one cut). By AI agents, Wed Nov 11 2026. No macro, syntax, notation, axiom, sorry.
-/
import Derived.Test.YtgpjamonbhijaaaChecked
import GoSem.Claim
import GoSem.ClaimJoined
import GoSem.ClaimMapViews
import Derived.JoinedTies
import Derived.KernelRfl
namespace Go.Proofs.Ytgpjamonbhijaaa
/- THE CELL 'sum', in the pinned program and in every row, IS THE sha256 OF THE DUMP (.gsa) THAT YtgpjamonbhijaaaProg.lean LOADS. Nothing in Lean hashes anything: it is a label: what it is worth is what the hold of that sum in a sandbox is worth. -/
noncomputable def Try.pinned : Pinned := { name := "ytgpjamonbhijaaa", sum := "fd2c768bb5e8201628f5ef9a346118be7b0135a7c53a9ac165790f5ad84c46dd", checked := Try.checked }
namespace Rows
def none {H : Type} : Left H := { results := [], args := [] }

/-- 'laws.FnExactIndexOf': WHATEVER THE INPUT: true; the input reads as it did. -/
def fnExactIndexOfSpec : ChangeSpec := { name := "fnExactIndexOf", fn := fun _ => fun
  | [d1, d2] => { results := [.lit (.bool true)], args := [d1, d2] }
  | _ => none }
def fnExactIndexOfRow : OpenClaim := { program := "ytgpjamonbhijaaa", sum := "fd2c768bb5e8201628f5ef9a346118be7b0135a7c53a9ac165790f5ad84c46dd", func := "loop.example/g01313/laws.FnExactIndexOf", spec := "fnExactIndexOf", apart := false }
def FnExactIndexOfSaid : Prop := fnExactIndexOfRow.holds Try.pinned (OpenSpec.ofChange fnExactIndexOfSpec)

/-- ITS FALSE NEIGHBOUR: 'it returns false'. Refute it at one input. -/
def fnExactIndexOfWrong : ChangeSpec := { name := "fnExactIndexOf", fn := fun _ => fun
  | [d1, d2] => { results := [.lit (.bool false)], args := [d1, d2] }
  | _ => none }
def FnExactIndexOfWrongFalsely : Prop := fnExactIndexOfRow.holds Try.pinned (OpenSpec.ofChange fnExactIndexOfWrong)

/-- 'laws.FnExactPrimitiveRoot': WHATEVER THE INPUT: true; the input reads as it did. -/
def fnExactPrimitiveRootSpec : ChangeSpec := { name := "fnExactPrimitiveRoot", fn := fun _ => fun
  | [d] => { results := [.lit (.bool true)], args := [d] }
  | _ => none }
def fnExactPrimitiveRootRow : OpenClaim := { program := "ytgpjamonbhijaaa", sum := "fd2c768bb5e8201628f5ef9a346118be7b0135a7c53a9ac165790f5ad84c46dd", func := "loop.example/g01313/laws.FnExactPrimitiveRoot", spec := "fnExactPrimitiveRoot", apart := false }
def FnExactPrimitiveRootSaid : Prop := fnExactPrimitiveRootRow.holds Try.pinned (OpenSpec.ofChange fnExactPrimitiveRootSpec)

/-- ITS FALSE NEIGHBOUR: 'it returns false'. Refute it at one input. -/
def fnExactPrimitiveRootWrong : ChangeSpec := { name := "fnExactPrimitiveRoot", fn := fun _ => fun
  | [d] => { results := [.lit (.bool false)], args := [d] }
  | _ => none }
def FnExactPrimitiveRootWrongFalsely : Prop := fnExactPrimitiveRootRow.holds Try.pinned (OpenSpec.ofChange fnExactPrimitiveRootWrong)

/-- 'laws.FnExactSplitsFully': WHATEVER THE INPUT: true; the input reads as it did. -/
def fnExactSplitsFullySpec : ChangeSpec := { name := "fnExactSplitsFully", fn := fun _ => fun
  | [d1, d2] => { results := [.lit (.bool true)], args := [d1, d2] }
  | _ => none }
def fnExactSplitsFullyRow : OpenClaim := { program := "ytgpjamonbhijaaa", sum := "fd2c768bb5e8201628f5ef9a346118be7b0135a7c53a9ac165790f5ad84c46dd", func := "loop.example/g01313/laws.FnExactSplitsFully", spec := "fnExactSplitsFully", apart := false }
def FnExactSplitsFullySaid : Prop := fnExactSplitsFullyRow.holds Try.pinned (OpenSpec.ofChange fnExactSplitsFullySpec)

/-- ITS FALSE NEIGHBOUR: 'it returns false'. Refute it at one input. -/
def fnExactSplitsFullyWrong : ChangeSpec := { name := "fnExactSplitsFully", fn := fun _ => fun
  | [d1, d2] => { results := [.lit (.bool false)], args := [d1, d2] }
  | _ => none }
def FnExactSplitsFullyWrongFalsely : Prop := fnExactSplitsFullyRow.holds Try.pinned (OpenSpec.ofChange fnExactSplitsFullyWrong)

/-- 'laws.FnExactCharactersOf': WHATEVER THE INPUT: true; the input reads as it did. -/
def fnExactCharactersOfSpec : ChangeSpec := { name := "fnExactCharactersOf", fn := fun _ => fun
  | [d1, d2] => { results := [.lit (.bool true)], args := [d1, d2] }
  | _ => none }
def fnExactCharactersOfRow : OpenClaim := { program := "ytgpjamonbhijaaa", sum := "fd2c768bb5e8201628f5ef9a346118be7b0135a7c53a9ac165790f5ad84c46dd", func := "loop.example/g01313/laws.FnExactCharactersOf", spec := "fnExactCharactersOf", apart := false }
def FnExactCharactersOfSaid : Prop := fnExactCharactersOfRow.holds Try.pinned (OpenSpec.ofChange fnExactCharactersOfSpec)

/-- ITS FALSE NEIGHBOUR: 'it returns false'. Refute it at one input. -/
def fnExactCharactersOfWrong : ChangeSpec := { name := "fnExactCharactersOf", fn := fun _ => fun
  | [d1, d2] => { results := [.lit (.bool false)], args := [d1, d2] }
  | _ => none }
def FnExactCharactersOfWrongFalsely : Prop := fnExactCharactersOfRow.holds Try.pinned (OpenSpec.ofChange fnExactCharactersOfWrong)

/-- 'laws.FnExactIsCharacter': WHATEVER THE INPUT: true; the input reads as it did. -/
def fnExactIsCharacterSpec : ChangeSpec := { name := "fnExactIsCharacter", fn := fun _ => fun
  | [d] => { results := [.lit (.bool true)], args := [d] }
  | _ => none }
def fnExactIsCharacterRow : OpenClaim := { program := "ytgpjamonbhijaaa", sum := "fd2c768bb5e8201628f5ef9a346118be7b0135a7c53a9ac165790f5ad84c46dd", func := "loop.example/g01313/laws.FnExactIsCharacter", spec := "fnExactIsCharacter", apart := false }
def FnExactIsCharacterSaid : Prop := fnExactIsCharacterRow.holds Try.pinned (OpenSpec.ofChange fnExactIsCharacterSpec)

/-- ITS FALSE NEIGHBOUR: 'it returns false'. Refute it at one input. -/
def fnExactIsCharacterWrong : ChangeSpec := { name := "fnExactIsCharacter", fn := fun _ => fun
  | [d] => { results := [.lit (.bool false)], args := [d] }
  | _ => none }
def FnExactIsCharacterWrongFalsely : Prop := fnExactIsCharacterRow.holds Try.pinned (OpenSpec.ofChange fnExactIsCharacterWrong)

/- THE SECOND FORM. 'bulk': how many values and letters a reading holds, each counted each time it is reached (what is shared counts as often as it is met; a slice's spare places count too). A statement '..UptoSaid' is the law's where the arguments, and the package variables that the reading takes, are together of bulk at most 1048576: NARROWER than '..Said'. Prove '..Said' where nothing that the law and all that it calls make is longer than what came in: it says more and counts as full. Else prove '..UptoSaid'. A law counts once. -/
mutual
def uptoBulk {H : Type} : DataW H → Nat
  | .lit (.string bytes) => bytes.length + 1
  | .lit _ => 1
  | .nil => 1
  | .ptr d => uptoBulk d + 1
  | .slice elems spare => uptoBulkAll elems + uptoBulkAll spare + 1
  | .agg parts => uptoBulkAll parts + 1
  | .iface _ d => uptoBulk d + 1
  | .map entries => uptoBulkEntries entries + 1
  | .held _ => 1
def uptoBulkAll {H : Type} : List (DataW H) → Nat
  | [] => 0
  | d :: r => uptoBulk d + uptoBulkAll r
def uptoBulkEntries {H : Type} : List (Lit × DataW H) → Nat
  | [] => 0
  | x :: r => uptoBulkEntry x + uptoBulkEntries r
def uptoBulkEntry {H : Type} : Lit × DataW H → Nat
  | (.string bytes, d) => bytes.length + uptoBulk d + 1
  | (_, d) => uptoBulk d + 1
 end
def uptoSmall : (H : Type) → List (DataW H) → Bool := fun _ ds => decide (uptoBulkAll ds ≤ 1048576)
def OpenSpec.upto (s : _root_.Go.ChangeSpec) : _root_.Go.OpenSpec := { _root_.Go.OpenSpec.ofChange s with cond := some uptoSmall }

/-- 'laws.FnExactIndexOf', WHERE WHAT IT READS IS OF BULK AT MOST 1048576: true; the input reads as it did. -/
def fnExactIndexOfUptoRow : OpenClaim := { program := "ytgpjamonbhijaaa", sum := "fd2c768bb5e8201628f5ef9a346118be7b0135a7c53a9ac165790f5ad84c46dd", func := "loop.example/g01313/laws.FnExactIndexOf", spec := "fnExactIndexOf", apart := false, narrowed := true }
def FnExactIndexOfUptoSaid : Prop := fnExactIndexOfUptoRow.holds Try.pinned (OpenSpec.upto fnExactIndexOfSpec)

/-- 'laws.FnExactPrimitiveRoot', WHERE WHAT IT READS IS OF BULK AT MOST 1048576: true; the input reads as it did. -/
def fnExactPrimitiveRootUptoRow : OpenClaim := { program := "ytgpjamonbhijaaa", sum := "fd2c768bb5e8201628f5ef9a346118be7b0135a7c53a9ac165790f5ad84c46dd", func := "loop.example/g01313/laws.FnExactPrimitiveRoot", spec := "fnExactPrimitiveRoot", apart := false, narrowed := true }
def FnExactPrimitiveRootUptoSaid : Prop := fnExactPrimitiveRootUptoRow.holds Try.pinned (OpenSpec.upto fnExactPrimitiveRootSpec)

/-- 'laws.FnExactSplitsFully', WHERE WHAT IT READS IS OF BULK AT MOST 1048576: true; the input reads as it did. -/
def fnExactSplitsFullyUptoRow : OpenClaim := { program := "ytgpjamonbhijaaa", sum := "fd2c768bb5e8201628f5ef9a346118be7b0135a7c53a9ac165790f5ad84c46dd", func := "loop.example/g01313/laws.FnExactSplitsFully", spec := "fnExactSplitsFully", apart := false, narrowed := true }
def FnExactSplitsFullyUptoSaid : Prop := fnExactSplitsFullyUptoRow.holds Try.pinned (OpenSpec.upto fnExactSplitsFullySpec)

/-- 'laws.FnExactCharactersOf', WHERE WHAT IT READS IS OF BULK AT MOST 1048576: true; the input reads as it did. -/
def fnExactCharactersOfUptoRow : OpenClaim := { program := "ytgpjamonbhijaaa", sum := "fd2c768bb5e8201628f5ef9a346118be7b0135a7c53a9ac165790f5ad84c46dd", func := "loop.example/g01313/laws.FnExactCharactersOf", spec := "fnExactCharactersOf", apart := false, narrowed := true }
def FnExactCharactersOfUptoSaid : Prop := fnExactCharactersOfUptoRow.holds Try.pinned (OpenSpec.upto fnExactCharactersOfSpec)

/-- 'laws.FnExactIsCharacter', WHERE WHAT IT READS IS OF BULK AT MOST 1048576: true; the input reads as it did. -/
def fnExactIsCharacterUptoRow : OpenClaim := { program := "ytgpjamonbhijaaa", sum := "fd2c768bb5e8201628f5ef9a346118be7b0135a7c53a9ac165790f5ad84c46dd", func := "loop.example/g01313/laws.FnExactIsCharacter", spec := "fnExactIsCharacter", apart := false, narrowed := true }
def FnExactIsCharacterUptoSaid : Prop := fnExactIsCharacterUptoRow.holds Try.pinned (OpenSpec.upto fnExactIsCharacterSpec)

end Rows
end Go.Proofs.Ytgpjamonbhijaaa
