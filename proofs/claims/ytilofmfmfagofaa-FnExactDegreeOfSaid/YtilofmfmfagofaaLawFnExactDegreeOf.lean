-- Written by px.py, a program of this session's, for this claim.
import Derived.Test.YtilofmfmfagofaaRows
import Derived.Test.YtilofmfmfagofaaXFnExactDegreeOfx12
import Derived.Test.YtilofmfmfagofaaPureFnExactDegreeOf
import Derived.WalkKit
import Derived.ProofKit
import Derived.OpenShut
import Derived.ShutString
import Derived.ChangeOld
import Derived.Below
import Derived.SizedLaws
import Derived.ChangeSlices
import Derived.Deep.Matrix
import Derived.Lib.SmallJoins
import Derived.Test.YtilofmfmfagofaaWSized
namespace Go.Proofs.Ytilofmfmfagofaa.fnExactDegreeOf
open Go.ChangeShapes Go.WideShapes Go.ChangeAt Go.RowKit Go.Joins Go.Proofs.YtilofmfmfagofaaW.PrintWords Go.Proofs.Ytilofmfmfagofaa.XFnExactDegreeOf
open Go.ChangeMaps (open_string shut_string)
set_option linter.unusedVariables false
set_option linter.unusedSimpArgs false
theorem own : ownKnob Try.prog.godebug = none := by kernel_rfl
theorem laidOut : laidOutB Try.prog = true := by kernel_rfl
section
variable {H : Type} {enc : TypeId × Value → H} {P : Program} {W : World} {base : Nat}
/-- A slice of whole numbers that was read: its list. -/
theorem ints_in {t e : TypeId} {k : IntKind} {held : Bool} {n : Nat} {u : Value} {y : DataW H × List MemPlace} (hu : P.underlying t = some (.slice e)) (he : P.underlying e = some (.int k)) (hc : P.cellsOf e = 1)
    (h : DataW.trod enc P W base (fun _ => true) held n t [u] = some y) :
    ∃ (A : Option Addr) (c : Nat) (l : List Int), [u] = [.slice A l.length c] ∧ l.length ≤ maxLen ∧ (∀ x ∈ l, (Lit.int k x).wf = true) ∧ Kd.C (Kd.int k) W A l.length l ∧ l.length ≤ c := by
  have key : ∀ (a : Option Addr) (len cap : Nat) (z : List Int), ((a = none ∧ len = 0 ∧ cap = 0 ∧ z = []) ∨ ∃ x, a = some x ∧ len ≤ cap ∧ cap ≤ maxLen ∧ z.length = cap ∧ (∀ i, i < z.length → W.cell? (x.add i) = some (.int k (z.getD i 0))) ∧ ∀ n ∈ z, (Lit.int k n).wf = true) →
      ∃ (A : Option Addr) (c : Nat) (l : List Int), ([.slice a len cap] : List Value) = [.slice A l.length c] ∧ l.length ≤ maxLen ∧ (∀ x ∈ l, (Lit.int k x).wf = true) ∧ Kd.C (Kd.int k) W A l.length l ∧ l.length ≤ c := by
    intro a len cap z hz
    obtain ⟨l, rfl, hr, hm, hw, hc⟩ := ReadsInt.ofRowC hz
    exact ⟨a, cap, l, rfl, hm, hw, Kd.C_of_reads (d := (0 : Int)) (h1 := fun _ => rfl) hr, hc⟩
  rcases open_ints hu he hc h with ⟨hcs, _⟩ | ⟨x, l, c, zs, hcs, _, hl, hm, hz, _, hcell, hwz⟩
  · rw [hcs]
    exact key none 0 0 [] (.inl ⟨rfl, rfl, rfl, rfl⟩)
  · rw [hcs]
    exact key (some x) l c zs (.inr ⟨x, rfl, hl, hm, by simpa using hz, hcell, hwz⟩)
end
set_option maxRecDepth 100000 in
set_option maxHeartbeats 1000000 in
theorem lifted (os : Os) (started : os.Started) (H : Type) (enc : TypeId × Value → H) :
    ReturnsInHanded {} Try.checked os 12 .any (Rows.fnExactDegreeOfSpec.pre6 enc Try.prog Try.f12 Rows.fnExactDegreeOfRow.domain false) (Rows.fnExactDegreeOfSpec.post enc Try.prog Try.f12 false true false false) := by
  refine returnsInHanded_of_change_sized (C := Try.checked) own started (by kernel_rfl) Try.func12
    (ChangeSpec.witness6 (enc := enc) (C := Try.checked) false ⟨#[], #[.agg #[.int .i64 0, .slice none 0 0]], []⟩ 8 (by kernel_rfl) (by kernel_rfl) (by kernel_rfl) (by kernel_rfl)) ?_
  intro W base args ds gs before hval0 hW hcnd hsz0 _
  have hval : ∀ (j : Nat) t v, Try.f12.params[j]? = some t → args[j]? = some v → Value.okWide Try.prog W .any base t v := hval0
  have hW' := hW
  obtain ⟨p, q, hA0, hV, rfl, hfz, hnd⟩ := hW
  have hA : DataW.TrodAll enc Try.prog W 0 (fun _ => true) true Try.f12.params.toList args.toList ds p := hA0
  rw [Try.params12] at hA hval
  obtain ⟨v0, vs0, d0, ds0, p0, q0, hargs, rfl, rfl, h0, r0⟩ := trodAll_cons hA
  obtain ⟨rfl, rfl, rfl⟩ := trodAll_nil r0
  obtain rfl : args = #[v0] := by cases args; simp_all
  obtain ⟨rfl, rfl⟩ := trodVars_none hV
  have k0 := h0
  have lt0 : ∀ x ∈ p0, x.block < W.heap.size := by obtain ⟨m, hm⟩ := k0; exact DataW.trod_lt m _ _ _ hm
  obtain ⟨u0_0, u0_1, y0_0, y0_1, n0, rfl, rfl, rfl, g0_0, g0_1⟩ := open_agg2 Try.underlying24 (by kernel_rfl) (by kernel_rfl) (hval 0 24 v0 rfl rfl) h0
  obtain ⟨a0_0, e0_0, _, w0_0⟩ := DataW.trod_int Try.underlying2 g0_0
  obtain ⟨A0_1, c0_1, l0_1, e0_1, m0_1, v0_1, hr0_1, hc0_1⟩ := ints_in Try.underlying22 Try.underlying2 (by kernel_rfl) g0_1
  obtain rfl := (List.cons.inj e0_0).1
  obtain rfl := (List.cons.inj e0_1).1
  refine (XFnExactDegreeOf.laws_FnExactDegreeOf.walk Pure.FnExactDegreeOf a0_0 A0_1 c0_1 l0_1 W w0_0 m0_1 v0_1 hr0_1 hc0_1).mono fun e W' ⟨he, bel⟩ => ?_
  subst he
  exact ⟨_, rfl, _, _, _, [], _, [], hW', trodAll_mk1 (shut_bool Try.underlying4 _), (trodAll_cons_mk (Below.trod laidOut (by kernel_rfl) (of_decide_eq_true (by kernel_rfl)) k0 bel lt0) trodAll_mk0), rfl, bel.frame _, fun h => by cases h⟩
theorem over : Rows.fnExactDegreeOfRow.holds Try.pinned (OpenSpec.ofChange Rows.fnExactDegreeOfSpec) :=
  OpenClaim.holds_of_wide 12 Try.f12 rfl rfl rfl rfl rfl rfl rfl ⟨rfl, rfl, rfl, rfl, rfl⟩ rfl rfl rfl rfl rfl (by kernel_rfl) Try.func12 (by kernel_rfl)
    (of_decide_eq_true (by kernel_rfl)) (by unfold Func.isWrapper; first | (rw [if_pos (by decide +kernel)]; kernel_rfl) | (rw [if_neg (by decide +kernel)]; exact ⟨rfl, rfl⟩))
    (fun os started H enc _ => lifted os started H enc)
theorem proved : Rows.FnExactDegreeOfSaid := over
end Go.Proofs.Ytilofmfmfagofaa.fnExactDegreeOf
namespace Go.Proofs.Ytilofmfmfagofaa
/-- The row, under a short name, for the claim. -/
theorem fnExactDegreeOf_holds : Rows.FnExactDegreeOfSaid := fnExactDegreeOf.proved
end Go.Proofs.Ytilofmfmfagofaa
