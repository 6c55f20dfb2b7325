-- Written by px.py, a program of this session's, for this claim.
import Derived.Test.YtpeokcbjbjjmpaaRows
import Derived.Test.YtpeokcbjbjjmpaaXFnExactIsGaussx5
import Derived.Test.YtpeokcbjbjjmpaaPureFnExactIsGauss
import Derived.WalkKit
import Derived.ProofKit
import Derived.OpenShut
import Derived.ShutString
import Derived.ChangeOld
import Derived.Below
import Derived.SizedLaws
import Derived.ChangeSlices
import Derived.Deep.Matrix
import Derived.Lib.SmallJoins
import Derived.Test.YtpeokcbjbjjmpaaWSized
namespace Go.Proofs.Ytpeokcbjbjjmpaa.fnExactIsGauss
open Go.ChangeShapes Go.WideShapes Go.ChangeAt Go.RowKit Go.Joins Go.Proofs.YtpeokcbjbjjmpaaW.PrintWords Go.Proofs.Ytpeokcbjbjjmpaa.XFnExactIsGauss
open Go.ChangeMaps (open_string shut_string)
set_option linter.unusedVariables false
set_option linter.unusedSimpArgs false
theorem own : ownKnob Try.prog.godebug = none := by kernel_rfl
theorem laidOut : laidOutB Try.prog = true := by kernel_rfl
section
variable {H : Type} {enc : TypeId × Value → H} {P : Program} {W : World} {base : Nat}
/-- A slice of slices of whole numbers that was read: its lists. -/
theorem rows_in {t e q : TypeId} {k : IntKind} {held : Bool} {n : Nat} {u : Value} {y : DataW H × List MemPlace} (ht : P.underlying t = some (.slice e)) (he : P.underlying e = some (.slice q)) (hq : P.underlying q = some (.int k)) (ce : P.cellsOf e = 1) (cq : P.cellsOf q = 1)
    (h : DataW.trod enc P W base (fun _ => true) held n t [u] = some y) :
    ∃ (A : Option Addr) (c : Nat) (l : List (List Int)), [u] = [.slice A l.length c] ∧ l.length ≤ maxLen ∧ (∀ x ∈ l, x.length ≤ maxLen ∧ ∀ y ∈ x, (Lit.int k y).wf = true) ∧ Kd.C (Kd.slice q (Kd.int k)) W A l.length l ∧ l.length ≤ c := by
  rcases Go.Deep.open_int_rows ht he hq ce cq h with ⟨hcs, _⟩ | ⟨a, len, cap, A, L, C, Z, hcs, _, hl, hm, _, hr⟩
  · rw [hcs]
    exact ⟨none, 0, [], rfl, Nat.zero_le _, by simp, ⟨rfl, Nat.zero_le _, fun h => absurd h (Nat.lt_irrefl 0)⟩, Nat.le_refl _⟩
  · rw [hcs]
    have hM : maxLen ≤ 9223372036854775807 := by unfold maxLen; omega
    have one : ∀ r, r < cap → ((Z r).take (L r)).length = L r ∧ L r ≤ C r ∧ L r ≤ maxLen ∧ (∀ y ∈ (Z r).take (L r), (Lit.int k y).wf = true) ∧ Kd.C (Kd.int k) W (A r) ((Z r).take (L r)).length ((Z r).take (L r)) := by
      intro r hr'
      obtain ⟨_, h2, h3, h4, h5, h6, h7⟩ := hr r hr'
      have hlen : ((Z r).take (L r)).length = L r := by rw [List.length_take]; omega
      have hR : ReadsInt W k (A r) ((Z r).take (L r)).length ((Z r).take (L r)) := by
        refine ⟨rfl, by omega, fun hn => ?_⟩
        cases hA : A r with
        | none => have := h6 hA; omega
        | some a' =>
          refine ⟨a', rfl, fun j hj => ?_⟩
          rw [(h7 a' hA).2 j (by omega), List.getD_eq_getElem?_getD, List.getD_eq_getElem?_getD, List.getElem?_take_of_lt (by omega)]
      exact ⟨hlen, h2, by omega, fun y hy => h5 y (List.mem_of_mem_take hy), Kd.C_of_reads (d := (0 : Int)) (h1 := fun _ => rfl) hR⟩
    have hlen2 : ((List.range len).map fun r => (Z r).take (L r)).length = len := by simp
    refine ⟨some a, cap, (List.range len).map fun r => (Z r).take (L r), by rw [hlen2], by omega, ?_, ?_, by omega⟩
    · intro x hx
      obtain ⟨r, hr', rfl⟩ := List.mem_map.1 hx
      have hr2 := one r (by have := List.mem_range.1 hr'; omega)
      exact ⟨by omega, hr2.2.2.2.1⟩
    · refine ⟨rfl, by omega, fun hn => ⟨a, rfl, fun j p hj => ?_⟩⟩
      obtain ⟨hjl, hjp⟩ := List.getElem?_eq_some_iff.1 hj
      have hj2 : j < cap := by omega
      rw [List.getElem_map, List.getElem_range] at hjp
      subst hjp
      obtain ⟨o1, o2, _, _, o5⟩ := one j hj2
      refine ⟨[.slice (A j) ((Z j).take (L j)).length (C j)], rfl, ⟨A j, C j, rfl, by omega, o5⟩, fun i u hu => ?_⟩
      cases i with
      | zero =>
        obtain rfl := Option.some.inj hu
        rw [o1]
        have := (hr j hj2).1
        show W.cell? (a.add (j * 1 + 0)) = _
        rw [Nat.mul_one, Nat.add_zero]
        exact this
      | succ i => simp at hu
end
set_option maxRecDepth 100000 in
set_option maxHeartbeats 1000000 in
theorem lifted (os : Os) (started : os.Started) (H : Type) (enc : TypeId × Value → H) :
    ReturnsInHanded {} Try.checked os 6 .any (Rows.fnExactIsGaussSpec.pre6 enc Try.prog Try.f6 Rows.fnExactIsGaussRow.domain false) (Rows.fnExactIsGaussSpec.post enc Try.prog Try.f6 false true false false) := by
  refine returnsInHanded_of_change_sized (C := Try.checked) own started (by kernel_rfl) Try.func6
    (ChangeSpec.witness6 (enc := enc) (C := Try.checked) false ⟨#[], #[.agg #[.int .i64 0, .int .i64 0, .slice none 0 0]], []⟩ 8 (by kernel_rfl) (by kernel_rfl) (by kernel_rfl) (by kernel_rfl)) ?_
  intro W base args ds gs before hval0 hW hcnd hsz0 _
  have hval : ∀ (j : Nat) t v, Try.f6.params[j]? = some t → args[j]? = some v → Value.okWide Try.prog W .any base t v := hval0
  have hW' := hW
  obtain ⟨p, q, hA0, hV, rfl, hfz, hnd⟩ := hW
  have hA : DataW.TrodAll enc Try.prog W 0 (fun _ => true) true Try.f6.params.toList args.toList ds p := hA0
  rw [Try.params6] at hA hval
  obtain ⟨v0, vs0, d0, ds0, p0, q0, hargs, rfl, rfl, h0, r0⟩ := trodAll_cons hA
  obtain ⟨rfl, rfl, rfl⟩ := trodAll_nil r0
  obtain rfl : args = #[v0] := by cases args; simp_all
  obtain ⟨rfl, rfl⟩ := trodVars_none hV
  have k0 := h0
  have lt0 : ∀ x ∈ p0, x.block < W.heap.size := by obtain ⟨m, hm⟩ := k0; exact DataW.trod_lt m _ _ _ hm
  obtain ⟨u0_0, u0_1, u0_2, y0_0, y0_1, y0_2, n0, rfl, rfl, rfl, g0_0, g0_1, g0_2⟩ := open_agg3 Try.underlying40 (by kernel_rfl) (by kernel_rfl) (hval 0 40 v0 rfl rfl) h0
  obtain ⟨a0_0, e0_0, _, w0_0⟩ := DataW.trod_int Try.underlying2 g0_0
  obtain ⟨a0_1, e0_1, _, w0_1⟩ := DataW.trod_int Try.underlying2 g0_1
  obtain ⟨A0_2, c0_2, l0_2, e0_2, m0_2, v0_2, hr0_2, hc0_2⟩ := rows_in Try.underlying38 Try.underlying24 Try.underlying2 (by kernel_rfl) (by kernel_rfl) g0_2
  obtain rfl := (List.cons.inj e0_0).1
  obtain rfl := (List.cons.inj e0_1).1
  obtain rfl := (List.cons.inj e0_2).1
  refine (XFnExactIsGauss.laws_FnExactIsGauss.walk Pure.FnExactIsGauss a0_0 a0_1 A0_2 c0_2 l0_2 W w0_0 w0_1 m0_2 v0_2 hr0_2 hc0_2).mono fun e W' ⟨he, bel⟩ => ?_
  subst he
  exact ⟨_, rfl, _, _, _, [], _, [], hW', trodAll_mk1 (shut_bool Try.underlying4 _), (trodAll_cons_mk (Below.trod laidOut (by kernel_rfl) (of_decide_eq_true (by kernel_rfl)) k0 bel lt0) trodAll_mk0), rfl, bel.frame _, fun h => by cases h⟩
theorem over : Rows.fnExactIsGaussRow.holds Try.pinned (OpenSpec.ofChange Rows.fnExactIsGaussSpec) :=
  OpenClaim.holds_of_wide 6 Try.f6 rfl rfl rfl rfl rfl rfl rfl ⟨rfl, rfl, rfl, rfl, rfl⟩ rfl rfl rfl rfl rfl (by kernel_rfl) Try.func6 (by kernel_rfl)
    (of_decide_eq_true (by kernel_rfl)) (by unfold Func.isWrapper; first | (rw [if_pos (by decide +kernel)]; kernel_rfl) | (rw [if_neg (by decide +kernel)]; exact ⟨rfl, rfl⟩))
    (fun os started H enc _ => lifted os started H enc)
theorem proved : Rows.FnExactIsGaussSaid := over
end Go.Proofs.Ytpeokcbjbjjmpaa.fnExactIsGauss
namespace Go.Proofs.Ytpeokcbjbjjmpaa
/-- The row, under a short name, for the claim. -/
theorem fnExactIsGauss_holds : Rows.FnExactIsGaussSaid := fnExactIsGauss.proved
end Go.Proofs.Ytpeokcbjbjjmpaa
