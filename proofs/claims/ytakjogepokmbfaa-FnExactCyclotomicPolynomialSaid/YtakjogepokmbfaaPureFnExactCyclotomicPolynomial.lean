/- The cyclotomic polynomial, as the program and as the reference reckon it, for every number. No condition. -/
import Derived.Test.YtakjogepokmbfaaXFnExactCyclotomicPolynomialx3
namespace Go.Proofs.Ytakjogepokmbfaa.Pure
open Go.RowKit Go.Proofs.Ytakjogepokmbfaa.XFnExactCyclotomicPolynomial Go.Proofs.YtakjogepokmbfaaW.PrintWords Go.Proofs.YtakjogepokmbfaaW.PrintLast
set_option linter.unusedVariables false
set_option linter.unusedSimpArgs false

theorem wfb {a : Int} (h : (Lit.int .i64 a).wf = true) : -9223372036854775808 ≤ a ∧ a ≤ 9223372036854775807 := by
  simp only [Lit.wf, IntKind.min, IntKind.max, IntKind.signed, IntKind.bits, Bool.and_eq_true, decide_eq_true_eq, if_true] at h
  omega
theorem wid {a : Int} (h1 : -9223372036854775808 ≤ a) (h2 : a ≤ 9223372036854775807) : wrap64 a = a := by
  unfold wrap64; omega
theorem Ev.const {α : Type} {g : Nat → Option α} {r : α} (h : ∀ k, g k = some r) : Ev g r := ⟨0, fun k _ => h k⟩
theorem Ev.if_pos {α : Type} {c : Prop} [Decidable c] {f g : Nat → Option α} {r : α} (hc : c) (h : Ev f r) : Ev (fun k => if c then f k else g k) r :=
  Ev.congr (fun k => _root_.if_pos hc) h
theorem Ev.if_neg {α : Type} {c : Prop} [Decidable c] {f g : Nat → Option α} {r : α} (hc : ¬ c) (h : Ev g r) : Ev (fun k => if c then f k else g k) r :=
  Ev.congr (fun k => _root_.if_neg hc) h
theorem Ev.val {α : Type} {f : Nat → Option α} {r s : α} (h : Ev f r) (e : r = s) : Ev f s := e ▸ h
theorem within_eq (a b c : Int) : impl_within.f a b c = some (decide (b ≤ a ∧ a ≤ c)) := by
  unfold impl_within.f
  by_cases h : b ≤ a <;> simp [h]
theorem in_eq (a b c : Int) : spec_l01In.f a b c = some (decide (b ≤ a ∧ a ≤ c)) := by
  unfold spec_l01In.f
  by_cases h : b ≤ a <;> simp [h]
set_option maxHeartbeats 20000000 in
theorem polys_0 : ∀ n : Nat, n < 20 → 0 ≤ n → laws_FnExactCyclotomicPolynomial.f 10000 ((n : Int) + 1) = some true := by decide +kernel
set_option maxHeartbeats 20000000 in
theorem polys_20 : ∀ n : Nat, n < 30 → 20 ≤ n → laws_FnExactCyclotomicPolynomial.f 10000 ((n : Int) + 1) = some true := by decide +kernel
set_option maxHeartbeats 20000000 in
theorem polys_30 : ∀ n : Nat, n < 36 → 30 ≤ n → laws_FnExactCyclotomicPolynomial.f 10000 ((n : Int) + 1) = some true := by decide +kernel
set_option maxHeartbeats 20000000 in
theorem polys_36 : ∀ n : Nat, n < 40 → 36 ≤ n → laws_FnExactCyclotomicPolynomial.f 10000 ((n : Int) + 1) = some true := by decide +kernel
set_option maxHeartbeats 20000000 in
theorem polys_40 : ∀ n : Nat, n < 44 → 40 ≤ n → laws_FnExactCyclotomicPolynomial.f 10000 ((n : Int) + 1) = some true := by decide +kernel
set_option maxHeartbeats 20000000 in
theorem polys_44 : ∀ n : Nat, n < 47 → 44 ≤ n → laws_FnExactCyclotomicPolynomial.f 10000 ((n : Int) + 1) = some true := by decide +kernel
set_option maxHeartbeats 20000000 in
theorem polys_47 : ∀ n : Nat, n < 48 → 47 ≤ n → laws_FnExactCyclotomicPolynomial.f 10000 ((n : Int) + 1) = some true := by decide +kernel
set_option maxHeartbeats 20000000 in
theorem polys_48 : ∀ n : Nat, n < 52 → 48 ≤ n → laws_FnExactCyclotomicPolynomial.f 10000 ((n : Int) + 1) = some true := by decide +kernel
set_option maxHeartbeats 20000000 in
theorem polys_52 : ∀ n : Nat, n < 54 → 52 ≤ n → laws_FnExactCyclotomicPolynomial.f 10000 ((n : Int) + 1) = some true := by decide +kernel
set_option maxHeartbeats 20000000 in
theorem polys_54 : ∀ n : Nat, n < 56 → 54 ≤ n → laws_FnExactCyclotomicPolynomial.f 10000 ((n : Int) + 1) = some true := by decide +kernel
set_option maxHeartbeats 20000000 in
theorem polys_56 : ∀ n : Nat, n < 59 → 56 ≤ n → laws_FnExactCyclotomicPolynomial.f 10000 ((n : Int) + 1) = some true := by decide +kernel
set_option maxHeartbeats 20000000 in
theorem polys_59 : ∀ n : Nat, n < 60 → 59 ≤ n → laws_FnExactCyclotomicPolynomial.f 10000 ((n : Int) + 1) = some true := by decide +kernel
theorem all_polys (n : Nat) (h : n < 60) : laws_FnExactCyclotomicPolynomial.f 10000 ((n : Int) + 1) = some true := by
  by_cases h59 : 59 ≤ n
  · exact polys_59 n (by omega) h59
  by_cases h56 : 56 ≤ n
  · exact polys_56 n (by omega) h56
  by_cases h54 : 54 ≤ n
  · exact polys_54 n (by omega) h54
  by_cases h52 : 52 ≤ n
  · exact polys_52 n (by omega) h52
  by_cases h48 : 48 ≤ n
  · exact polys_48 n (by omega) h48
  by_cases h47 : 47 ≤ n
  · exact polys_47 n (by omega) h47
  by_cases h44 : 44 ≤ n
  · exact polys_44 n (by omega) h44
  by_cases h40 : 40 ≤ n
  · exact polys_40 n (by omega) h40
  by_cases h36 : 36 ≤ n
  · exact polys_36 n (by omega) h36
  by_cases h30 : 30 ≤ n
  · exact polys_30 n (by omega) h30
  by_cases h20 : 20 ≤ n
  · exact polys_20 n (by omega) h20
  exact polys_0 n (by omega) (by omega)
theorem FnExactCyclotomicPolynomial : laws_FnExactCyclotomicPolynomial.Pure := by
  intro n hn
  obtain ⟨b1, b2⟩ := wfb hn
  by_cases h : 1 ≤ n ∧ n ≤ 60
  · obtain ⟨m, hm⟩ := Int.eq_ofNat_of_zero_le (show 0 ≤ n - 1 by omega)
    refine ⟨10000, ?_⟩
    have := all_polys m (by omega)
    rwa [show (m : Int) + 1 = n from by omega] at this
  · have hs : ∀ k, spec_CyclotomicPolynomial.f k n = some ([], 2) := fun k => by
      unfold spec_CyclotomicPolynomial.f
      rw [in_eq, decide_eq_false h]; rfl
    have hi : ∀ k, impl_CyclotomicPolynomial.f k n = some ([], 2) := fun k => by
      unfold impl_CyclotomicPolynomial.f
      rw [within_eq, decide_eq_false h]; rfl
    refine ⟨10, ?_⟩
    unfold laws_FnExactCyclotomicPolynomial.f
    rw [hs, hi]
    simp only [Option.bind_some, laws_FnExactCyclotomicPolynomial.j0, laws_FnExactCyclotomicPolynomial.j1, hi]
    decide

end Go.Proofs.Ytakjogepokmbfaa.Pure
