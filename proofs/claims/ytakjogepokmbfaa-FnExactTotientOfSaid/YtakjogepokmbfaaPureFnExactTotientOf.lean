/- The totient, as the program and as the reference count it, for every number. No condition. -/
import Derived.Test.YtakjogepokmbfaaPFnExactTotientOfx1
namespace Go.Proofs.Ytakjogepokmbfaa.Pure
open Go.RowKit Go.Proofs.Ytakjogepokmbfaa.PFnExactTotientOf Go.Proofs.YtakjogepokmbfaaW.PrintWords Go.Proofs.YtakjogepokmbfaaW.PrintLast
set_option linter.unusedVariables false
set_option linter.unusedSimpArgs false

theorem wfb {a : Int} (h : (Lit.int .i64 a).wf = true) : -9223372036854775808 ≤ a ∧ a ≤ 9223372036854775807 := by
  simp only [Lit.wf, IntKind.min, IntKind.max, IntKind.signed, IntKind.bits, Bool.and_eq_true, decide_eq_true_eq, if_true] at h
  omega
theorem wid {a : Int} (h1 : -9223372036854775808 ≤ a) (h2 : a ≤ 9223372036854775807) : wrap64 a = a := by
  unfold wrap64; omega
theorem Ev.const {α : Type} {g : Nat → Option α} {r : α} (h : ∀ k, g k = some r) : Ev g r := ⟨0, fun k _ => h k⟩
theorem Ev.if_pos {α : Type} {c : Prop} [Decidable c] {f g : Nat → Option α} {r : α} (hc : c) (h : Ev f r) : Ev (fun k => if c then f k else g k) r :=
  Ev.congr (fun k => _root_.if_pos hc) h
theorem Ev.if_neg {α : Type} {c : Prop} [Decidable c] {f g : Nat → Option α} {r : α} (hc : ¬ c) (h : Ev g r) : Ev (fun k => if c then f k else g k) r :=
  Ev.congr (fun k => _root_.if_neg hc) h
theorem Ev.val {α : Type} {f : Nat → Option α} {r s : α} (h : Ev f r) (e : r = s) : Ev f s := e ▸ h
theorem within_eq (a b c : Int) : impl_within.f a b c = some (decide (b ≤ a ∧ a ≤ c)) := by
  unfold impl_within.f
  by_cases h : b ≤ a <;> simp [h]
theorem in_eq (a b c : Int) : spec_l01In.f a b c = some (decide (b ≤ a ∧ a ≤ c)) := by
  unfold spec_l01In.f
  by_cases h : b ≤ a <;> simp [h]
theorem igcd_step (a b : Int) (ha : 0 ≤ a) (hb : 0 ≤ b) : Int.gcd b (a % b) = Int.gcd a b := by
  obtain ⟨m, rfl⟩ := Int.eq_ofNat_of_zero_le ha
  obtain ⟨n, rfl⟩ := Int.eq_ofNat_of_zero_le hb
  show Nat.gcd n ((m : Int) % (n : Int)).natAbs = Nat.gcd m n
  rw [← Int.natCast_emod, Int.natAbs_natCast, Nat.gcd_comm n, ← Nat.gcd_rec, Nat.gcd_comm]
theorem gcd_spec (n : Nat) : ∀ (a b : Int), 0 ≤ a → 0 ≤ b → b < 9223372036854775807 → a ≤ 9223372036854775807 → b ≤ n → spec_l01Gcd.l0 (n + 1) a b = some ((Int.gcd a b : Nat) : Int) := by
  induction n with
  | zero =>
    intro a b ha hb _ ha2 hn
    obtain rfl : b = 0 := by omega
    rw [spec_l01Gcd.l0, if_pos rfl]
    have e : mx a (wrap64 (-a)) = a := by rw [wid (by omega) (by omega)]; unfold mx; split <;> omega
    rw [e]
    congr 1
    simp [Int.gcd]; omega
  | succ n ih =>
    intro a b ha hb hb2 ha2 hn
    rw [spec_l01Gcd.l0]
    by_cases h : b = 0
    · subst h
      rw [if_pos rfl]
      have e : mx a (wrap64 (-a)) = a := by rw [wid (by omega) (by omega)]; unfold mx; split <;> omega
      rw [e]
      congr 1
      simp [Int.gcd]; omega
    · rw [if_neg h]
      have h1 : Int.tmod a b = a % b := Int.tmod_eq_emod_of_nonneg ha
      have h2 := Int.emod_nonneg a h
      have h3 := Int.emod_lt_of_pos a (show 0 < b by omega)
      rw [h1, ih b (a % b) hb h2 (by omega) (by omega) (by omega)]
      congr 1; congr 1
      exact igcd_step a b ha hb
theorem gcd_impl_l (n : Nat) : ∀ (a b : Int), 0 ≤ a → 0 ≤ b → b ≤ n → impl_gcd.l0 (n + 1) a b = some ((Int.gcd a b : Nat) : Int) := by
  induction n with
  | zero =>
    intro a b ha hb hn
    obtain rfl : b = 0 := by omega
    rw [impl_gcd.l0, if_neg (by omega)]
    congr 1
    simp [Int.gcd]; omega
  | succ n ih =>
    intro a b ha hb hn
    rw [impl_gcd.l0]
    by_cases h : b > 0
    · rw [if_pos h, if_neg (by omega)]
      have h1 : Int.tmod a b = a % b := Int.tmod_eq_emod_of_nonneg ha
      have h2 := Int.emod_nonneg a (show b ≠ 0 by omega)
      have h3 := Int.emod_lt_of_pos a h
      rw [h1, ih b (a % b) hb h2 (by omega)]
      congr 1; congr 1
      exact igcd_step a b ha hb
    · obtain rfl : b = 0 := by omega
      rw [if_neg h]
      congr 1
      simp [Int.gcd]; omega
theorem gcd_impl (n : Nat) (a b : Int) (ha : 0 ≤ a) (hb : 0 ≤ b) (ha2 : a ≤ 9223372036854775807) (hb2 : b ≤ 9223372036854775807) (hn : b ≤ n) : impl_gcd.f (n + 1) a b = some ((Int.gcd a b : Nat) : Int) := by
  have s : ∀ x : Int, 0 ≤ x → x ≤ 9223372036854775807 → impl_size.f x = some x := by
    intro x h0 h1
    unfold impl_size.f
    rw [wid (by omega) (by omega)]
    unfold mx
    congr 1
    split <;> omega
  unfold impl_gcd.f
  rw [s a ha ha2, s b hb hb2]
  simp only [Option.bind_some]
  exact gcd_impl_l n a b ha hb hn
/-- How many of the i.. n have no common divisor with n: the two counts go side by side. -/
theorem phi_both (n : Int) (h0 : 0 ≤ n) (hn : n ≤ 1000) : ∀ (d : Nat) (c a : Int), 1 ≤ a → n - a < d → 0 ≤ c → c ≤ 1000000 - d → ∃ r, 0 ≤ r ∧ r ≤ c + d ∧ spec_l01Phi.l0 (d + 1001) n c a = some r ∧ impl_totient.l0 (d + 1001) n c a = some r := by
  intro d
  induction d with
  | zero =>
    intro c a h1 h2 _ _
    refine ⟨c, by omega, by omega, ?_, ?_⟩
    · rw [spec_l01Phi.l0, if_neg (by omega)]
    · rw [impl_totient.l0, if_neg (by omega)]
  | succ d ih =>
    intro c a h1 h2 hc hc2
    by_cases h : a ≤ n
    · have e1 : spec_l01Gcd.f (d + 1001) a n = some ((Int.gcd a n : Nat) : Int) := by
        unfold spec_l01Gcd.f
        exact at_rounds (g := fun k => spec_l01Gcd.l0 k a n) (fun k => spec_l01Gcd.mono_l k a n) (show 1001 ≤ d + 1001 by omega) (gcd_spec 1000 a n (by omega) h0 (by omega) (by omega) (by omega))
      have e2 : impl_gcd.f (d + 1001) a n = some ((Int.gcd a n : Nat) : Int) :=
        at_rounds (impl_gcd.mono a n) (show 1001 ≤ d + 1001 by omega) (gcd_impl 1000 a n (by omega) h0 (by omega) (by omega) (by omega))
      by_cases g : (Int.gcd a n : Int) = 1
      · obtain ⟨r, r0, r1, r2, r3⟩ := ih (c + 1) (a + 1) (by omega) (by omega) (by omega) (by omega)
        refine ⟨r, r0, by omega, ?_, ?_⟩
        · rw [show d + 1 + 1001 = (d + 1001) + 1 from by omega, spec_l01Phi.l0, if_pos h, e1]
          simp only [Option.bind_some]
          rw [if_pos g, wid (by omega) (by omega), wid (by omega) (by omega)]
          exact r2
        · rw [show d + 1 + 1001 = (d + 1001) + 1 from by omega, impl_totient.l0, if_pos h, e2]
          simp only [Option.bind_some]
          rw [if_pos g, wid (by omega) (by omega), wid (by omega) (by omega)]
          exact r3
      · obtain ⟨r, r0, r1, r2, r3⟩ := ih c (a + 1) (by omega) (by omega) (by omega) (by omega)
        refine ⟨r, r0, by omega, ?_, ?_⟩
        · rw [show d + 1 + 1001 = (d + 1001) + 1 from by omega, spec_l01Phi.l0, if_pos h, e1]
          simp only [Option.bind_some]
          rw [if_neg g, wid (by omega) (by omega)]
          exact r2
        · rw [show d + 1 + 1001 = (d + 1001) + 1 from by omega, impl_totient.l0, if_pos h, e2]
          simp only [Option.bind_some]
          rw [if_neg g, wid (by omega) (by omega)]
          exact r3
    · refine ⟨c, by omega, by omega, ?_, ?_⟩
      · rw [show d + 1 + 1001 = (d + 1001) + 1 from by omega, spec_l01Phi.l0, if_neg h]
      · rw [show d + 1 + 1001 = (d + 1001) + 1 from by omega, impl_totient.l0, if_neg h]
theorem FnExactTotientOf : laws_FnExactTotientOf.Pure := by
  intro n hn
  obtain ⟨b1, b2⟩ := wfb hn
  by_cases h : 1 ≤ n ∧ n ≤ 1000
  · obtain ⟨r, _, _, r2, r3⟩ := phi_both n (by omega) (by omega) 1001 0 1 (by omega) (by omega) (by omega) (by omega)
    refine ⟨1001 + 1001, ?_⟩
    unfold laws_FnExactTotientOf.f spec_TotientOf.f impl_TotientOf.f spec_l01Phi.f impl_totient.f
    rw [in_eq, within_eq, r2, r3]
    simp [h]
  · refine ⟨0, ?_⟩
    unfold laws_FnExactTotientOf.f spec_TotientOf.f impl_TotientOf.f
    rw [in_eq, within_eq]
    simp [h]

end Go.Proofs.Ytakjogepokmbfaa.Pure
