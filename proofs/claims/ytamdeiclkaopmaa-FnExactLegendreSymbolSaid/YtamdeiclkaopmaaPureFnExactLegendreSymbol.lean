/- The Legendre symbol, as the program and as the reference tell it, for all arguments. No condition. -/
import Derived.Test.YtamdeiclkaopmaaXFnExactLegendreSymbolx2
namespace Go.Proofs.Ytamdeiclkaopmaa.Pure
open Go.RowKit Go.Proofs.Ytamdeiclkaopmaa.XFnExactLegendreSymbol Go.Proofs.YtamdeiclkaopmaaW.PrintWords Go.Proofs.YtamdeiclkaopmaaW.PrintLast
set_option linter.unusedVariables false
set_option linter.unusedSimpArgs false

theorem wfb {a : Int} (h : (Lit.int .i64 a).wf = true) : -9223372036854775808 ≤ a ∧ a ≤ 9223372036854775807 := by
  simp only [Lit.wf, IntKind.min, IntKind.max, IntKind.signed, IntKind.bits, Bool.and_eq_true, decide_eq_true_eq, if_true] at h
  omega
theorem wid {a : Int} (h1 : -9223372036854775808 ≤ a) (h2 : a ≤ 9223372036854775807) : wrap64 a = a := by
  unfold wrap64; omega
theorem Ev.const {α : Type} {g : Nat → Option α} {r : α} (h : ∀ k, g k = some r) : Ev g r := ⟨0, fun k _ => h k⟩
theorem Ev.if_pos {α : Type} {c : Prop} [Decidable c] {f g : Nat → Option α} {r : α} (hc : c) (h : Ev f r) : Ev (fun k => if c then f k else g k) r :=
  Ev.congr (fun k => _root_.if_pos hc) h
theorem Ev.if_neg {α : Type} {c : Prop} [Decidable c] {f g : Nat → Option α} {r : α} (hc : ¬ c) (h : Ev g r) : Ev (fun k => if c then f k else g k) r :=
  Ev.congr (fun k => _root_.if_neg hc) h
theorem Ev.val {α : Type} {f : Nat → Option α} {r s : α} (h : Ev f r) (e : r = s) : Ev f s := e ▸ h
theorem within_eq (a b c : Int) : impl_within.f a b c = some (decide (b ≤ a ∧ a ≤ c)) := by
  unfold impl_within.f
  by_cases h : b ≤ a <;> simp [h]
theorem in_eq (a b c : Int) : spec_l01In.f a b c = some (decide (b ≤ a ∧ a ≤ c)) := by
  unfold spec_l01In.f
  by_cases h : b ≤ a <;> simp [h]
def isP (p : Int) : Bool := [3, 5, 7, 11, 13, 17, 19, 23, 29, 31, 37, 41, 43, 47, 53, 59, 61].contains p
theorem isP_range {p : Int} (h : isP p = true) : 3 ≤ p ∧ p ≤ 61 := by
  simp [isP] at h; omega
theorem isP_out {p : Int} (h : ¬ (3 ≤ p ∧ p ≤ 61)) : isP p = false := by
  cases e : isP p with
  | false => rfl
  | true => exact absurd (isP_range e) h
theorem prime_in : ∀ n : Nat, n < 62 → 3 ≤ n → impl_isPrime.f 10 (n : Int) = some (isP (n : Int)) ∧ spec_l03Prime.f 10 (n : Int) = some (isP (n : Int)) := by decide +kernel
theorem prime_out_l (p : Int) (hp : 62 ≤ p) (hp2 : p ≤ 9223372036854775807) : ∀ (n : Nat) (d : Int), 2 ≤ d → d ≤ p → p - d ≤ n → impl_isPrime.l0 (n + 1) p d = some false := by
  have hw : impl_within.f p 3 61 = some false := by rw [within_eq, decide_eq_false (by omega)]
  intro n
  induction n with
  | zero =>
    intro d h1 h2 h3
    obtain rfl : d = p := by omega
    simp only [impl_isPrime.l0]
    split
    · rw [if_neg (by omega), if_pos (Int.tmod_self)]
    · rw [hw]; rfl
  | succ n ih =>
    intro d h1 h2 h3
    rw [impl_isPrime.l0]
    split
    · rw [if_neg (by omega)]
      by_cases e : Int.tmod p d = 0
      · rw [if_pos e]
      · rw [if_neg e]
        have hd : d ≠ p := fun e' => e (by rw [e']; exact Int.tmod_self)
        rw [wid (by omega) (by omega)]
        exact ih (d + 1) (by omega) (by omega) (by omega)
    · rw [hw]; rfl
theorem prime_impl (p : Int) (hp : p ≤ 9223372036854775807) : Ev (fun k => impl_isPrime.f k p) (isP p) := by
  by_cases h : 3 ≤ p ∧ p ≤ 61
  · obtain ⟨n, rfl⟩ := Int.eq_ofNat_of_zero_le (show 0 ≤ p by omega)
    exact Ev.of (impl_isPrime.mono _) (prime_in n (by omega) (by omega)).1
  · rw [isP_out h]
    by_cases h2 : p < 3
    · refine ⟨1, fun k hk => ?_⟩
      obtain ⟨k, rfl⟩ : ∃ m, k = m + 1 := ⟨k - 1, by omega⟩
      show impl_isPrime.f (k + 1) p = some false
      unfold impl_isPrime.f
      rw [impl_isPrime.l0, if_neg (by rw [wid (by omega) (by omega)]; omega), within_eq, decide_eq_false (by omega)]
      rfl
    · refine Ev.of (impl_isPrime.mono _) (k := (p - 2).toNat + 1) ?_
      exact prime_out_l p (by omega) hp _ 2 (by omega) (by omega) (by omega)
theorem prime_spec (p : Int) : Ev (fun k => spec_l03Prime.f k p) (isP p) := by
  by_cases h : 3 ≤ p ∧ p ≤ 61
  · obtain ⟨n, rfl⟩ := Int.eq_ofNat_of_zero_le (show 0 ≤ p by omega)
    exact Ev.of (spec_l03Prime.mono _) (prime_in n (by omega) (by omega)).2
  · rw [isP_out h]
    refine Ev.const (fun k => ?_)
    unfold spec_l03Prime.f
    rw [in_eq, decide_eq_false h]
    rfl
/-- The rest of at least 0. -/
def rest (p x : Int) : Int := Int.tmod (wrap64 ((Int.tmod x p) + p)) p
theorem rest_range (p x : Int) (h0 : 3 ≤ p ∧ p ≤ 61) (hx : -1000000 ≤ x ∧ x ≤ 1000000) : 0 ≤ rest p x ∧ rest p x < p := by
  have h1 := Int.tmod_lt_of_pos x (show 0 < p by omega)
  have h2 : -p < Int.tmod x p := by
    have := Int.lt_tmod_of_pos x (show 0 < p by omega)
    omega
  unfold rest
  rw [wid (by omega) (by omega)]
  exact ⟨Int.tmod_nonneg _ (by omega), Int.tmod_lt_of_pos _ (by omega)⟩
/-- The program's answer at a rest. -/
def told (k : Nat) (p y : Int) : Option Int := (impl_indices.f k p).bind fun b => if 0 ≤ y then (if y < (b.1.length : Int) then (if (rd b.1 y) < 0 then some 0 else if (Int.tmod (rd b.1 y) 2) = 0 then some 1 else some (-1)) else none) else none
def ref (k : Nat) (p y : Int) : Option Int := if y = 0 then some 0 else spec_l03Legendre.l0 k p y 1
set_option maxHeartbeats 20000000 in
theorem all_leg : ∀ p : Nat, p < 62 → isP (p : Int) = true → ∀ y : Nat, y < p → ref 100 (p : Int) (y : Int) = told 1000 (p : Int) (y : Int) ∧ (told 1000 (p : Int) (y : Int)).isSome = true := by decide +kernel
theorem told_mono (p y : Int) : ∀ k, LeO (told k p y) (told (k + 1) p y) := by
  intro k
  unfold told
  exact LeO.bind (impl_indices.mono p k) (fun _ => LeO.refl _)
theorem ref_mono (p y : Int) : ∀ k, LeO (ref k p y) (ref (k + 1) p y) := by
  intro k
  unfold ref
  exact LeO.ite (LeO.refl _) (spec_l03Legendre.mono_l k _ _ _)
theorem FnExactLegendreSymbol : laws_FnExactLegendreSymbol.Pure := by
  intro p x hp hx
  obtain ⟨b1, b2⟩ := wfb hp
  have hi := prime_impl p b2
  have hs := prime_spec p
  have hj : Ev (fun k => impl_LegendreSymbol.j0 k p x true) (0, 2) := by
    refine Ev.step (fun k => rfl) ?_
    simp only [impl_LegendreSymbol.j0, if_true]
    exact Ev.now _
  refine Ev.rounds (g := fun k => laws_FnExactLegendreSymbol.f k p x) ?_
  simp only [laws_FnExactLegendreSymbol.f, spec_LegendreSymbol.f, impl_LegendreSymbol.f, in_eq, within_eq, Option.bind_some]
  cases hP : isP p with
  | false =>
    rw [hP] at hi hs
    refine Ev.bind (Ev.bind hs (Ev.const fun _ => rfl)) ?_
    refine Ev.bind (a := (0, 2)) (Ev.bind hi ?_) (Ev.const fun _ => rfl)
    exact Ev.if_neg (by simp) hj
  | true =>
    rw [hP] at hi hs
    have hr := isP_range hP
    by_cases h : -1000000 ≤ x ∧ x ≤ 1000000
    · have hy := rest_range p x hr h
      obtain ⟨q, rfl⟩ := Int.eq_ofNat_of_zero_le (show 0 ≤ p by omega)
      obtain ⟨y, hyy⟩ := Int.eq_ofNat_of_zero_le hy.1
      obtain ⟨e1, e2⟩ := all_leg q (by omega) hP y (by omega)
      obtain ⟨r, hr2⟩ := Option.isSome_iff_exists.1 e2
      have ht : Ev (fun k => told k (q : Int) (y : Int)) r := Ev.of (told_mono _ _) hr2
      have hf : Ev (fun k => ref k (q : Int) (y : Int)) r := Ev.of (ref_mono _ _) (e1.trans hr2)
      have hq : ¬ ((q : Int) = 0) := by omega
      simp only [decide_eq_true h, if_true]
      refine Ev.bind (a := (r, 0)) (Ev.bind hs ?_) ?_
      · simp only [if_true]
        refine Ev.bind (a := r) ?_ (Ev.now _)
        refine Ev.congr (fun k => ?_) hf
        unfold spec_l03Legendre.f ref
        rw [if_neg hq]
        rw [show Int.tmod (wrap64 ((Int.tmod x (q : Int)) + (q : Int))) (q : Int) = (y : Int) from hyy]
      · refine Ev.bind (a := (r, 0)) (Ev.bind hi ?_) (Ev.const fun _ => by simp)
        simp only [if_true, Bool.not_true]
        refine Ev.step (fun k => rfl) ?_
        simp only [impl_LegendreSymbol.j0, Bool.false_eq_true, if_false]
        have hb : Ev (fun k => (told k (q : Int) (y : Int)).bind fun r => some (r, (0 : Int))) (r, 0) := Ev.bind ht (Ev.now _)
        refine Ev.congr (fun k => ?_) hb
        unfold told impl_around.f
        rw [if_neg hq]
        rw [show Int.tmod (wrap64 ((Int.tmod x (q : Int)) + (q : Int))) (q : Int) = (y : Int) from hyy]
        cases impl_indices.f k (q : Int) with
        | none => rfl
        | some b =>
          simp only [Option.bind_some]
          repeat' split
          all_goals rfl
    · simp only [decide_eq_false h]
      refine Ev.bind (Ev.bind hs (Ev.const fun _ => rfl)) ?_
      refine Ev.bind (a := (0, 2)) (Ev.bind hi ?_) (Ev.const fun _ => rfl)
      exact Ev.if_pos rfl hj

end Go.Proofs.Ytamdeiclkaopmaa.Pure
