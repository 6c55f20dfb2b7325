/- The product of two characters, as the program and as the reference tell it, for all arguments. No condition. -/
import Derived.Test.YtamdeiclkaopmaaXFnExactMultiplyCharactersx3
namespace Go.Proofs.Ytamdeiclkaopmaa.Pure
open Go.RowKit Go.Proofs.Ytamdeiclkaopmaa.XFnExactMultiplyCharacters Go.Proofs.YtamdeiclkaopmaaW.PrintWords Go.Proofs.YtamdeiclkaopmaaW.PrintLast
set_option linter.unusedVariables false
set_option linter.unusedSimpArgs false

theorem wfb {a : Int} (h : (Lit.int .i64 a).wf = true) : -9223372036854775808 ≤ a ∧ a ≤ 9223372036854775807 := by
  simp only [Lit.wf, IntKind.min, IntKind.max, IntKind.signed, IntKind.bits, Bool.and_eq_true, decide_eq_true_eq, if_true] at h
  omega
theorem wid {a : Int} (h1 : -9223372036854775808 ≤ a) (h2 : a ≤ 9223372036854775807) : wrap64 a = a := by
  unfold wrap64; omega
theorem Ev.const {α : Type} {g : Nat → Option α} {r : α} (h : ∀ k, g k = some r) : Ev g r := ⟨0, fun k _ => h k⟩
theorem Ev.if_pos {α : Type} {c : Prop} [Decidable c] {f g : Nat → Option α} {r : α} (hc : c) (h : Ev f r) : Ev (fun k => if c then f k else g k) r :=
  Ev.congr (fun k => _root_.if_pos hc) h
theorem Ev.if_neg {α : Type} {c : Prop} [Decidable c] {f g : Nat → Option α} {r : α} (hc : ¬ c) (h : Ev g r) : Ev (fun k => if c then f k else g k) r :=
  Ev.congr (fun k => _root_.if_neg hc) h
theorem Ev.val {α : Type} {f : Nat → Option α} {r s : α} (h : Ev f r) (e : r = s) : Ev f s := e ▸ h
theorem within_eq (a b c : Int) : impl_within.f a b c = some (decide (b ≤ a ∧ a ≤ c)) := by
  unfold impl_within.f
  by_cases h : b ≤ a <;> simp [h]
theorem in_eq (a b c : Int) : spec_l01In.f a b c = some (decide (b ≤ a ∧ a ≤ c)) := by
  unfold spec_l01In.f
  by_cases h : b ≤ a <;> simp [h]
def isP (p : Int) : Bool := [3, 5, 7, 11, 13, 17, 19, 23, 29, 31, 37, 41, 43, 47, 53, 59, 61].contains p
theorem isP_range {p : Int} (h : isP p = true) : 3 ≤ p ∧ p ≤ 61 := by
  simp [isP] at h; omega
theorem isP_out {p : Int} (h : ¬ (3 ≤ p ∧ p ≤ 61)) : isP p = false := by
  cases e : isP p with
  | false => rfl
  | true => exact absurd (isP_range e) h
theorem prime_in : ∀ n : Nat, n < 62 → 3 ≤ n → impl_isPrime.f 10 (n : Int) = some (isP (n : Int)) ∧ spec_l03Prime.f 10 (n : Int) = some (isP (n : Int)) := by decide +kernel
theorem prime_out_l (p : Int) (hp : 62 ≤ p) (hp2 : p ≤ 9223372036854775807) : ∀ (n : Nat) (d : Int), 2 ≤ d → d ≤ p → p - d ≤ n → impl_isPrime.l0 (n + 1) p d = some false := by
  have hw : impl_within.f p 3 61 = some false := by rw [within_eq, decide_eq_false (by omega)]
  intro n
  induction n with
  | zero =>
    intro d h1 h2 h3
    obtain rfl : d = p := by omega
    simp only [impl_isPrime.l0]
    split
    · rw [if_neg (by omega), if_pos (Int.tmod_self)]
    · rw [hw]; rfl
  | succ n ih =>
    intro d h1 h2 h3
    rw [impl_isPrime.l0]
    split
    · rw [if_neg (by omega)]
      by_cases e : Int.tmod p d = 0
      · rw [if_pos e]
      · rw [if_neg e]
        have hd : d ≠ p := fun e' => e (by rw [e']; exact Int.tmod_self)
        rw [wid (by omega) (by omega)]
        exact ih (d + 1) (by omega) (by omega) (by omega)
    · rw [hw]; rfl
theorem prime_impl (p : Int) (hp : p ≤ 9223372036854775807) : Ev (fun k => impl_isPrime.f k p) (isP p) := by
  by_cases h : 3 ≤ p ∧ p ≤ 61
  · obtain ⟨n, rfl⟩ := Int.eq_ofNat_of_zero_le (show 0 ≤ p by omega)
    exact Ev.of (impl_isPrime.mono _) (prime_in n (by omega) (by omega)).1
  · rw [isP_out h]
    by_cases h2 : p < 3
    · refine ⟨1, fun k hk => ?_⟩
      obtain ⟨k, rfl⟩ : ∃ m, k = m + 1 := ⟨k - 1, by omega⟩
      show impl_isPrime.f (k + 1) p = some false
      unfold impl_isPrime.f
      rw [impl_isPrime.l0, if_neg (by rw [wid (by omega) (by omega)]; omega), within_eq, decide_eq_false (by omega)]
      rfl
    · refine Ev.of (impl_isPrime.mono _) (k := (p - 2).toNat + 1) ?_
      exact prime_out_l p (by omega) hp _ 2 (by omega) (by omega) (by omega)
theorem prime_spec (p : Int) : Ev (fun k => spec_l03Prime.f k p) (isP p) := by
  by_cases h : 3 ≤ p ∧ p ≤ 61
  · obtain ⟨n, rfl⟩ := Int.eq_ofNat_of_zero_le (show 0 ≤ p by omega)
    exact Ev.of (spec_l03Prime.mono _) (prime_in n (by omega) (by omega)).2
  · rw [isP_out h]
    refine Ev.const (fun k => ?_)
    unfold spec_l03Prime.f
    rw [in_eq, decide_eq_false h]
    rfl
/-- Is there a character with a prime and an order? -/
def okPN (p n : Int) : Bool := isP p && (decide (1 ≤ n ∧ n ≤ 16) && decide (Int.tmod (p - 1) n = 0))
theorem okPN_range {p n : Int} (h : okPN p n = true) : 3 ≤ p ∧ p ≤ 61 ∧ 1 ≤ n ∧ n ≤ 16 := by
  simp only [okPN, Bool.and_eq_true, decide_eq_true_eq] at h
  have := isP_range h.1
  omega
theorem areOf_impl (p n : Int) (hp : p ≤ 9223372036854775807) : Ev (fun k => impl_areOf.f k p n) (okPN p n) := by
  simp only [impl_areOf.f, impl_isOrder.f, within_eq, Option.bind_some]
  refine Ev.bind (prime_impl p hp) ?_
  cases hP : isP p with
  | false => exact Ev.val (Ev.const fun _ => rfl) (by simp [okPN, hP])
  | true =>
    obtain ⟨p1, p2⟩ := isP_range hP
    simp only [if_true]
    by_cases h : 1 ≤ n ∧ n ≤ 16
    · simp only [decide_eq_true h, if_true, if_neg (show ¬ n = 0 by omega), wid (show -9223372036854775808 ≤ p - 1 by omega) (show p - 1 ≤ 9223372036854775807 by omega)]
      exact Ev.val (Ev.now _) (by simp [okPN, hP, h]; rfl)
    · simp only [decide_eq_false h]
      exact Ev.val (Ev.now _) (by simp [okPN, hP, h])
def isChar (p n w : Int) : Bool := okPN p n && decide (0 ≤ w ∧ w ≤ n - 1)
theorem order_spec (p n : Int) (h1 : 3 ≤ p ∧ p ≤ 61) : spec_l03Order.f p n = some (decide (1 ≤ n ∧ n ≤ 16) && decide (Int.tmod (p - 1) n = 0)) := by
  unfold spec_l03Order.f
  rw [in_eq, Option.bind_some, wid (by omega) (by omega)]
  by_cases h : 1 ≤ n ∧ n ≤ 16
  · rw [if_pos (by simp [h]), if_neg (by omega)]
    simp [h]; rfl
  · simp [h]
theorem ischar_spec (p n w : Int) : Ev (fun k => spec_l03Is.f k p n w) (isChar p n w) := by
  simp only [spec_l03Is.f]
  refine Ev.bind (prime_spec p) ?_
  cases hP : isP p with
  | false => exact Ev.val (Ev.const fun _ => rfl) (by simp [isChar, okPN, hP])
  | true =>
    simp only [if_true, order_spec p n (isP_range hP), in_eq, Option.bind_some]
    by_cases h : 1 ≤ n ∧ n ≤ 16
    · rw [wid (show -9223372036854775808 ≤ n - 1 by omega) (show n - 1 ≤ 9223372036854775807 by omega)]
      refine Ev.const fun _ => ?_
      by_cases e : Int.tmod (p - 1) n = 0 <;> simp [isChar, okPN, hP, h, e]
    · exact Ev.const fun _ => by simp [isChar, okPN, hP, h]
theorem ischar_impl (p n w : Int) (hp : p ≤ 9223372036854775807) : Ev (fun k => impl_IsCharacter.f k p n w) (isChar p n w) := by
  simp only [impl_IsCharacter.f]
  refine Ev.bind (areOf_impl p n hp) ?_
  cases hP : okPN p n with
  | false => exact Ev.val (Ev.const fun _ => rfl) (by simp [isChar, hP])
  | true =>
    obtain ⟨_, _, h1, h2⟩ := okPN_range hP
    simp only [if_true, within_eq, Option.bind_some, wid (show -9223372036854775808 ≤ n - 1 by omega) (show n - 1 ≤ 9223372036854775807 by omega)]
    exact Ev.val (Ev.now _) (by simp [isChar, hP])
/-- The code of two characters. -/
def pairC (p n w p' n' w' : Int) : Int := if (isChar p n w && isChar p' n' w') = true then (if p = p' then (if n = n' then 0 else 2) else 2) else 1
theorem like_j0 (b : Bool) (p n w p' n' w' : Int) : Ev (fun k => spec_l03Like.j0 k b p n w p' n' w') (if b = true then 1 else if p = p' then (if n = n' then 0 else 2) else 2) := by
  refine Ev.step (fun k => rfl) ?_
  simp only [spec_l03Like.j0]
  refine Ev.const fun _ => ?_
  repeat' split
  all_goals rfl
theorem like_spec (p n w p' n' w' : Int) : Ev (fun k => spec_l03Like.f k p n w p' n' w') (pairC p n w p' n' w') := by
  simp only [spec_l03Like.f]
  refine Ev.bind (ischar_spec p n w) ?_
  cases h : isChar p n w with
  | false =>
    simp only [Bool.false_eq_true, if_false]
    exact Ev.val (like_j0 true p n w p' n' w') (by simp [pairC, h])
  | true =>
    simp only [if_true]
    refine Ev.bind (ischar_spec p' n' w') ?_
    exact Ev.val (like_j0 _ p n w p' n' w') (by cases h' : isChar p' n' w' <;> simp [pairC, h, h'])
theorem pair_j0 (b : Bool) (p n w p' n' w' : Int) : Ev (fun k => impl_pairCode.j0 k b p n w p' n' w') (if b = true then 1 else if p = p' then (if n = n' then 0 else 2) else 2) := by
  refine Ev.step (fun k => rfl) ?_
  simp only [impl_pairCode.j0]
  refine Ev.const fun _ => ?_
  repeat' split
  all_goals rfl
theorem pair_impl (p n w p' n' w' : Int) (hp : p ≤ 9223372036854775807) (hp' : p' ≤ 9223372036854775807) : Ev (fun k => impl_pairCode.f k p n w p' n' w') (pairC p n w p' n' w') := by
  simp only [impl_pairCode.f]
  refine Ev.bind (ischar_impl p n w hp) ?_
  cases h : isChar p n w with
  | false =>
    simp only [Bool.false_eq_true, if_false]
    exact Ev.val (pair_j0 true p n w p' n' w') (by simp [pairC, h])
  | true =>
    simp only [if_true]
    refine Ev.bind (ischar_impl p' n' w' hp') ?_
    exact Ev.val (pair_j0 _ p n w p' n' w') (by cases h' : isChar p' n' w' <;> simp [pairC, h, h'])
theorem pairC_0 {p n w p' n' w' : Int} (h : pairC p n w p' n' w' = 0) : isChar p n w = true ∧ isChar p' n' w' = true ∧ p = p' ∧ n = n' := by
  unfold pairC at h
  by_cases h1 : (isChar p n w && isChar p' n' w') = true
  · rw [if_pos h1] at h
    simp only [Bool.and_eq_true] at h1
    by_cases h2 : p = p'
    · rw [if_pos h2] at h
      by_cases h3 : n = n'
      · exact ⟨h1.1, h1.2, h2, h3⟩
      · rw [if_neg h3] at h; cases h
    · rw [if_neg h2] at h; cases h
  · rw [if_neg h1] at h; cases h
theorem isChar_range {p n w : Int} (h : isChar p n w = true) : 1 ≤ n ∧ n ≤ 16 ∧ 0 ≤ w ∧ w < n := by
  simp only [isChar, Bool.and_eq_true, decide_eq_true_eq] at h
  have := okPN_range h.1
  omega
theorem all_prod : ∀ n : Nat, n < 17 → 1 ≤ n → ∀ w : Nat, w < n → ∀ v : Nat, v < n → Int.tmod (wrap64 ((w : Int) + (v : Int))) (n : Int) = Int.tmod (wrap64 ((Int.tmod (wrap64 ((w : Int) + (v : Int))) (n : Int)) + (n : Int))) (n : Int) := by decide +kernel
theorem FnExactMultiplyCharacters : laws_FnExactMultiplyCharacters.Pure := by
  intro p n w p' n' w' hp hn hw hp' hn' hw'
  obtain ⟨p1, p2⟩ := wfb hp
  obtain ⟨q1, q2⟩ := wfb hp'
  refine Ev.rounds (g := fun k => laws_FnExactMultiplyCharacters.f k p n w p' n' w') ?_
  simp only [laws_FnExactMultiplyCharacters.f, laws_toCharacter.f, Option.bind_some, spec_MultiplyCharacters.f, impl_MultiplyCharacters.f]
  obtain ⟨r, hr, hr2⟩ : ∃ r : Int × Int × Int × Int, (if pairC p n w p' n' w' = 0 then ((spec_l03Times.f p n w p' n' w').bind fun bt => (some (bt.1, bt.2.1, bt.2.2, (0 : Int)))) else (some (0, 0, 0, pairC p n w p' n' w'))) = some r ∧
      (if pairC p n w p' n' w' = 0 then ((impl_withPower.f p n w (wrap64 (w + w'))).bind fun bt => (some (bt.1, bt.2.1, bt.2.2, (0 : Int)))) else (some (0, 0, 0, pairC p n w p' n' w'))) = some r := by
    by_cases h : pairC p n w p' n' w' = 0
    · obtain ⟨h1, h2, h3, h4⟩ := pairC_0 h
      subst h4
      have a1 := isChar_range h1
      have a2 := isChar_range h2
      obtain ⟨m, rfl⟩ := Int.eq_ofNat_of_zero_le (show 0 ≤ n by omega)
      obtain ⟨v, rfl⟩ := Int.eq_ofNat_of_zero_le (show 0 ≤ w by omega)
      obtain ⟨v', rfl⟩ := Int.eq_ofNat_of_zero_le (show 0 ≤ w' by omega)
      have hb := all_prod m (by omega) (by omega) v (by omega) v' (by omega)
      have hm : ¬ ((m : Int) = 0) := by omega
      refine ⟨(p, (m : Int), Int.tmod (wrap64 ((v : Int) + (v' : Int))) (m : Int), 0), ?_, ?_⟩
      · rw [if_pos h]; unfold spec_l03Times.f; rw [if_neg hm]; rfl
      · rw [if_pos h]; unfold impl_withPower.f impl_around.f; rw [if_neg hm, ← hb]; rfl
    · exact ⟨_, by rw [if_neg h], by rw [if_neg h]⟩
  refine Ev.bind (Ev.bind (like_spec p n w p' n' w') (Ev.const fun _ => hr)) ?_
  exact Ev.bind (Ev.bind (pair_impl p n w p' n' w' p2 q2) (Ev.const fun _ => hr2)) (Ev.const fun _ => by simp [laws_eqCharacter.f])

end Go.Proofs.Ytamdeiclkaopmaa.Pure
