/- The count of the solutions none of which is zero, as the program and as the reference reckon it, for all arguments. No condition. -/
import Derived.Test.YtgabpiaghpeakaaXFnExactCountFullx6
namespace Go.Proofs.Ytgabpiaghpeakaa.Pure
open Go.RowKit Go.Proofs.Ytgabpiaghpeakaa.XFnExactCountFull Go.Proofs.YtgabpiaghpeakaaW.PrintWords Go.Proofs.YtgabpiaghpeakaaW.PrintLast
set_option linter.unusedVariables false
set_option linter.unusedSimpArgs false

theorem wfb {a : Int} (h : (Lit.int .i64 a).wf = true) : -9223372036854775808 ≤ a ∧ a ≤ 9223372036854775807 := by
  simp only [Lit.wf, IntKind.min, IntKind.max, IntKind.signed, IntKind.bits, Bool.and_eq_true, decide_eq_true_eq, if_true] at h
  omega
theorem wid {a : Int} (h1 : -9223372036854775808 ≤ a) (h2 : a ≤ 9223372036854775807) : wrap64 a = a := by
  unfold wrap64; omega
theorem Ev.const {α : Type} {g : Nat → Option α} {r : α} (h : ∀ k, g k = some r) : Ev g r := ⟨0, fun k _ => h k⟩
theorem Ev.if_pos {α : Type} {c : Prop} [Decidable c] {f g : Nat → Option α} {r : α} (hc : c) (h : Ev f r) : Ev (fun k => if c then f k else g k) r :=
  Ev.congr (fun k => _root_.if_pos hc) h
theorem Ev.if_neg {α : Type} {c : Prop} [Decidable c] {f g : Nat → Option α} {r : α} (hc : ¬ c) (h : Ev g r) : Ev (fun k => if c then f k else g k) r :=
  Ev.congr (fun k => _root_.if_neg hc) h
theorem Ev.val {α : Type} {f : Nat → Option α} {r s : α} (h : Ev f r) (e : r = s) : Ev f s := e ▸ h
theorem within_eq (a b c : Int) : impl_within.f a b c = some (decide (b ≤ a ∧ a ≤ c)) := by
  unfold impl_within.f
  by_cases h : b ≤ a <;> simp [h]
theorem in_eq (a b c : Int) : spec_l01In.f a b c = some (decide (b ≤ a ∧ a ≤ c)) := by
  unfold spec_l01In.f
  by_cases h : b ≤ a <;> simp [h]
def isP (p : Int) : Bool := [3, 5, 7, 11, 13, 17, 19, 23, 29, 31, 37, 41, 43, 47, 53, 59, 61].contains p
theorem isP_range {p : Int} (h : isP p = true) : 3 ≤ p ∧ p ≤ 61 := by
  simp [isP] at h; omega
theorem isP_out {p : Int} (h : ¬ (3 ≤ p ∧ p ≤ 61)) : isP p = false := by
  cases e : isP p with
  | false => rfl
  | true => exact absurd (isP_range e) h
theorem prime_in : ∀ n : Nat, n < 62 → 3 ≤ n → impl_isPrime.f 10 (n : Int) = some (isP (n : Int)) ∧ spec_l06Prime.f 10 (n : Int) = some (isP (n : Int)) := by decide +kernel
theorem prime_out_l (p : Int) (hp : 62 ≤ p) (hp2 : p ≤ 9223372036854775807) : ∀ (n : Nat) (d : Int), 2 ≤ d → d ≤ p → p - d ≤ n → impl_isPrime.l0 (n + 1) p d = some false := by
  have hw : impl_within.f p 3 61 = some false := by rw [within_eq, decide_eq_false (by omega)]
  intro n
  induction n with
  | zero =>
    intro d h1 h2 h3
    obtain rfl : d = p := by omega
    simp only [impl_isPrime.l0]
    split
    · rw [if_neg (by omega), if_pos (Int.tmod_self)]
    · rw [hw]; rfl
  | succ n ih =>
    intro d h1 h2 h3
    rw [impl_isPrime.l0]
    split
    · rw [if_neg (by omega)]
      by_cases e : Int.tmod p d = 0
      · rw [if_pos e]
      · rw [if_neg e]
        have hd : d ≠ p := fun e' => e (by rw [e']; exact Int.tmod_self)
        rw [wid (by omega) (by omega)]
        exact ih (d + 1) (by omega) (by omega) (by omega)
    · rw [hw]; rfl
theorem prime_impl (p : Int) (hp : p ≤ 9223372036854775807) : Ev (fun k => impl_isPrime.f k p) (isP p) := by
  by_cases h : 3 ≤ p ∧ p ≤ 61
  · obtain ⟨n, rfl⟩ := Int.eq_ofNat_of_zero_le (show 0 ≤ p by omega)
    exact Ev.of (impl_isPrime.mono _) (prime_in n (by omega) (by omega)).1
  · rw [isP_out h]
    by_cases h2 : p < 3
    · refine ⟨1, fun k hk => ?_⟩
      obtain ⟨k, rfl⟩ : ∃ m, k = m + 1 := ⟨k - 1, by omega⟩
      show impl_isPrime.f (k + 1) p = some false
      unfold impl_isPrime.f
      rw [impl_isPrime.l0, if_neg (by rw [wid (by omega) (by omega)]; omega), within_eq, decide_eq_false (by omega)]
      rfl
    · refine Ev.of (impl_isPrime.mono _) (k := (p - 2).toNat + 1) ?_
      exact prime_out_l p (by omega) hp _ 2 (by omega) (by omega) (by omega)
theorem prime_spec (p : Int) : Ev (fun k => spec_l06Prime.f k p) (isP p) := by
  by_cases h : 3 ≤ p ∧ p ≤ 61
  · obtain ⟨n, rfl⟩ := Int.eq_ofNat_of_zero_le (show 0 ≤ p by omega)
    exact Ev.of (spec_l06Prime.mono _) (prime_in n (by omega) (by omega)).2
  · rw [isP_out h]
    refine Ev.const (fun k => ?_)
    unfold spec_l06Prime.f
    rw [in_eq, decide_eq_false h]
    rfl

theorem rd_get (l : List Int) (i : Nat) : rd l (i : Int) = l.getD i 0 := by simp [rd]
def btw (a b x : Int) : Bool := decide (a ≤ x ∧ x ≤ b)
theorem code_l (l : List Int) (hl : l.length ≤ 1048576) : ∀ (d i : Nat), l.length - i ≤ d → i ≤ l.length → Ev (fun k => spec_l08Code.l0 k l (i : Int)) (if (l.drop i).all (btw 1 60) = true then 0 else 2) := by
  intro d
  induction d with
  | zero =>
    intro i h h2
    refine Ev.step (fun k => rfl) ?_
    simp only [spec_l08Code.l0]
    exact Ev.if_neg (by omega) (Ev.val (Ev.now _) (by rw [List.drop_eq_nil_of_le (by omega)]; rfl))
  | succ d ih =>
    intro i h h2
    refine Ev.step (fun k => rfl) ?_
    by_cases g : i < l.length
    · have ew : wrap64 ((i : Int) + 1) = ((i + 1 : Nat) : Int) := by rw [wid (by omega) (by omega)]; omega
      have e : rd l (i : Int) = l[i] := by rw [rd_get, List.getD_eq_getElem?_getD, List.getElem?_eq_getElem g, Option.getD_some]
      simp only [spec_l08Code.l0, ew, in_eq, Option.bind_some, e]
      refine Ev.if_pos (by omega) (Ev.if_pos (by omega) ?_)
      rw [List.drop_eq_getElem_cons g, List.all_cons]
      by_cases z : 1 ≤ l[i] ∧ l[i] ≤ 60
      · exact Ev.if_pos (by simpa using z) (Ev.val (ih (i + 1) (by omega) (by omega)) (by simp [btw, z]))
      · exact Ev.if_neg (by simpa using z) (Ev.val (Ev.now _) (by simp [btw, z]))
    · simp only [spec_l08Code.l0]
      exact Ev.if_neg (by omega) (Ev.val (Ev.now _) (by rw [List.drop_eq_nil_of_le (by omega)]; rfl))
theorem given_l (p : Int) (hp : 3 ≤ p ∧ p ≤ 61) (l : List Int) (hl : l.length ≤ 1048576) : ∀ (d i : Nat), l.length - i ≤ d → i ≤ l.length → Ev (fun k => spec_l08Given.l0 k p l 0 (i : Int)) (if (l.drop i).all (btw 1 (p - 1)) = true then 0 else 2) := by
  have two : ∀ i : Int, Ev (fun k => spec_l08Given.l0 k p l 2 i) 2 := by
    intro i
    refine Ev.step (fun k => rfl) ?_
    simp only [spec_l08Given.l0]
    by_cases g : i < (l.length : Int)
    · exact Ev.if_pos g (Ev.step (fun k => rfl) (Ev.const fun _ => rfl))
    · exact Ev.if_neg g (Ev.step (fun k => rfl) (Ev.const fun _ => rfl))
  intro d
  induction d with
  | zero =>
    intro i h h2
    refine Ev.step (fun k => rfl) ?_
    simp only [spec_l08Given.l0]
    exact Ev.if_neg (by omega) (Ev.step (fun k => rfl) (Ev.val (Ev.const fun _ => rfl) (by rw [List.drop_eq_nil_of_le (by omega)]; rfl)))
  | succ d ih =>
    intro i h h2
    refine Ev.step (fun k => rfl) ?_
    by_cases g : i < l.length
    · have ew : wrap64 ((i : Int) + 1) = ((i + 1 : Nat) : Int) := by rw [wid (by omega) (by omega)]; omega
      have e : rd l (i : Int) = l[i] := by rw [rd_get, List.getD_eq_getElem?_getD, List.getElem?_eq_getElem g, Option.getD_some]
      simp only [spec_l08Given.l0]
      refine Ev.if_pos (by omega) (Ev.step (fun k => rfl) ?_)
      simp only [spec_l08Given.j3, ew, in_eq, Option.bind_some, e, wid (show -9223372036854775808 ≤ p - 1 by omega) (by omega)]
      refine Ev.if_pos (by first | trivial | rfl) (Ev.if_pos (by omega) (Ev.if_pos (by omega) ?_))
      rw [List.drop_eq_getElem_cons g, List.all_cons]
      by_cases z : 1 ≤ l[i] ∧ l[i] ≤ p - 1
      · exact Ev.if_pos (by simpa using z) (Ev.val (ih (i + 1) (by omega) (by omega)) (by simp [btw, z]))
      · exact Ev.if_neg (by simpa using z) (Ev.val (two _) (by simp [btw, z]))
    · simp only [spec_l08Given.l0]
      exact Ev.if_neg (by omega) (Ev.step (fun k => rfl) (Ev.val (Ev.const fun _ => rfl) (by rw [List.drop_eq_nil_of_le (by omega)]; rfl)))
/-- May it be asked? -/
def okEq (p : Int) (l1 l2 : List Int) (v : Int) : Bool := isP p && (l2.all (btw 1 60) && (decide (1 ≤ l1.length ∧ l1.length ≤ 4) && (decide (l1.length = l2.length) && (btw 0 (p - 1) v && l1.all (btw 1 (p - 1))))))
theorem given_ev (p : Int) (l1 l2 : List Int) (v : Int) (h1 : l1.length ≤ 1048576) (h2 : l2.length ≤ 1048576) : Ev (fun k => spec_l08Given.f k p l1 l2 v) (if okEq p l1 l2 v = true then 0 else 2) := by
  have j0t : ∀ c, Ev (fun k => spec_l08Given.j0 k p l1 c true) (if (c = 0 ∧ False) then 0 else 2) := by
    intro c
    refine Ev.step (fun k => rfl) ?_
    simp only [spec_l08Given.j0]
    refine Ev.if_pos (by first | trivial | rfl) (Ev.step (fun k => rfl) ?_)
    simp only [spec_l08Given.j1]
    refine Ev.step (fun k => rfl) ?_
    simp only [spec_l08Given.l0]
    by_cases g : (0 : Int) < (l1.length : Int)
    · exact Ev.if_pos g (Ev.step (fun k => rfl) (Ev.val (Ev.const fun _ => rfl) (by simp)))
    · exact Ev.if_neg g (Ev.step (fun k => rfl) (Ev.val (Ev.const fun _ => rfl) (by simp)))
  have j0f : Ev (fun k => spec_l08Given.j0 k p l1 2 false) 2 := by
    refine Ev.step (fun k => rfl) ?_
    simp only [spec_l08Given.j0]
    refine Ev.if_neg (by simp) (Ev.step (fun k => rfl) ?_)
    simp only [spec_l08Given.j1]
    refine Ev.step (fun k => rfl) ?_
    simp only [spec_l08Given.l0]
    by_cases g : (0 : Int) < (l1.length : Int)
    · exact Ev.if_pos g (Ev.step (fun k => rfl) (Ev.const fun _ => rfl))
    · exact Ev.if_neg g (Ev.step (fun k => rfl) (Ev.const fun _ => rfl))
  simp only [spec_l08Given.f, spec_l08Code.f]
  cases hP : isP p with
  | false =>
    have hs := prime_spec p
    rw [hP] at hs
    refine Ev.bind (a := 2) (Ev.bind hs (Ev.const fun _ => rfl)) (Ev.if_neg (by omega) (Ev.val j0f ?_))
    simp [okEq, hP]
  | true =>
    have hr := isP_range hP
    have hs := prime_spec p
    rw [hP] at hs
    refine Ev.bind (Ev.bind hs (Ev.if_pos rfl (code_l l2 h2 l2.length 0 (by omega) (by omega)))) ?_
    rw [List.drop_zero]
    cases h3 : l2.all (btw 1 60) with
    | false => exact Ev.if_neg (by simp) (Ev.val (by simpa using j0f) (by simp [okEq, h3]))
    | true =>
      refine Ev.if_pos (by first | trivial | rfl) ?_
      simp only [if_true]
      by_cases c1 : 1 ≤ l1.length ∧ l1.length ≤ 4
      · refine Ev.if_neg (by omega) (Ev.if_neg (by omega) ?_)
        by_cases c2 : l1.length = l2.length
        · refine Ev.if_pos (by omega) ?_
          simp only [in_eq, Option.bind_some, wid (show -9223372036854775808 ≤ p - 1 by omega) (show p - 1 ≤ 9223372036854775807 by omega)]
          by_cases c3 : 0 ≤ v ∧ v ≤ p - 1
          · simp only [decide_eq_true c3, Bool.not_true]
            refine Ev.step (fun k => rfl) ?_
            simp only [spec_l08Given.j0]
            refine Ev.if_neg (by simp) (Ev.step (fun k => rfl) ?_)
            simp only [spec_l08Given.j1]
            refine Ev.val (given_l p hr l1 h1 l1.length 0 (by omega) (by omega)) ?_
            rw [List.drop_zero]
            have c4 : btw 0 (p - 1) v = true := decide_eq_true c3
            unfold okEq
            rw [hP, h3, decide_eq_true c1, decide_eq_true c2, c4]
            rfl
          · simp only [decide_eq_false c3, Bool.not_false]
            exact Ev.val (j0t 0) (by simp [okEq, c3, btw])
        · exact Ev.if_neg (by omega) (Ev.val (j0t 0) (by simp [okEq, c2]))
      · by_cases c0 : l1.length < 1
        · exact Ev.if_pos (by omega) (Ev.val (j0t 0) (by simp [okEq, c1]))
        · exact Ev.if_neg (by omega) (Ev.if_pos (by omega) (Ev.val (j0t 0) (by simp [okEq, c1])))
theorem iseq_l (p : Int) (hp : 3 ≤ p ∧ p ≤ 61) (l1 l2 : List Int) (hl : l1.length ≤ 4) (he : l1.length = l2.length) : ∀ (d i : Nat), l1.length - i ≤ d → i ≤ l1.length → Ev (fun k => impl_isEquation.l0 k p l2 l1 (l1.length : Int) (i : Int)) ((l1.drop i).all (btw 1 (p - 1)) && (l2.drop i).all (btw 1 60)) := by
  intro d
  induction d with
  | zero =>
    intro i h h2
    refine Ev.step (fun k => rfl) ?_
    simp only [impl_isEquation.l0]
    exact Ev.if_neg (by omega) (Ev.val (Ev.now _) (by rw [List.drop_eq_nil_of_le (by omega), List.drop_eq_nil_of_le (by omega)]; rfl))
  | succ d ih =>
    intro i h h2
    refine Ev.step (fun k => rfl) ?_
    by_cases g : i < l1.length
    · have g2 : i < l2.length := by omega
      have ew : wrap64 ((i : Int) + 1) = ((i + 1 : Nat) : Int) := by rw [wid (by omega) (by omega)]; omega
      have e : rd l1 (i : Int) = l1[i] := by rw [rd_get, List.getD_eq_getElem?_getD, List.getElem?_eq_getElem g, Option.getD_some]
      have e2 : rd l2 (i : Int) = l2[i] := by rw [rd_get, List.getD_eq_getElem?_getD, List.getElem?_eq_getElem g2, Option.getD_some]
      simp only [impl_isEquation.l0, ew, within_eq, impl_isExponent.f, Option.bind_some, e, e2, wid (show -9223372036854775808 ≤ p - 1 by omega) (show p - 1 ≤ 9223372036854775807 by omega)]
      rw [List.drop_eq_getElem_cons g, List.drop_eq_getElem_cons g2, List.all_cons, List.all_cons]
      refine Ev.if_pos (by omega) (Ev.if_pos (by omega) (Ev.if_pos (by omega) ?_))
      by_cases z : 1 ≤ l1[i] ∧ l1[i] ≤ p - 1
      · refine Ev.if_pos (by simpa using z) (Ev.if_pos (by omega) ?_)
        by_cases z2 : 1 ≤ l2[i] ∧ l2[i] ≤ 60
        · exact Ev.if_pos (by simpa using z2) (Ev.val (ih (i + 1) (by omega) (by omega)) (by simp [btw, z, z2]))
        · exact Ev.if_neg (by simpa using z2) (Ev.val (Ev.now _) (by simp [btw, z2]))
      · exact Ev.if_neg (by simpa using z) (Ev.val (Ev.now _) (by simp [btw, z]))
    · simp only [impl_isEquation.l0]
      exact Ev.if_neg (by omega) (Ev.val (Ev.now _) (by rw [List.drop_eq_nil_of_le (by omega), List.drop_eq_nil_of_le (by omega)]; rfl))
theorem iseq_ev (p : Int) (l1 l2 : List Int) (v : Int) (hp : p ≤ 9223372036854775807) : Ev (fun k => impl_isEquation.f k p l1 l2 v) (okEq p l1 l2 v) := by
  have j0t : Ev (fun k => impl_isEquation.j0 k p l1 l2 true) false := Ev.step (fun k => rfl) (Ev.const fun _ => rfl)
  have hi := prime_impl p hp
  simp only [impl_isEquation.f, within_eq, Option.bind_some]
  cases hP : isP p with
  | false =>
    rw [hP] at hi
    exact Ev.bind hi (Ev.if_neg (by simp) (Ev.val j0t (by simp [okEq, hP])))
  | true =>
    have hr := isP_range hP
    rw [hP] at hi
    refine Ev.bind hi (Ev.if_pos rfl ?_)
    rw [wid (show -9223372036854775808 ≤ p - 1 by omega) (show p - 1 ≤ 9223372036854775807 by omega)]
    by_cases c1 : 1 ≤ l1.length ∧ l1.length ≤ 4
    · refine Ev.if_pos (by rw [decide_eq_true]; omega) ?_
      by_cases c2 : l1.length = l2.length
      · refine Ev.if_pos (by omega) ?_
        by_cases c3 : 0 ≤ v ∧ v ≤ p - 1
        · simp only [decide_eq_true c3, Bool.not_true]
          refine Ev.step (fun k => rfl) ?_
          simp only [impl_isEquation.j0]
          refine Ev.if_neg (by simp) (Ev.val (iseq_l p hr l1 l2 c1.2 c2 l1.length 0 (by omega) (by omega)) ?_)
          rw [List.drop_zero, List.drop_zero]
          simp only [okEq, hP, decide_eq_true c1, decide_eq_true c2, btw, decide_eq_true c3, Bool.true_and]
          exact Bool.and_comm _ _
        · simp only [decide_eq_false c3, Bool.not_false]
          exact Ev.val j0t (by simp [okEq, c3, btw])
      · exact Ev.if_neg (by omega) (Ev.val j0t (by simp [okEq, c2]))
    · exact Ev.if_neg (by rw [decide_eq_false (by omega)]; simp) (Ev.val j0t (by simp [okEq, c1]))


theorem eqI_l (a b : List Int) (h : a.length = b.length) (ha : a.length ≤ 1048576) : ∀ (n i : Nat), i ≤ a.length → (∀ j, j < i → a[j]? = b[j]?) → a.length - i ≤ n → laws_eqInt64S.l0 (n + 1) a b (i : Int) = some (decide (a = b)) := by
  have fin : ∀ i : Nat, (∀ j, j < i → a[j]? = b[j]?) → a.length ≤ i → a = b := by
    intro i hj hi
    apply List.ext_getElem? fun j => ?_
    by_cases h' : j < a.length
    · exact hj j (by omega)
    · rw [List.getElem?_eq_none (by omega), List.getElem?_eq_none (by omega)]
  intro n
  induction n with
  | zero =>
    intro i hi hj hn
    rw [laws_eqInt64S.l0, if_neg (by omega), decide_eq_true (fin i hj (by omega))]
  | succ n ih =>
    intro i hi hj hn
    rw [laws_eqInt64S.l0]
    by_cases h' : i < a.length
    · rw [if_pos (by omega), if_pos (by omega), if_pos (by omega), rd_get, rd_get, wid (by omega) (by omega)]
      have ga : a[i]? = some (a.getD i 0) := by rw [List.getD_eq_getElem?_getD, List.getElem?_eq_getElem h']; rfl
      have gb : b[i]? = some (b.getD i 0) := by rw [List.getD_eq_getElem?_getD, List.getElem?_eq_getElem (by omega : i < b.length)]; rfl
      by_cases e : a.getD i 0 = b.getD i 0
      · rw [if_pos e]
        have := ih (i + 1) (by omega) (fun j hjlt => ?_) (by omega)
        · simpa using this
        · by_cases e' : j = i
          · rw [e', ga, gb, e]
          · exact hj j (by omega)
      · rw [if_neg e, decide_eq_false]
        intro e'
        exact e (by rw [e'])
    · rw [if_neg (by omega), decide_eq_true (fin i hj (by omega))]
/-- Two lists are held against each other. -/
theorem eqI (a b : List Int) (ha : a.length ≤ 1048576) : Ev (fun k => laws_eqInt64S.f k a b) (decide (a = b)) := by
  refine Ev.of (laws_eqInt64S.mono a b) (k := a.length + 1) ?_
  unfold laws_eqInt64S.f
  by_cases h : a.length = b.length
  · rw [if_pos (by omega)]
    exact eqI_l a b h ha a.length 0 (by omega) (fun j hj => absurd hj (by omega)) (by omega)
  · rw [if_neg (by omega), decide_eq_false]
    intro e
    exact h (by rw [e])

theorem toI_l (l : List Int) (hl : l.length ≤ 1048576) : ∀ (n i : Nat) (x : List Int), x.length = l.length → i ≤ l.length → (∀ j, j < i → x[j]? = l[j]?) → l.length - i ≤ n → laws_toInt64S.l0 (n + 1) l x (i : Int) = some l := by
  have fin : ∀ (i : Nat) (x : List Int), x.length = l.length → (∀ j, j < i → x[j]? = l[j]?) → l.length ≤ i → x = l := by
    intro i x hx hj hi
    apply List.ext_getElem? fun j => ?_
    by_cases h : j < l.length
    · exact hj j (by omega)
    · rw [List.getElem?_eq_none (by omega), List.getElem?_eq_none (by omega)]
  intro n
  induction n with
  | zero =>
    intro i x hx hi hj hn
    rw [laws_toInt64S.l0, if_neg (by omega), fin i x hx hj (by omega)]
  | succ n ih =>
    intro i x hx hi hj hn
    rw [laws_toInt64S.l0]
    by_cases h : i < l.length
    · rw [if_pos (by omega), if_pos (by omega), if_pos (by omega), wid (by omega) (by omega)]
      have := ih (i + 1) (x.set i (rd l (i : Int))) (by simpa using hx) (by omega) (fun j hjlt => ?_) (by omega)
      · simpa using this
      · by_cases e : j = i
        · subst e
          rw [List.getElem?_set_self (by omega), rd_get, List.getD_eq_getElem?_getD, List.getElem?_eq_getElem h]
          rfl
        · rw [List.getElem?_set_ne (fun e' => e e'.symm)]
          exact hj j (by omega)
    · rw [if_neg (by omega), fin i x hx hj (by omega)]
theorem toI (l : List Int) (hl : l.length ≤ 1048576) : Ev (fun k => laws_toInt64S.f k l) l := by
  refine Ev.of (laws_toInt64S.mono l) (k := l.length + 1) ?_
  unfold laws_toInt64S.f
  rw [if_pos (by omega), if_pos (by simp; omega)]
  exact toI_l l hl l.length 0 _ (by simp) (by omega) (fun j hj => absurd hj (by omega)) (by omega)


theorem pow_mod (x m : Int) (n : Nat) : (x % m) ^ n % m = x ^ n % m := by
  induction n with
  | zero => rw [Int.pow_zero, Int.pow_zero]
  | succ n ih => rw [Int.pow_succ, Int.pow_succ, Int.mul_emod, ih, Int.emod_emod_of_dvd _ (Int.dvd_refl m), ← Int.mul_emod]
theorem sq_pow (b : Int) (n : Nat) : (b * b) ^ n = b ^ (n + n) := by
  induction n with
  | zero => rw [Int.pow_zero, Nat.add_zero, Int.pow_zero]
  | succ n ih => rw [Int.pow_succ, ih, show n + 1 + (n + 1) = n + n + 1 + 1 from by omega, Int.pow_succ, Int.pow_succ, Int.mul_assoc]
theorem prod_le {a b : Int} (ha : 0 ≤ a ∧ a ≤ 1000000) (hb : 0 ≤ b ∧ b ≤ 1000000) : 0 ≤ a * b ∧ a * b ≤ 1000000000000 := by
  have h1 : 0 ≤ a * b := Int.mul_nonneg ha.1 hb.1
  have h2 : a * b ≤ 1000000 * 1000000 := Int.mul_le_mul ha.2 hb.2 hb.1 (by omega)
  omega
theorem tmod_w {a m : Int} (ha : 0 ≤ a ∧ a ≤ 1000000000000) : Int.tmod (wrap64 a) m = a % m := by
  rw [wid (by omega) (by omega), Int.tmod_eq_emod_of_nonneg ha.1]
theorem around_n (b m : Int) (hm : 2 ≤ m ∧ m ≤ 1000000) (hb : 0 ≤ b) : impl_around.f b m = some (b % m) := by
  unfold impl_around.f
  have h2 := Int.emod_nonneg b (show m ≠ 0 by omega)
  have h3 := Int.emod_lt_of_pos b (show 0 < m by omega)
  rw [if_neg (by omega), Int.tmod_eq_emod_of_nonneg hb, tmod_w (by omega), Int.add_emod_right, Int.emod_emod_of_dvd _ (Int.dvd_refl m)]

/-- The power by one step after another. -/
theorem spow_l (m b : Int) (hm : 1 ≤ m ∧ m ≤ 1000000) (hb : 0 ≤ b ∧ b ≤ 1000000) : ∀ (e : Nat) (a : Int), e ≤ 1000000 → 0 ≤ a ∧ a < m → Ev (fun k => spec_l08Power.l0 k m b (e : Int) a) ((a * b ^ e) % m) := by
  intro e
  induction e with
  | zero =>
    intro a _ ha
    refine Ev.step (fun k => rfl) ?_
    simp only [spec_l08Power.l0]
    exact Ev.if_neg (by omega) (Ev.val (Ev.now _) (by rw [Int.pow_zero, Int.mul_one, Int.emod_eq_of_lt ha.1 ha.2]))
  | succ e ih =>
    intro a he ha
    have h1 := prod_le (a := a) (b := b) (by omega) hb
    have h2 := Int.emod_nonneg (a * b) (show m ≠ 0 by omega)
    have h3 := Int.emod_lt_of_pos (a * b) (show 0 < m by omega)
    have ew : wrap64 (((e + 1 : Nat) : Int) - 1) = (e : Int) := by rw [wid (by omega) (by omega)]; omega
    refine Ev.step (fun k => rfl) ?_
    simp only [spec_l08Power.l0, ew, tmod_w h1]
    refine Ev.if_pos (by omega) (Ev.if_neg (by omega) (Ev.val (ih _ (by omega) ⟨h2, h3⟩) ?_))
    rw [Int.pow_succ, Int.mul_comm (b ^ e) b, ← Int.mul_assoc, Int.mul_emod, Int.emod_emod_of_dvd _ (Int.dvd_refl m), ← Int.mul_emod]
theorem spow (m b : Int) (e : Nat) (hm : 2 ≤ m ∧ m ≤ 1000000) (hb : 0 ≤ b ∧ b ≤ 1000000) (he : e ≤ 1000000) : Ev (fun k => spec_l08Power.f k m b (e : Int)) (b ^ e % m) := by
  simp only [spec_l08Power.f]
  exact Ev.val (spow_l m b (by omega) hb e 1 he (by omega)) (by rw [Int.one_mul])
/-- The power by halves. -/
theorem ipow_l (m : Int) (hm : 2 ≤ m ∧ m ≤ 1000000) : ∀ (n e : Nat) (a b : Int), e ≤ n → e ≤ 1000000 → 0 ≤ a ∧ a < m → 0 ≤ b ∧ b < m → Ev (fun k => impl_power.l0 k b (e : Int) m a) ((a * b ^ e) % m) := by
  intro n
  have stop : ∀ (a b : Int), 0 ≤ a ∧ a < m → Ev (fun k => impl_power.l0 k b ((0 : Nat) : Int) m a) ((a * b ^ 0) % m) := by
    intro a b ha
    refine Ev.step (fun k => rfl) ?_
    simp only [impl_power.l0]
    exact Ev.if_neg (by omega) (Ev.val (Ev.now _) (by rw [Int.pow_zero, Int.mul_one, Int.emod_eq_of_lt ha.1 ha.2]))
  induction n with
  | zero =>
    intro e a b h _ ha _
    obtain rfl : e = 0 := by omega
    exact stop a b ha
  | succ n ih =>
    intro e a b h he ha hb
    by_cases z : e = 0
    · subst z; exact stop a b ha
    · have h1 := prod_le (a := b) (b := b) (by omega) (by omega)
      have h2 := prod_le (a := a) (b := b) (by omega) (by omega)
      have b1 := Int.emod_nonneg (b * b) (show m ≠ 0 by omega)
      have b2 := Int.emod_lt_of_pos (b * b) (show 0 < m by omega)
      have a1 := Int.emod_nonneg (a * b) (show m ≠ 0 by omega)
      have a2 := Int.emod_lt_of_pos (a * b) (show 0 < m by omega)
      have he1 : (e : Int) > 0 := by omega
      have he2 : e / 2 ≤ n := by omega
      have he3 : e / 2 ≤ 1000000 := by omega
      have hm0 : ¬ m = 0 := by omega
      have hev : ¬ e % 2 = 1 → e / 2 + e / 2 = e := by omega
      have hod : e % 2 = 1 → e = (e / 2 + e / 2).succ := by omega
      have e1 : Int.tmod (e : Int) 2 = ((e % 2 : Nat) : Int) := by rw [Int.tmod_eq_emod_of_nonneg (by omega)]; rfl
      have e2 : wrap64 (Int.tdiv (e : Int) 2) = ((e / 2 : Nat) : Int) := by rw [Int.tdiv_eq_ediv_of_nonneg (by omega), wid (by omega) (by omega)]; rfl
      refine Ev.step (fun k => rfl) ?_
      simp only [impl_power.l0, tmod_w h1, tmod_w h2, e1, e2]
      refine Ev.if_pos he1 ?_
      have key : ∀ (c : Int), (c * (b * b % m) ^ (e / 2)) % m = (c * b ^ (e / 2 + e / 2)) % m := by
        intro c
        rw [Int.mul_emod, pow_mod, ← Int.mul_emod, sq_pow]
      by_cases o : e % 2 = 1
      · have p : b ^ e = b ^ (e / 2 + e / 2) * b := by rw [← Int.pow_succ, ← hod o]
        refine Ev.if_pos (by rw [o]; rfl) (Ev.if_neg hm0 (Ev.val (ih (e / 2) _ _ he2 he3 ⟨a1, a2⟩ ⟨b1, b2⟩) ?_))
        rw [key, p, Int.mul_emod, Int.emod_emod_of_dvd _ (Int.dvd_refl m), ← Int.mul_emod, Int.mul_assoc, Int.mul_comm b]
      · refine Ev.if_neg (fun q => o (Int.ofNat.inj q)) (Ev.if_neg hm0 (Ev.val (ih (e / 2) _ _ he2 he3 ha ⟨b1, b2⟩) ?_))
        rw [key, hev o]
theorem ipow (m b : Int) (e : Nat) (hm : 2 ≤ m ∧ m ≤ 1000000) (hb : 0 ≤ b) (he : e ≤ 1000000) : Ev (fun k => impl_power.f k b (e : Int) m) (b ^ e % m) := by
  simp only [impl_power.f, around_n b m hm hb, Option.bind_some]
  have h2 := Int.emod_nonneg b (show m ≠ 0 by omega)
  have h3 := Int.emod_lt_of_pos b (show 0 < m by omega)
  have h1 : (1 : Int) % m = 1 := Int.emod_eq_of_lt (by omega) (by omega)
  refine Ev.if_neg (by omega) ?_
  rw [h1]
  exact Ev.val (ipow_l m hm e e 1 (b % m) (by omega) he (by omega) ⟨h2, h3⟩) (by rw [Int.one_mul, pow_mod])
/-- The e-th powers of 0.. p-1 by p. -/
def pows (p : Int) (e : Nat) : List Int := (List.range p.toNat).map fun (x : Nat) => (x : Int) ^ e % p
theorem pows_len (p : Int) (e : Nat) : (pows p e).length = p.toNat := by simp [pows]
theorem pows_at (p : Int) (e x : Nat) (h : x < (pows p e).length) : (pows p e)[x] = (x : Int) ^ e % p := by simp [pows]
theorem pows_bnd (p : Int) (e : Nat) (hp : 2 ≤ p) : ∀ t ∈ pows p e, 0 ≤ t ∧ t < p := by
  intro t ht
  simp only [pows, List.mem_map] at ht
  obtain ⟨x, _, rfl⟩ := ht
  exact ⟨Int.emod_nonneg _ (by omega), Int.emod_lt_of_pos _ (by omega)⟩
/-- The counts: each number of the list tells one cell. -/
def cntL (p a : Int) : List Int → List Int → List Int
  | [], c => c
  | t :: ts, c => cntL p a ts (c.set ((a * t) % p).toNat (wrap64 (rd c ((a * t) % p) + 1)))
theorem cntL_len (p a : Int) : ∀ (ts c : List Int), (cntL p a ts c).length = c.length := by
  intro ts
  induction ts with
  | nil => intro c; rfl
  | cons t ts ih => intro c; simp only [cntL]; rw [ih, List.length_set]
theorem drop_cons {l : List Int} {i : Nat} (h : i < l.length) : l.drop i = rd l (i : Int) :: l.drop (i + 1) := by
  rw [List.drop_eq_getElem_cons h, rd_get, List.getD_eq_getElem?_getD, List.getElem?_eq_getElem h, Option.getD_some]
theorem rd_pows (p : Int) (e x : Nat) (h : x < p.toNat) : rd (pows p e) (x : Int) = (x : Int) ^ e % p := by
  have h2 : x < (pows p e).length := by rw [pows_len]; exact h
  rw [rd_get, List.getD_eq_getElem?_getD, List.getElem?_eq_getElem h2, Option.getD_some, pows_at]
theorem powersOf_l (p : Int) (e : Nat) (hp : 2 ≤ p ∧ p ≤ 1000000) (he : e ≤ 1000000) : ∀ (d x : Nat) (xs : List Int), x + d = p.toNat → xs.length ≤ x → Ev (fun k => impl_powersOf.l0 k p (e : Int) xs p (x : Int)) (xs ++ (pows p e).drop x) := by
  intro d
  induction d with
  | zero =>
    intro x xs h h2
    refine Ev.step (fun k => rfl) ?_
    simp only [impl_powersOf.l0]
    exact Ev.if_neg (by omega) (Ev.val (Ev.now _) (by rw [List.drop_eq_nil_of_le (by rw [pows_len]; omega), List.append_nil]))
  | succ d ih =>
    intro x xs h h2
    have ew : wrap64 ((x : Int) + 1) = ((x + 1 : Nat) : Int) := by rw [wid (by omega) (by omega)]; omega
    refine Ev.step (fun k => rfl) ?_
    simp only [impl_powersOf.l0, ew]
    refine Ev.if_pos (by omega) (Ev.bind (ipow p (x : Int) e hp (by omega) he) (Ev.if_pos (by omega) (Ev.val (ih (x + 1) (xs ++ [(x : Int) ^ e % p]) (by omega) (by simp; omega)) ?_)))
    rw [drop_cons (l := pows p e) (i := x) (by rw [pows_len]; omega), rd_pows p e x (by omega)]
    simp
theorem powersOf_ev (p : Int) (e : Nat) (hp : 2 ≤ p ∧ p ≤ 1000000) (he : e ≤ 1000000) : Ev (fun k => impl_powersOf.f k p (e : Int)) (pows p e) := by
  simp only [impl_powersOf.f]
  exact Ev.val (powersOf_l p e hp he p.toNat 0 [] (by omega) (by simp)) (by simp)
theorem vals_spec_l (p a : Int) (e : Nat) (hp : 2 ≤ p ∧ p ≤ 1000000) (ha : 0 ≤ a ∧ a ≤ 1000000) (he : e ≤ 1000000) : ∀ (d x : Nat) (c : List Int), x + d = p.toNat → c.length = p.toNat → Ev (fun k => spec_l08Values.l0 k p a (e : Int) c (x : Int)) (cntL p a ((pows p e).drop x) c) := by
  intro d
  induction d with
  | zero =>
    intro x c h h2
    refine Ev.step (fun k => rfl) ?_
    simp only [spec_l08Values.l0]
    exact Ev.if_neg (by omega) (Ev.val (Ev.now _) (by rw [List.drop_eq_nil_of_le (by rw [pows_len]; omega)]; rfl))
  | succ d ih =>
    intro x c h h2
    have ew : wrap64 ((x : Int) + 1) = ((x + 1 : Nat) : Int) := by rw [wid (by omega) (by omega)]; omega
    have b1 := Int.emod_nonneg ((x : Int) ^ e) (show p ≠ 0 by omega)
    have b2 := Int.emod_lt_of_pos ((x : Int) ^ e) (show 0 < p by omega)
    rw [drop_cons (by rw [pows_len]; omega), rd_pows p e x (by omega)]
    have hs := spow p (x : Int) e hp (by omega) he
    generalize (x : Int) ^ e % p = t at hs b1 b2
    have c1 := Int.emod_nonneg (a * t) (show p ≠ 0 by omega)
    have c2 := Int.emod_lt_of_pos (a * t) (show 0 < p by omega)
    refine Ev.step (fun k => rfl) ?_
    simp only [spec_l08Values.l0, ew]
    refine Ev.if_pos (by omega) (Ev.bind hs (Ev.if_neg (by omega) ?_))
    rw [tmod_w (prod_le ha (by omega))]
    refine Ev.if_pos c1 (Ev.if_pos (by omega) ?_)
    exact ih (x + 1) _ (by omega) (by rw [List.length_set]; exact h2)
/-- The counts of the values a x^e, x from s on. -/
def cntF (p a : Int) (e s : Nat) : List Int := cntL p a ((pows p e).drop s) (List.replicate p.toNat 0)
theorem cntF_len (p a : Int) (e s : Nat) : (cntF p a e s).length = p.toNat := by simp [cntF, cntL_len]
theorem vals_spec (p a : Int) (e : Nat) (hp : 2 ≤ p ∧ p ≤ 1000000) (ha : 0 ≤ a ∧ a ≤ 1000000) (he : e ≤ 1000000) : Ev (fun k => spec_l08Values.f k p a (e : Int)) (cntF p a e 0) := by
  simp only [spec_l08Values.f]
  exact Ev.if_pos (by omega) (Ev.if_pos (by omega) (vals_spec_l p a e hp ha he p.toNat 0 _ (by omega) (by simp)))
theorem vals_impl_l (p a : Int) (hp : 2 ≤ p ∧ p ≤ 1000000) (ha : 0 ≤ a ∧ a ≤ 1000000) (y : List Int) (hy : ∀ t ∈ y, 0 ≤ t ∧ t < p) (hl : y.length ≤ 1048576) : ∀ (d i : Nat) (c : List Int), y.length - i ≤ d → i ≤ y.length → c.length = p.toNat → Ev (fun k => impl_valueCounts.l0 k p a c y (y.length : Int) (i : Int)) (cntL p a (y.drop i) c) := by
  intro d
  induction d with
  | zero =>
    intro i c h h2 h3
    refine Ev.step (fun k => rfl) ?_
    simp only [impl_valueCounts.l0]
    exact Ev.if_neg (by omega) (Ev.val (Ev.now _) (by rw [List.drop_eq_nil_of_le (by omega)]; rfl))
  | succ d ih =>
    intro i c h h2 h3
    refine Ev.step (fun k => rfl) ?_
    by_cases g : i < y.length
    · have ew : wrap64 ((i : Int) + 1) = ((i + 1 : Nat) : Int) := by rw [wid (by omega) (by omega)]; omega
      have hm : rd y (i : Int) ∈ y := by
        rw [rd_get, List.getD_eq_getElem?_getD, List.getElem?_eq_getElem g, Option.getD_some]
        exact List.getElem_mem g
      obtain ⟨b1, b2⟩ := hy _ hm
      rw [drop_cons g]
      simp only [impl_valueCounts.l0, ew]
      generalize rd y (i : Int) = t at b1 b2
      have c1 := Int.emod_nonneg (a * t) (show p ≠ 0 by omega)
      have c2 := Int.emod_lt_of_pos (a * t) (show 0 < p by omega)
      refine Ev.if_pos (by omega) (Ev.if_pos (by omega) (Ev.if_pos (by omega) (Ev.if_neg (by omega) ?_)))
      rw [tmod_w (prod_le ha (by omega))]
      refine Ev.if_pos c1 (Ev.if_pos (by omega) ?_)
      exact ih (i + 1) _ (by omega) (by omega) (by rw [List.length_set]; exact h3)
    · simp only [impl_valueCounts.l0]
      exact Ev.if_neg (by omega) (Ev.val (Ev.now _) (by rw [List.drop_eq_nil_of_le (by omega)]; rfl))
theorem vals_impl (p a : Int) (e s : Nat) (hp : 2 ≤ p ∧ p ≤ 1000000) (ha : 0 ≤ a ∧ a ≤ 1000000) (he : e ≤ 1000000) (hs : s ≤ 1) : Ev (fun k => impl_valueCounts.f k p a (e : Int) (s : Int)) (cntF p a e s) := by
  simp only [impl_valueCounts.f]
  refine Ev.if_pos (by omega) (Ev.if_pos (by omega) (Ev.bind (powersOf_ev p e hp he) (Ev.if_pos (by omega) (Ev.if_pos (by rw [pows_len]; omega) ?_))))
  simp only [Option.bind_some]
  refine Ev.val (vals_impl_l p a hp ha ((pows p e).drop s) (fun t ht => pows_bnd p e hp.1 t (List.mem_of_mem_drop ht)) (by rw [List.length_drop, pows_len]; omega) _ 0 _ (Nat.le_refl _) (by omega) (by simp)) ?_
  rfl



/-- The sum of d numbers from the i-th on. -/
def sumF : Nat → Nat → (Nat → Int) → Int
  | 0, _, _ => 0
  | d + 1, i, f => f i + sumF d (i + 1) f
theorem sumF_zero : ∀ (d i : Nat), sumF d i (fun _ => 0) = 0 := by
  intro d
  induction d with
  | zero => intro i; rfl
  | succ d ih => intro i; simp only [sumF, ih, Int.add_zero]
theorem sumF_add (f g : Nat → Int) : ∀ (d i : Nat), sumF d i (fun j => f j + g j) = sumF d i f + sumF d i g := by
  intro d
  induction d with
  | zero => intro i; rfl
  | succ d ih => intro i; simp only [sumF, ih]; omega
theorem sumF_congr {f g : Nat → Int} : ∀ (d i : Nat), (∀ j, i ≤ j → j < i + d → f j = g j) → sumF d i f = sumF d i g := by
  intro d
  induction d with
  | zero => intro i _; rfl
  | succ d ih => intro i h; simp only [sumF]; rw [h i (by omega) (by omega), ih (i + 1) (fun j h1 h2 => h j (by omega) (by omega))]
theorem sumF_swap (f : Nat → Nat → Int) (m b : Nat) : ∀ (n a : Nat), sumF n a (fun i => sumF m b (fun j => f i j)) = sumF m b (fun j => sumF n a (fun i => f i j)) := by
  intro n
  induction n with
  | zero => intro a; simp only [sumF, sumF_zero]
  | succ n ih => intro a; simp only [sumF, ih, sumF_add]
theorem wrap_add (a b : Int) : wrap64 (wrap64 a + wrap64 b) = wrap64 (a + b) := by unfold wrap64; omega
/-- A list told by a function. -/
def tab (p : Nat) (F : Nat → Int) : List Int := (List.range p).map fun v => wrap64 (F v)
theorem tab_len (p : Nat) (F : Nat → Int) : (tab p F).length = p := by simp [tab]
theorem rd_tab (p : Nat) (F : Nat → Int) (v : Nat) (h : v < p) : rd (tab p F) (v : Int) = wrap64 (F v) := by
  rw [rd_get, List.getD_eq_getElem?_getD, List.getElem?_eq_getElem (by rw [tab_len]; exact h), Option.getD_some]
  simp [tab]
theorem tab_zero (p : Nat) : List.replicate p (0 : Int) = tab p (fun _ => 0) := by
  apply List.ext_getElem (by simp [tab])
  intro i h1 h2
  simp only [tab, List.getElem_map, List.getElem_replicate]
  exact (wid (by omega) (by omega)).symm
theorem set_tab (p : Nat) (F : Nat → Int) (y : Int) (v : Nat) (h : v < p) : (tab p F).set v (wrap64 (rd (tab p F) (v : Int) + wrap64 y)) = tab p (fun u => F u + if u = v then y else 0) := by
  rw [rd_tab p F v h, wrap_add]
  apply List.ext_getElem (by simp [tab])
  intro i h1 h2
  rw [List.getElem_set]
  by_cases e : v = i
  · subst e; simp [tab]
  · rw [_root_.if_neg e]
    simp only [tab, List.getElem_map, List.getElem_range]
    rw [_root_.if_neg (fun e' => e e'.symm), Int.add_zero]
theorem idx_eq (P i j : Nat) (hP : 2 ≤ P) (h : i ≤ 1000000) (h2 : j ≤ 1000000) : Int.tmod (wrap64 ((i : Int) + (j : Int))) (P : Int) = (((i + j) % P : Nat) : Int) := by
  rw [tmod_w (by omega)]
  rw [← Int.natCast_add, ← Int.natCast_emod]
def Gv (P : Nat) (acc vals : List Int) (v i j : Nat) : Int := if v = (i + j) % P then rd acc (i : Int) * rd vals (j : Int) else 0
theorem Gv_swap (P : Nat) (acc vals : List Int) (v : Nat) : sumF P 0 (fun i => sumF P 0 (fun j => Gv P acc vals v i j)) = sumF P 0 (fun j => sumF P 0 (fun i => Gv P acc vals v i j)) := sumF_swap (fun i j => Gv P acc vals v i j) P 0 P 0
/-- The counts of the sums. -/
def conv (P : Nat) (acc vals : List Int) : List Int := tab P fun v => sumF P 0 fun i => sumF P 0 fun j => Gv P acc vals v i j
theorem cs_l2 (P : Nat) (hP : 2 ≤ P ∧ P ≤ 1000000) (x1 x2 : List Int) (x3 : Int) (x4 : Bool) (acc vals : List Int) (x12 : Int) (ha : acc.length = P) (hv : vals.length = P) (r : Int) (i : Nat) (hi : i < P) : ∀ (d j : Nat) (F : Nat → Int), j + d = P →
    Ev (fun k => spec_l08Count.l1 k (P : Int) x1 x2 x3 x4 acc x12 vals (tab P (fun v => F v + sumF d j (fun j => Gv P acc vals v i j))) ((i + 1 : Nat) : Int)) r →
    Ev (fun k => spec_l08Count.l2 k (P : Int) x1 x2 x3 x4 acc x12 vals (tab P F) (i : Int) (j : Int)) r := by
  intro d
  have ew : ∀ n : Nat, n ≤ 1000000 → wrap64 ((n : Int) + 1) = ((n + 1 : Nat) : Int) := by intro n hn; rw [wid (by omega) (by omega)]; omega
  induction d with
  | zero =>
    intro j F hj h
    refine Ev.step (fun k => rfl) ?_
    simp only [spec_l08Count.l2, ew i (by omega)]
    simp only [sumF, Int.add_zero] at h
    exact Ev.if_neg (by omega) h
  | succ d ih =>
    intro j F hj h
    have hm : (i + j) % P < P := Nat.mod_lt _ (by omega)
    refine Ev.step (fun k => rfl) ?_
    simp only [spec_l08Count.l2, idx_eq P i j hP.1 (by omega) (by omega), Int.toNat_natCast, ew j (by omega), set_tab P F _ _ hm, tab_len]
    refine Ev.if_pos (by omega) (Ev.if_neg (by omega) (Ev.if_pos (by omega) (Ev.if_pos (by omega) (Ev.if_pos (by omega) (Ev.if_pos (by omega) (Ev.if_pos (by omega) (Ev.if_pos (by omega) ?_)))))))
    refine ih (j + 1) _ (by omega) ?_
    simp only [sumF, ← Int.add_assoc] at h
    exact h
theorem cs_l1 (P : Nat) (hP : 2 ≤ P ∧ P ≤ 1000000) (x1 x2 : List Int) (x3 : Int) (x4 : Bool) (acc vals : List Int) (x12 : Int) (ha : acc.length = P) (hv : vals.length = P) (r : Int) : ∀ (d i : Nat) (F : Nat → Int), i + d = P →
    Ev (fun k => spec_l08Count.l0 k (P : Int) x1 x2 x3 x4 (tab P (fun v => F v + sumF d i (fun i => sumF P 0 (fun j => Gv P acc vals v i j)))) (wrap64 (x12 + 1))) r →
    Ev (fun k => spec_l08Count.l1 k (P : Int) x1 x2 x3 x4 acc x12 vals (tab P F) (i : Int)) r := by
  intro d
  induction d with
  | zero =>
    intro i F hi h
    refine Ev.step (fun k => rfl) ?_
    simp only [spec_l08Count.l1]
    simp only [sumF, Int.add_zero] at h
    exact Ev.if_neg (by omega) h
  | succ d ih =>
    intro i F hi h
    refine Ev.step (fun k => rfl) ?_
    simp only [spec_l08Count.l1]
    refine Ev.if_pos (by omega) ?_
    refine cs_l2 P hP x1 x2 x3 x4 acc vals x12 ha hv r i (by omega) P 0 F (by omega) ?_
    refine ih (i + 1) _ (by omega) ?_
    simp only [sumF, ← Int.add_assoc] at h
    exact h
/-- One factor more. -/
theorem cs_j1 (P : Nat) (hP : 2 ≤ P ∧ P ≤ 1000000) (x1 x2 : List Int) (x3 : Int) (x4 : Bool) (acc vals : List Int) (x12 : Int) (ha : acc.length = P) (hv : vals.length = P) (r : Int)
    (h : Ev (fun k => spec_l08Count.l0 k (P : Int) x1 x2 x3 x4 (conv P acc vals) (wrap64 (x12 + 1))) r) :
    Ev (fun k => spec_l08Count.j1 k (P : Int) x1 x2 x3 x4 acc x12 vals (List.replicate P 0)) r := by
  refine Ev.step (fun k => rfl) ?_
  simp only [spec_l08Count.j1, tab_zero]
  refine cs_l1 P hP x1 x2 x3 x4 acc vals x12 ha hv r P 0 _ (by omega) ?_
  simp only [Int.zero_add]
  exact h

theorem ci_l2 (P : Nat) (hP : 2 ≤ P ∧ P ≤ 1000000) (x2 : List Int) (x3 x4 : Int) (acc vals x23 : List Int) (x24 x25 : Int) (ha : acc.length = P) (hv : vals.length = P) (r : Int) (i : Nat) (hi : i < P) : ∀ (d j : Nat) (F : Nat → Int), j + d = P →
    Ev (fun k => impl_solutions.l1 k (P : Int) x2 x3 x4 acc (tab P (fun v => F v + sumF d j (fun j => Gv P acc vals v j i))) x23 x24 x25 vals (vals.length : Int) ((i + 1 : Nat) : Int)) r →
    Ev (fun k => impl_solutions.l2 k (P : Int) x2 x3 x4 acc (tab P F) (i : Int) (rd vals (i : Int)) x23 x24 x25 vals (vals.length : Int) (i : Int) acc (acc.length : Int) (j : Int)) r := by
  intro d
  have ew : ∀ n : Nat, n ≤ 1000000 → wrap64 ((n : Int) + 1) = ((n + 1 : Nat) : Int) := by intro n hn; rw [wid (by omega) (by omega)]; omega
  induction d with
  | zero =>
    intro j F hj h
    refine Ev.step (fun k => rfl) ?_
    simp only [impl_solutions.l2, ew i (by omega)]
    simp only [sumF, Int.add_zero] at h
    exact Ev.if_neg (by omega) h
  | succ d ih =>
    intro j F hj h
    have hm : (j + i) % P < P := Nat.mod_lt _ (by omega)
    refine Ev.step (fun k => rfl) ?_
    simp only [impl_solutions.l2, idx_eq P j i hP.1 (by omega) (by omega), Int.toNat_natCast, ew j (by omega), Int.mul_comm (rd vals (i : Int)), set_tab P F _ _ hm, tab_len]
    refine Ev.if_pos (by omega) (Ev.if_pos (by omega) (Ev.if_pos (by omega) (Ev.if_neg (by omega) (Ev.if_pos (by omega) (Ev.if_pos (by omega) ?_)))))
    refine ih (j + 1) _ (by omega) ?_
    simp only [sumF, ← Int.add_assoc] at h
    exact h
theorem ci_l1 (P : Nat) (hP : 2 ≤ P ∧ P ≤ 1000000) (x2 : List Int) (x3 x4 : Int) (acc vals x23 : List Int) (x24 x25 : Int) (ha : acc.length = P) (hv : vals.length = P) (r : Int) : ∀ (d i : Nat) (F : Nat → Int), i + d = P →
    Ev (fun k => impl_solutions.l0 k (P : Int) x2 x3 x4 (tab P (fun v => F v + sumF d i (fun i => sumF P 0 (fun j => Gv P acc vals v j i)))) x23 x24 (wrap64 (x25 + 1))) r →
    Ev (fun k => impl_solutions.l1 k (P : Int) x2 x3 x4 acc (tab P F) x23 x24 x25 vals (vals.length : Int) (i : Int)) r := by
  intro d
  induction d with
  | zero =>
    intro i F hi h
    refine Ev.step (fun k => rfl) ?_
    simp only [impl_solutions.l1]
    simp only [sumF, Int.add_zero] at h
    exact Ev.if_neg (by omega) h
  | succ d ih =>
    intro i F hi h
    refine Ev.step (fun k => rfl) ?_
    simp only [impl_solutions.l1]
    refine Ev.if_pos (by omega) (Ev.if_pos (by omega) (Ev.if_pos (by omega) ?_))
    refine ci_l2 P hP x2 x3 x4 acc vals x23 x24 x25 ha hv r i (by omega) P 0 F (by omega) ?_
    refine ih (i + 1) _ (by omega) ?_
    simp only [sumF, ← Int.add_assoc] at h
    exact h
theorem ci_j1 (P : Nat) (hP : 2 ≤ P ∧ P ≤ 1000000) (x2 : List Int) (x3 x4 : Int) (acc vals x23 : List Int) (x24 x25 : Int) (ha : acc.length = P) (hv : vals.length = P) (r : Int)
    (h : Ev (fun k => impl_solutions.l0 k (P : Int) x2 x3 x4 (conv P acc vals) x23 x24 (wrap64 (x25 + 1))) r) :
    Ev (fun k => impl_solutions.l1 k (P : Int) x2 x3 x4 acc (List.replicate P 0) x23 x24 x25 vals (vals.length : Int) 0) r := by
  rw [tab_zero]
  refine ci_l1 P hP x2 x3 x4 acc vals x23 x24 x25 ha hv r P 0 _ (by omega) ?_
  simp only [Int.zero_add, ← Gv_swap]
  exact h
theorem rd_set0 (c : List Int) (x : Int) (h : 0 < c.length) : rd (c.set 0 x) 0 = x := by
  rw [show (0 : Int) = ((0 : Nat) : Int) from rfl, rd_get, List.getD_eq_getElem?_getD, List.getElem?_set_self h, Option.getD_some]
theorem rd_set_ne (c : List Int) (x : Int) (i j : Nat) (h : i ≠ j) : rd (c.set i x) (j : Int) = rd c (j : Int) := by
  rw [rd_get, rd_get, List.getD_eq_getElem?_getD, List.getD_eq_getElem?_getD, List.getElem?_set_ne h]
def inc0 (c : List Int) : List Int := c.set 0 (wrap64 (rd c 0 + 1))
theorem inc0_comm (c : List Int) (i : Nat) (h : 0 < c.length) : (inc0 c).set i (wrap64 (rd (inc0 c) (i : Int) + 1)) = inc0 (c.set i (wrap64 (rd c (i : Int) + 1))) := by
  unfold inc0
  by_cases e : i = 0
  · subst e
    rw [show ((0 : Nat) : Int) = 0 from rfl, rd_set0 c _ h]
  · rw [rd_set_ne c _ 0 i (fun e' => e e'.symm), show (0 : Int) = ((0 : Nat) : Int) from rfl, rd_set_ne c _ i 0 e, List.set_comm _ _ e]
theorem cntL_inc0 (p a : Int) (hp : 2 ≤ p) : ∀ (ts c : List Int), 0 < c.length → cntL p a ts (inc0 c) = inc0 (cntL p a ts c) := by
  intro ts
  induction ts with
  | nil => intro c _; rfl
  | cons t ts ih =>
    intro c hc
    have b := Int.emod_nonneg (a * t) (show p ≠ 0 by omega)
    obtain ⟨i, hi⟩ := Int.eq_ofNat_of_zero_le b
    simp only [cntL, hi, Int.toNat_natCast]
    rw [inc0_comm c i hc]
    exact ih _ (by rw [List.length_set]; exact hc)
theorem wrap_rng (x : Int) : -9223372036854775808 ≤ wrap64 x ∧ wrap64 x ≤ 9223372036854775807 := by unfold wrap64; omega
theorem cntL_rng (p a : Int) : ∀ (ts c : List Int), (∀ x ∈ c, -9223372036854775808 ≤ x ∧ x ≤ 9223372036854775807) → ∀ x ∈ cntL p a ts c, -9223372036854775808 ≤ x ∧ x ≤ 9223372036854775807 := by
  intro ts
  induction ts with
  | nil => intro c h; exact h
  | cons t ts ih =>
    intro c h
    simp only [cntL]
    refine ih _ (fun x hx => ?_)
    rcases List.mem_or_eq_of_mem_set hx with h1 | h1
    · exact h x h1
    · rw [h1]; exact wrap_rng _
theorem cut_zero (p a : Int) (e : Nat) (hp : 2 ≤ p ∧ p ≤ 1000000) (he : 1 ≤ e) : (cntF p a e 0).set (0 : Int).toNat (wrap64 (rd (cntF p a e 0) 0 - 1)) = cntF p a e 1 := by
  have h1 : cntF p a e 0 = inc0 (cntF p a e 1) := by
    unfold cntF
    rw [drop_cons (l := pows p e) (i := 0) (by rw [pows_len]; omega), rd_pows p e 0 (by omega)]
    have z : ((0 : Nat) : Int) ^ e % p = 0 := by
      obtain ⟨m, rfl⟩ : ∃ m, e = m + 1 := ⟨e - 1, by omega⟩
      rw [Int.pow_succ]
      simp
    rw [z]
    simp only [cntL, Int.mul_zero, Int.zero_emod]
    exact cntL_inc0 p a hp.1 _ _ (by simp; omega)
  have hl : 0 < (cntF p a e 1).length := by rw [cntF_len]; omega
  have hr := cntL_rng p a ((pows p e).drop 1) (List.replicate p.toNat 0) (fun x hx => by rw [List.eq_of_mem_replicate hx]; omega) (rd (cntF p a e 1) 0) (by
    rw [show (0 : Int) = ((0 : Nat) : Int) from rfl, rd_get, List.getD_eq_getElem?_getD, List.getElem?_eq_getElem hl, Option.getD_some]
    exact List.getElem_mem hl)
  rw [h1]
  generalize cntF p a e 1 = X at hl hr
  unfold inc0
  rw [rd_set0 X _ hl]
  show (X.set 0 _).set 0 _ = X
  rw [List.set_set]
  have w : wrap64 (wrap64 (rd X 0 + 1) - 1) = rd X 0 := by unfold wrap64; omega
  rw [w]
  apply List.ext_getElem (by simp)
  intro i h1 h2
  rw [List.getElem_set]
  by_cases z : 0 = i
  · subst z
    rw [if_pos rfl, show (0 : Int) = ((0 : Nat) : Int) from rfl, rd_get, List.getD_eq_getElem?_getD, List.getElem?_eq_getElem hl, Option.getD_some]
  · rw [if_neg z]
theorem both_l (P : Nat) (hP : 2 ≤ P ∧ P ≤ 1000000) (l1 l2 : List Int) (v : Int) (hl : l1.length ≤ 4) (he : l1.length = l2.length) (hv : 0 ≤ v ∧ v < P) (h1 : ∀ x ∈ l1, 0 ≤ x ∧ x ≤ 1000000) (h2 : ∀ x ∈ l2, 1 ≤ x ∧ x ≤ 1000000) :
    ∀ (d i : Nat) (acc : List Int), l1.length - i ≤ d → i ≤ l1.length → acc.length = P → ∃ r, Ev (fun k => spec_l08Count.l0 k (P : Int) l1 l2 v true acc (i : Int)) r ∧ Ev (fun k => impl_solutions.l0 k (P : Int) l2 v 1 acc l1 (l1.length : Int) (i : Int)) r := by
  intro d
  have stop : ∀ (i : Nat) (acc : List Int), ¬ i < l1.length → acc.length = P → ∃ r, Ev (fun k => spec_l08Count.l0 k (P : Int) l1 l2 v true acc (i : Int)) r ∧ Ev (fun k => impl_solutions.l0 k (P : Int) l2 v 1 acc l1 (l1.length : Int) (i : Int)) r := by
    intro i acc h ha
    refine ⟨rd acc v, Ev.step (fun k => rfl) ?_, Ev.step (fun k => rfl) ?_⟩
    · simp only [spec_l08Count.l0]
      exact Ev.if_neg (by omega) (Ev.if_pos hv.1 (Ev.if_pos (by omega) (Ev.now _)))
    · simp only [impl_solutions.l0]
      exact Ev.if_neg (by omega) (Ev.if_pos hv.1 (Ev.if_pos (by omega) (Ev.now _)))
  induction d with
  | zero => intro i acc h _ ha; exact stop i acc (by omega) ha
  | succ d ih =>
    intro i acc h h0 ha
    by_cases g : i < l1.length
    · have g2 : i < l2.length := by omega
      have ew : wrap64 ((i : Int) + 1) = ((i + 1 : Nat) : Int) := by rw [wid (by omega) (by omega)]; omega
      have b1 : 0 ≤ rd l1 (i : Int) ∧ rd l1 (i : Int) ≤ 1000000 := by
        rw [rd_get, List.getD_eq_getElem?_getD, List.getElem?_eq_getElem g, Option.getD_some]; exact h1 _ (List.getElem_mem g)
      have b2 : 1 ≤ rd l2 (i : Int) ∧ rd l2 (i : Int) ≤ 1000000 := by
        rw [rd_get, List.getD_eq_getElem?_getD, List.getElem?_eq_getElem g2, Option.getD_some]; exact h2 _ (List.getElem_mem g2)
      obtain ⟨e, he2⟩ := Int.eq_ofNat_of_zero_le (show 0 ≤ rd l2 (i : Int) by omega)
      have vs := vals_spec (P : Int) (rd l1 (i : Int)) e (by omega) b1 (by omega)
      have vi := vals_impl (P : Int) (rd l1 (i : Int)) e 1 (by omega) b1 (by omega) (by omega)
      have hc := cntF_len (P : Int) (rd l1 (i : Int)) e 1
      have hc0 := cntF_len (P : Int) (rd l1 (i : Int)) e 0
      rw [Int.toNat_natCast] at hc0
      rw [Int.toNat_natCast] at hc
      obtain ⟨r, s, t⟩ := ih (i + 1) (conv P acc (cntF (P : Int) (rd l1 (i : Int)) e 1)) (by omega) (by omega) (tab_len _ _)
      refine ⟨r, Ev.step (fun k => rfl) ?_, Ev.step (fun k => rfl) ?_⟩
      · simp only [spec_l08Count.l0, he2, Int.toNat_natCast, Option.bind_some]
        refine Ev.if_pos (by omega) (Ev.if_pos (by omega) (Ev.if_pos (by omega) (Ev.bind vs (Ev.if_pos (by omega) (Ev.if_pos (by omega) (Ev.if_pos (by first | trivial | rfl) (Ev.if_pos (by omega) ?_)))))))
        have hcut := cut_zero (P : Int) (rd l1 (i : Int)) e (by omega) (by omega)
        rw [hcut]
        exact cs_j1 P hP l1 l2 v true acc _ (i : Int) ha hc r (by rw [ew]; exact s)
      · simp only [impl_solutions.l0, he2, Int.toNat_natCast]
        refine Ev.if_pos (by omega) (Ev.if_pos (by omega) (Ev.if_pos (by omega) (Ev.if_pos (by omega) (Ev.if_pos (by omega) (Ev.if_pos (by omega) (Ev.bind vi ?_))))))
        exact ci_j1 P hP l2 v 1 acc _ l1 (l1.length : Int) (i : Int) ha hc r (by rw [ew]; exact t)
    · exact stop i acc g ha
theorem FnExactCountFull : laws_FnExactCountFull.Pure := by
  intro p l1 l2 v hp _ _ _ _ _ _ _
  obtain ⟨b1, b2⟩ := wfb hp
  refine Ev.rounds (g := fun k => laws_FnExactCountFull.f k p l1 l2 v) ?_
  simp only [laws_FnExactCountFull.f]
  by_cases c1 : (l1.length : Int) > 1048576
  · exact Ev.if_pos c1 (Ev.now _)
  refine Ev.if_neg c1 ?_
  by_cases c2 : (l2.length : Int) > 1048576
  · exact Ev.if_pos c2 (Ev.now _)
  refine Ev.if_neg c2 ?_
  have t1 := toI l1 (by omega)
  have t2 := toI l2 (by omega)
  obtain ⟨r, s, t⟩ : ∃ r : Int × Int, Ev (fun k => spec_CountFull.f k p l1 l2 v) r ∧ Ev (fun k => impl_CountFull.f k p l1 l2 v) r := by
    have hg := given_ev p l1 l2 v (by omega) (by omega)
    have hi := iseq_ev p l1 l2 v b2
    simp only [spec_CountFull.f, impl_CountFull.f]
    cases h : okEq p l1 l2 v with
    | false =>
      rw [h] at hi hg
      exact ⟨(0, 2), Ev.bind hg (Ev.const fun _ => rfl), Ev.bind hi (Ev.const fun _ => rfl)⟩
    | true =>
      rw [h] at hi hg
      simp only [okEq, btw, Bool.and_eq_true, decide_eq_true_eq, List.all_eq_true] at h
      obtain ⟨hP, h2, h3, h4, h5, h6⟩ := h
      have hr := isP_range hP
      obtain ⟨P, rfl⟩ := Int.eq_ofNat_of_zero_le (show 0 ≤ p by omega)
      obtain ⟨r, s, t⟩ := both_l P (by omega) l1 l2 v h3.2 h4 (by omega) (fun x hx => by have := h6 x hx; omega) (fun x hx => by have := h2 x hx; omega) l1.length 0 ((List.replicate P 0).set 0 1) (by omega) (by omega) (by simp)
      refine ⟨(r, 0), Ev.bind hg (Ev.if_pos rfl (Ev.bind (a := r) ?_ (Ev.now _))), Ev.bind hi (Ev.if_pos rfl (Ev.bind (a := r) ?_ (Ev.now _)))⟩
      · simp only [spec_l08Count.f, Int.toNat_natCast, Option.bind_some, List.length_replicate]
        exact Ev.if_pos (by omega) (Ev.if_pos (by omega) (Ev.if_pos (by omega) s))
      · simp only [impl_solutions.f, Int.toNat_natCast, Option.bind_some, List.length_replicate]
        exact Ev.if_pos (by omega) (Ev.if_pos (by omega) (Ev.if_pos (by omega) t))
  refine Ev.bind t1 (Ev.bind t2 (Ev.bind s (Ev.bind t1 (Ev.bind t2 (Ev.bind t (Ev.if_pos rfl ?_))))))
  simp only [bne_self_eq_false]
  refine Ev.step (fun k => rfl) ?_
  simp only [laws_FnExactCountFull.j0, Bool.false_eq_true, if_false]
  refine Ev.bind t1 (Ev.bind (eqI l1 l1 (by omega)) ?_)
  simp only [decide_true, if_true]
  exact Ev.bind t2 (Ev.bind (eqI l2 l2 (by omega)) (Ev.const fun _ => by simp))

end Go.Proofs.Ytgabpiaghpeakaa.Pure
