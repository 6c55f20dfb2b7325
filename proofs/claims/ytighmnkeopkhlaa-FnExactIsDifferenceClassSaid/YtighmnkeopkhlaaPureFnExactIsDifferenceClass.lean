/- Whether a class has equal difference numbers, as the program and as the reference tell it, for all arguments. No condition. -/
import Derived.Test.YtighmnkeopkhlaaXFnExactIsDifferenceClassx6
namespace Go.Proofs.Ytighmnkeopkhlaa.Pure
open Go.RowKit Go.Proofs.Ytighmnkeopkhlaa.XFnExactIsDifferenceClass Go.Proofs.YtighmnkeopkhlaaW.PrintWords Go.Proofs.YtighmnkeopkhlaaW.PrintLast
set_option linter.unusedVariables false
set_option linter.unusedSimpArgs false

theorem wfb {a : Int} (h : (Lit.int .i64 a).wf = true) : -9223372036854775808 ≤ a ∧ a ≤ 9223372036854775807 := by
  simp only [Lit.wf, IntKind.min, IntKind.max, IntKind.signed, IntKind.bits, Bool.and_eq_true, decide_eq_true_eq, if_true] at h
  omega
theorem wid {a : Int} (h1 : -9223372036854775808 ≤ a) (h2 : a ≤ 9223372036854775807) : wrap64 a = a := by
  unfold wrap64; omega
theorem Ev.const {α : Type} {g : Nat → Option α} {r : α} (h : ∀ k, g k = some r) : Ev g r := ⟨0, fun k _ => h k⟩
theorem Ev.if_pos {α : Type} {c : Prop} [Decidable c] {f g : Nat → Option α} {r : α} (hc : c) (h : Ev f r) : Ev (fun k => if c then f k else g k) r :=
  Ev.congr (fun k => _root_.if_pos hc) h
theorem Ev.if_neg {α : Type} {c : Prop} [Decidable c] {f g : Nat → Option α} {r : α} (hc : ¬ c) (h : Ev g r) : Ev (fun k => if c then f k else g k) r :=
  Ev.congr (fun k => _root_.if_neg hc) h
theorem Ev.val {α : Type} {f : Nat → Option α} {r s : α} (h : Ev f r) (e : r = s) : Ev f s := e ▸ h
theorem within_eq (a b c : Int) : impl_within.f a b c = some (decide (b ≤ a ∧ a ≤ c)) := by
  unfold impl_within.f
  by_cases h : b ≤ a <;> simp [h]
theorem in_eq (a b c : Int) : spec_l01In.f a b c = some (decide (b ≤ a ∧ a ≤ c)) := by
  unfold spec_l01In.f
  by_cases h : b ≤ a <;> simp [h]
def isP (p : Int) : Bool := [3, 5, 7, 11, 13, 17, 19, 23, 29, 31, 37, 41, 43, 47, 53, 59, 61].contains p
theorem isP_range {p : Int} (h : isP p = true) : 3 ≤ p ∧ p ≤ 61 := by
  simp [isP] at h; omega
theorem isP_out {p : Int} (h : ¬ (3 ≤ p ∧ p ≤ 61)) : isP p = false := by
  cases e : isP p with
  | false => rfl
  | true => exact absurd (isP_range e) h
theorem prime_in : ∀ n : Nat, n < 62 → 3 ≤ n → impl_isPrime.f 10 (n : Int) = some (isP (n : Int)) ∧ spec_l06Prime.f 10 (n : Int) = some (isP (n : Int)) := by decide +kernel
theorem prime_out_l (p : Int) (hp : 62 ≤ p) (hp2 : p ≤ 9223372036854775807) : ∀ (n : Nat) (d : Int), 2 ≤ d → d ≤ p → p - d ≤ n → impl_isPrime.l0 (n + 1) p d = some false := by
  have hw : impl_within.f p 3 61 = some false := by rw [within_eq, decide_eq_false (by omega)]
  intro n
  induction n with
  | zero =>
    intro d h1 h2 h3
    obtain rfl : d = p := by omega
    simp only [impl_isPrime.l0]
    split
    · rw [if_neg (by omega), if_pos (Int.tmod_self)]
    · rw [hw]; rfl
  | succ n ih =>
    intro d h1 h2 h3
    rw [impl_isPrime.l0]
    split
    · rw [if_neg (by omega)]
      by_cases e : Int.tmod p d = 0
      · rw [if_pos e]
      · rw [if_neg e]
        have hd : d ≠ p := fun e' => e (by rw [e']; exact Int.tmod_self)
        rw [wid (by omega) (by omega)]
        exact ih (d + 1) (by omega) (by omega) (by omega)
    · rw [hw]; rfl
theorem prime_impl (p : Int) (hp : p ≤ 9223372036854775807) : Ev (fun k => impl_isPrime.f k p) (isP p) := by
  by_cases h : 3 ≤ p ∧ p ≤ 61
  · obtain ⟨n, rfl⟩ := Int.eq_ofNat_of_zero_le (show 0 ≤ p by omega)
    exact Ev.of (impl_isPrime.mono _) (prime_in n (by omega) (by omega)).1
  · rw [isP_out h]
    by_cases h2 : p < 3
    · refine ⟨1, fun k hk => ?_⟩
      obtain ⟨k, rfl⟩ : ∃ m, k = m + 1 := ⟨k - 1, by omega⟩
      show impl_isPrime.f (k + 1) p = some false
      unfold impl_isPrime.f
      rw [impl_isPrime.l0, if_neg (by rw [wid (by omega) (by omega)]; omega), within_eq, decide_eq_false (by omega)]
      rfl
    · refine Ev.of (impl_isPrime.mono _) (k := (p - 2).toNat + 1) ?_
      exact prime_out_l p (by omega) hp _ 2 (by omega) (by omega) (by omega)
theorem prime_spec (p : Int) : Ev (fun k => spec_l06Prime.f k p) (isP p) := by
  by_cases h : 3 ≤ p ∧ p ≤ 61
  · obtain ⟨n, rfl⟩ := Int.eq_ofNat_of_zero_le (show 0 ≤ p by omega)
    exact Ev.of (spec_l06Prime.mono _) (prime_in n (by omega) (by omega)).2
  · rw [isP_out h]
    refine Ev.const (fun k => ?_)
    unfold spec_l06Prime.f
    rw [in_eq, decide_eq_false h]
    rfl

theorem rd_get (l : List Int) (i : Nat) : rd l (i : Int) = l.getD i 0 := by simp [rd]
/-- Are there such classes? -/
def okPE (p e : Int) : Bool := isP p && (decide (1 ≤ e ∧ e ≤ 12) && decide (Int.tmod (p - 1) e = 0))
def perOk (p e : Nat) : Bool :=
  match impl_periodsOf.f 500 (p : Int) (e : Int), spec_l06Indices.f 500 (p : Int) with
  | some (a, b, c, l, true), some t => decide (a = (p : Int)) && (decide (b = (e : Int)) && (decide (c = Int.tdiv ((p : Int) - 1) (e : Int)) && (decide (l.length = p) && (decide (t.length = p) &&
      ((List.range p).all fun x => x == 0 || decide (rd l (x : Int) = Int.tmod (rd t (x : Int)) (e : Int) ∧ 0 ≤ rd t (x : Int) ∧ rd t (x : Int) ≤ 60)) && decide (rd l 0 = -1)))))
  | _, _ => false
set_option maxHeartbeats 20000000 in
theorem per_all : ∀ p : Nat, p < 62 → isP (p : Int) = true → ∀ e : Nat, e < 13 → 1 ≤ e → Int.tmod ((p : Int) - 1) (e : Int) = 0 → perOk p e = true := by decide +kernel
theorem per_ev (p e : Int) (h : okPE p e = true) : ∃ l t : List Int, Ev (fun k => impl_periodsOf.f k p e) (p, e, Int.tdiv (p - 1) e, l, true) ∧ Ev (fun k => spec_l06Indices.f k p) t ∧ (l.length : Int) = p ∧ (t.length : Int) = p ∧ rd l 0 = -1 ∧
    ∀ x : Int, 1 ≤ x → x < p → rd l x = Int.tmod (rd t x) e ∧ 0 ≤ rd t x ∧ rd t x ≤ 60 := by
  simp only [okPE, Bool.and_eq_true, decide_eq_true_eq] at h
  obtain ⟨hP, he, hm⟩ := h
  have hr := isP_range hP
  obtain ⟨q, rfl⟩ := Int.eq_ofNat_of_zero_le (show 0 ≤ p by omega)
  obtain ⟨f, rfl⟩ := Int.eq_ofNat_of_zero_le (show 0 ≤ e by omega)
  have hk := per_all q (by omega) hP f (by omega) (by omega) hm
  unfold perOk at hk
  split at hk
  · rename_i a b c l t h1 h2
    simp only [Bool.and_eq_true, decide_eq_true_eq, List.all_eq_true, List.mem_range, Bool.or_eq_true, beq_iff_eq] at hk
    obtain ⟨rfl, rfl, rfl, hl, ⟨ht, hx⟩, h0⟩ := hk
    refine ⟨l, t, Ev.of (impl_periodsOf.mono _ _) h1, Ev.of (spec_l06Indices.mono _) h2, by omega, by omega, h0, fun x x1 x2 => ?_⟩
    obtain ⟨y, rfl⟩ := Int.eq_ofNat_of_zero_le (show 0 ≤ x by omega)
    rcases hx y (by omega) with h | h
    · omega
    · exact h
  · exact absurd hk (by simp)
theorem per_no (p e : Int) (hp : p ≤ 9223372036854775807) (h : okPE p e = false) : Ev (fun k => impl_periodsOf.f k p e) (0, 0, 0, [], false) := by
  have hj : Ev (fun k => impl_periodsOf.j0 k p e true) (0, 0, 0, [], false) := Ev.step (fun k => rfl) (Ev.const fun _ => rfl)
  have hi := prime_impl p hp
  simp only [impl_periodsOf.f, within_eq, Option.bind_some]
  cases hP : isP p with
  | false =>
    rw [hP] at hi
    exact Ev.bind hi (Ev.if_neg (by simp) hj)
  | true =>
    rw [hP] at hi
    have hr := isP_range hP
    refine Ev.bind hi (Ev.if_pos rfl ?_)
    by_cases he : 1 ≤ e ∧ e ≤ 12
    · refine Ev.if_pos (by simpa using he) (Ev.if_neg (by omega) ?_)
      rw [wid (by omega) (by omega)]
      have : ¬ Int.tmod (p - 1) e = 0 := fun z => by simp [okPE, hP, he, z] at h
      rw [show (Int.tmod (p - 1) e != 0) = true from by simpa using this]
      exact hj
    · exact Ev.if_neg (by simpa using he) hj
def btw (a b x : Int) : Bool := decide (a ≤ x ∧ x ≤ b)
theorem pcode_l (e : Int) (he : 1 ≤ e ∧ e ≤ 12) (l : List Int) (hl : l.length ≤ 1000) : ∀ (d i : Nat), l.length - i ≤ d → i ≤ l.length → Ev (fun k => spec_l06Code.l0 k e l (i : Int)) (if (l.drop i).all (btw 0 (e - 1)) = true then 0 else 2) := by
  intro d
  induction d with
  | zero =>
    intro i h h2
    refine Ev.step (fun k => rfl) ?_
    simp only [spec_l06Code.l0]
    exact Ev.if_neg (by omega) (Ev.val (Ev.now _) (by rw [List.drop_eq_nil_of_le (by omega)]; rfl))
  | succ d ih =>
    intro i h h2
    refine Ev.step (fun k => rfl) ?_
    by_cases g : i < l.length
    · have ew : wrap64 ((i : Int) + 1) = ((i + 1 : Nat) : Int) := by rw [wid (by omega) (by omega)]; omega
      have e2 : rd l (i : Int) = l[i] := by rw [rd_get, List.getD_eq_getElem?_getD, List.getElem?_eq_getElem g, Option.getD_some]
      simp only [spec_l06Code.l0, ew, in_eq, Option.bind_some, e2, wid (show -9223372036854775808 ≤ e - 1 by omega) (show e - 1 ≤ 9223372036854775807 by omega)]
      refine Ev.if_pos (by omega) (Ev.if_pos (by omega) ?_)
      rw [List.drop_eq_getElem_cons g, List.all_cons]
      by_cases z : 0 ≤ l[i] ∧ l[i] ≤ e - 1
      · exact Ev.if_pos (by simpa using z) (Ev.val (ih (i + 1) (by omega) (by omega)) (by simp [btw, z]))
      · exact Ev.if_neg (by simpa using z) (Ev.val (Ev.now _) (by simp [btw, z]))
    · simp only [spec_l06Code.l0]
      exact Ev.if_neg (by omega) (Ev.val (Ev.now _) (by rw [List.drop_eq_nil_of_le (by omega)]; rfl))
/-- The reference's code for a prime, a divisor and numbers less than it. -/
theorem pcode_ev (p e : Int) (l : List Int) (hl : l.length ≤ 1000) : Ev (fun k => spec_l06Code.f k p e l) (if (okPE p e && l.all (btw 0 (e - 1))) = true then 0 else 2) := by
  have hj : ∀ l, Ev (fun k => spec_l06Code.j0 k e l true) 2 := fun l => Ev.step (fun k => rfl) (Ev.const fun _ => rfl)
  have hs := prime_spec p
  simp only [spec_l06Code.f, in_eq, Option.bind_some]
  cases hP : isP p with
  | false =>
    rw [hP] at hs
    exact Ev.bind hs (Ev.if_neg (by simp) (Ev.val (hj _) (by simp [okPE, hP])))
  | true =>
    rw [hP] at hs
    have hr := isP_range hP
    refine Ev.bind hs (Ev.if_pos rfl ?_)
    by_cases he : 1 ≤ e ∧ e ≤ 12
    · refine Ev.if_pos (by simpa using he) (Ev.if_neg (by omega) ?_)
      rw [wid (by omega) (by omega)]
      by_cases z : Int.tmod (p - 1) e = 0
      · have hz : okPE p e = true := by simp [okPE, hP, he, z]
        rw [hz, Bool.true_and]
        simp only [z, bne_self_eq_false]
        refine Ev.step (fun k => rfl) ?_
        simp only [spec_l06Code.j0]
        refine Ev.if_neg (by simp) ?_
        have h := pcode_l e he l hl l.length 0 (by omega) (by omega)
        rw [List.drop_zero] at h
        exact h
      · have : (Int.tmod (p - 1) e != 0) = true := by simp [z]
        rw [this]
        exact Ev.val (hj _) (by simp [okPE, z])
    · exact Ev.if_neg (by simpa using he) (Ev.val (hj _) (by simp [okPE, he]))
theorem code0_ev (p e : Int) : Ev (fun k => spec_l06Code.f k p e []) (if okPE p e = true then 0 else 2) := Ev.val (pcode_ev p e [] (by simp)) (by simp)
theorem okPE_b {p e : Int} (h : okPE p e = true) : (3 ≤ p ∧ p ≤ 61) ∧ 1 ≤ e ∧ e ≤ 12 := by
  simp only [okPE, Bool.and_eq_true, decide_eq_true_eq] at h
  exact ⟨isP_range h.1, h.2.1⟩
/-- The numbers x.. of class 0. -/
def memL (t : List Int) (e : Int) : Nat → Nat → List Int
  | 0, _ => []
  | d + 1, x => if Int.tmod (rd t (x : Int)) e = 0 then (x : Int) :: memL t e d (x + 1) else memL t e d (x + 1)
theorem memL_len (t : List Int) (e : Int) : ∀ d x, (memL t e d x).length ≤ d := by
  intro d
  induction d with
  | zero => intro x; simp [memL]
  | succ d ih =>
    intro x
    simp only [memL]
    have := ih (x + 1)
    split <;> simp <;> omega
theorem memL_b (t : List Int) (e : Int) : ∀ d x y, y ∈ memL t e d x → (x : Int) ≤ y ∧ y < ((x + d : Nat) : Int) := by
  intro d
  induction d with
  | zero => intro x y h; simp [memL] at h
  | succ d ih =>
    intro x y h
    simp only [memL] at h
    split at h
    · rcases List.mem_cons.mp h with rfl | h
      · omega
      · have := ih (x + 1) y h
        omega
    · have := ih (x + 1) y h
      omega
theorem mem_impl (p e f : Int) (l t : List Int) (hl : l.length = t.length) (hp : t.length ≤ 61) (hq : ∀ x : Int, 1 ≤ x → x < t.length → rd l x = Int.tmod (rd t x) e) : ∀ (d x : Nat) (xs : List Int), x + d = t.length → 1 ≤ x → xs.length ≤ x → Ev (fun k => impl_periods_members.l0 k 0 xs l (l.length : Int) (x : Int)) (xs ++ memL t e d x) := by
  intro d
  induction d with
  | zero =>
    intro x xs h h1 h2
    refine Ev.step (fun k => rfl) ?_
    simp only [impl_periods_members.l0]
    exact Ev.if_neg (by omega) (Ev.val (Ev.now _) (by simp [memL]))
  | succ d ih =>
    intro x xs h h1 h2
    have ew : wrap64 ((x : Int) + 1) = ((x + 1 : Nat) : Int) := by rw [wid (by omega) (by omega)]; omega
    refine Ev.step (fun k => rfl) ?_
    simp only [impl_periods_members.l0, ew, hq (x : Int) (by omega) (by omega)]
    refine Ev.if_pos (by omega) (Ev.if_pos (by omega) (Ev.if_pos (by omega) ?_))
    by_cases z : Int.tmod (rd t (x : Int)) e = 0
    · refine Ev.if_pos z (Ev.if_pos (by omega) (Ev.val (ih (x + 1) (xs ++ [(x : Int)]) (by omega) (by omega) (by simp; omega)) ?_))
      simp [memL, z]
    · exact Ev.if_neg z (Ev.val (ih (x + 1) xs (by omega) (by omega) (by omega)) (by simp [memL, z]))
/-- The cell of a difference. -/
def cellD (p e : Int) (t : List Int) (x y : Int) : Int := Int.tmod (rd t (Int.tmod ((x - y) + p) p)) e
def incD (p e : Int) (t T : List Int) (x y : Int) : List Int :=
  if x = y then T else T.set (cellD p e t x y).toNat (wrap64 (rd T (cellD p e t x y) + 1))
def rowD (p e : Int) (t : List Int) (x : Int) (ys T : List Int) : List Int := ys.foldl (fun T y => incD p e t T x y) T
def allD (p e : Int) (t : List Int) (ys xs T : List Int) : List Int := xs.foldl (fun T x => rowD p e t x ys T) T
theorem rowD_nil (p e : Int) (t : List Int) (x : Int) (T : List Int) : rowD p e t x [] T = T := rfl
theorem rowD_cons (p e : Int) (t : List Int) (x y : Int) (ys T : List Int) : rowD p e t x (y :: ys) T = rowD p e t x ys (incD p e t T x y) := rfl
theorem allD_nil (p e : Int) (t ys T : List Int) : allD p e t ys [] T = T := rfl
theorem allD_cons (p e : Int) (t ys : List Int) (x : Int) (xs T : List Int) : allD p e t ys (x :: xs) T = allD p e t ys xs (rowD p e t x ys T) := rfl
theorem incD_eq (p e : Int) (t T : List Int) (x y : Int) (h : x = y) : incD p e t T x y = T := if_pos h
theorem incD_ne (p e : Int) (t T : List Int) (x y : Int) (h : ¬ x = y) : incD p e t T x y = T.set (Int.tmod (rd t (Int.tmod ((x - y) + p) p)) e).toNat (wrap64 (rd T (Int.tmod (rd t (Int.tmod ((x - y) + p) p)) e) + 1)) := if_neg h
theorem memL_0 (t : List Int) (e : Int) (x : Nat) : memL t e 0 x = [] := rfl
theorem incD_len (p e : Int) (t T : List Int) (x y : Int) : (incD p e t T x y).length = T.length := by unfold incD; split <;> simp
theorem rowD_len (p e : Int) (t : List Int) (x : Int) : ∀ (ys T : List Int), (rowD p e t x ys T).length = T.length := by
  intro ys
  induction ys with
  | nil => intro T; rfl
  | cons y ys ih => intro T; have := ih (incD p e t T x y); rw [incD_len] at this; exact this
theorem allD_len (p e : Int) (t ys : List Int) : ∀ (xs T : List Int), (allD p e t ys xs T).length = T.length := by
  intro xs
  induction xs with
  | nil => intro T; rfl
  | cons x xs ih => intro T; have := ih (rowD p e t x ys T); rw [rowD_len] at this; exact this
/-- What holds of the table of indices. -/
structure Good (p e : Int) (l t : List Int) : Prop where
  hp : 3 ≤ p ∧ p ≤ 61
  he : 1 ≤ e ∧ e ≤ 12
  tl : (t.length : Int) = p
  ll : (l.length : Int) = p
  at0 : rd l 0 = -1
  row : ∀ x : Int, 1 ≤ x → x < p → rd l x = Int.tmod (rd t x) e ∧ 0 ≤ rd t x ∧ rd t x ≤ 60
theorem tmodb (a b : Int) (ha : 0 ≤ a) (hb : 0 < b) : 0 ≤ Int.tmod a b ∧ Int.tmod a b < b := ⟨Int.tmod_nonneg _ ha, Int.tmod_lt_of_pos _ hb⟩
theorem diff_v {p x y : Int} (hp : 3 ≤ p ∧ p ≤ 61) (hx : 1 ≤ x ∧ x < p) (hy : 1 ≤ y ∧ y < p) (hne : ¬ x = y) : 1 ≤ Int.tmod ((x - y) + p) p ∧ Int.tmod ((x - y) + p) p < p := by
  rw [Int.tmod_eq_emod_of_nonneg (by omega)]
  by_cases h : y < x
  · rw [show (x - y) + p = (x - y) + p * 1 by omega, Int.add_mul_emod_self_left, Int.emod_eq_of_lt (by omega) (by omega)]; omega
  · rw [Int.emod_eq_of_lt (by omega) (by omega)]; omega
theorem around_d {p x y : Int} (hp : 3 ≤ p ∧ p ≤ 61) (hx : 1 ≤ x ∧ x < p) (hy : 1 ≤ y ∧ y < p) : impl_around.f (wrap64 (x - y)) p = some (Int.tmod ((x - y) + p) p) := by
  have : Int.tmod (x - y) p = x - y := by
    by_cases h : y ≤ x
    · exact Int.tmod_eq_of_lt (by omega) (by omega)
    · rw [show x - y = -(y - x) by omega, Int.neg_tmod, Int.tmod_eq_of_lt (by omega) (by omega)]
  unfold impl_around.f
  rw [if_neg (by omega), wid (a := x - y) (by omega) (by omega), this, wid (by omega) (by omega)]
theorem yp_l {y d n : Nat} {p : Int} (h : y + (d + 1) = n) (h1 : 1 ≤ y) (tl : (n : Int) = p) : 1 ≤ (y : Int) ∧ (y : Int) < p := by omega
theorem s_l {y d n : Nat} (h : y + (d + 1) = n) : (y + 1) + d = n := by omega
theorem g_l {y d n : Nat} (h : y + (d + 1) = n) : y < n := by omega
theorem ne_l {p : Int} (h : 3 ≤ p ∧ p ≤ 61) : ¬ p = 0 := by omega
theorem ew_l {y : Nat} (h : (y : Int) ≤ 61) : wrap64 ((y : Int) + 1) = ((y + 1 : Nat) : Int) := by rw [wid (by omega) (by omega)]; omega
theorem ed_l {p x y : Int} (hp : 3 ≤ p ∧ p ≤ 61) (hx : 1 ≤ x ∧ x < p) (hy : 1 ≤ y ∧ y < p) : wrap64 (wrap64 (x - y) + p) = (x - y) + p := by
  have h1 : wrap64 (x - y) = x - y := wid (by omega) (by omega)
  have h2 : wrap64 ((x - y) + p) = (x - y) + p := wid (by omega) (by omega)
  rw [h1, h2]
theorem inner_s {p e : Int} {l t : List Int} (g : Good p e l t) (x : Int) (hx : 1 ≤ x ∧ x < p) (r : List Int) (hm : Int.tmod (rd t x) e = 0) : ∀ (d y : Nat) (T : List Int), (T.length : Int) = e → y + d = t.length → 1 ≤ y → Ev (fun k => spec_l06Differences.l0 k p e t (rowD p e t x (memL t e d y) T) (x + 1)) r → Ev (fun k => spec_l06Differences.l1 k p e t T x (y : Int)) r := by
  obtain ⟨hp, he, tl, ll, at0, row⟩ := g
  intro d
  induction d with
  | zero =>
    intro y T hT h h1 hr
    refine Ev.step (fun k => rfl) ?_
    simp only [spec_l06Differences.l1, wid (show -9223372036854775808 ≤ x + 1 by omega) (show x + 1 ≤ 9223372036854775807 by omega)]
    rw [memL_0, rowD_nil] at hr
    exact Ev.if_neg (by omega) hr
  | succ d ih =>
    intro y T hT h h1 hr
    have yp : 1 ≤ (y : Int) ∧ (y : Int) < p := yp_l h h1 tl
    have h' : (y + 1) + d = t.length := s_l h
    have h1' : 1 ≤ y + 1 := Nat.le_add_left 1 y
    have hp0 : ¬ p = 0 := ne_l hp
    have he0 : ¬ e = 0 := fun z => absurd he.1 (by rw [z]; decide)
    have hep : 0 < e := he.1
    have hx0 : 0 ≤ x := Int.le_trans (by decide) hx.1
    have hy0 : 0 ≤ (y : Int) := Int.le_trans (by decide) yp.1
    have hxt : x < (t.length : Int) := by rw [tl]; exact hx.2
    have hyt : (y : Int) < (t.length : Int) := by rw [tl]; exact yp.2
    have ew : wrap64 ((y : Int) + 1) = ((y + 1 : Nat) : Int) := ew_l (Int.le_of_lt (Int.lt_of_lt_of_le yp.2 hp.2))
    have ed := ed_l hp hx (y := (y : Int)) yp
    refine Ev.step (fun k => rfl) ?_
    simp only [spec_l06Differences.l1, ew, ed]
    refine Ev.if_pos yp.2 ?_
    by_cases hxy : x = (y : Int)
    · refine Ev.if_pos hxy (ih (y + 1) T hT h' h1' ?_)
      have : memL t e (d + 1) y = (y : Int) :: memL t e d (y + 1) := by rw [memL, if_pos (by rw [← hxy]; exact hm)]
      rw [this, rowD_cons, incD_eq _ _ _ _ _ _ hxy] at hr
      exact hr
    · refine Ev.if_neg hxy (Ev.if_pos hx0 (Ev.if_pos hxt (Ev.if_neg he0 (Ev.if_pos hm (Ev.if_pos hy0 (Ev.if_pos hyt ?_))))))
      by_cases z : Int.tmod (rd t (y : Int)) e = 0
      · obtain ⟨v1, v2⟩ := diff_v hp hx yp hxy
        obtain ⟨_, w1, _⟩ := row _ v1 v2
        obtain ⟨c1, c2⟩ := tmodb _ e w1 hep
        refine Ev.if_pos z (Ev.if_neg hp0 (Ev.if_pos (Int.le_trans (by decide) v1) (Ev.if_pos (by rw [tl]; exact v2) (Ev.if_pos c1 (Ev.if_pos (by rw [hT]; exact c2) (ih (y + 1) _ (by rw [List.length_set]; exact hT) h' h1' ?_))))))
        have : memL t e (d + 1) y = (y : Int) :: memL t e d (y + 1) := by rw [memL, if_pos z]
        rw [this, rowD_cons, incD_ne _ _ _ _ _ _ hxy] at hr
        exact hr
      · refine Ev.if_neg z (ih (y + 1) T hT h' h1' ?_)
        have : memL t e (d + 1) y = memL t e d (y + 1) := by rw [memL, if_neg z]
        rw [this] at hr
        exact hr
theorem inner_n {p e : Int} {l t : List Int} (g : Good p e l t) (x : Int) (hx : 1 ≤ x ∧ x < p) (r : List Int) (hm : ¬ Int.tmod (rd t x) e = 0) (T : List Int) (hr : Ev (fun k => spec_l06Differences.l0 k p e t T (x + 1)) r) : ∀ (d y : Nat), y + d = t.length → 1 ≤ y → Ev (fun k => spec_l06Differences.l1 k p e t T x (y : Int)) r := by
  obtain ⟨hp, he, tl, ll, at0, row⟩ := g
  intro d
  induction d with
  | zero =>
    intro y h h1
    refine Ev.step (fun k => rfl) ?_
    simp only [spec_l06Differences.l1, wid (show -9223372036854775808 ≤ x + 1 by omega) (show x + 1 ≤ 9223372036854775807 by omega)]
    exact Ev.if_neg (by omega) hr
  | succ d ih =>
    intro y h h1
    have ew : wrap64 ((y : Int) + 1) = ((y + 1 : Nat) : Int) := by rw [wid (by omega) (by omega)]; omega
    refine Ev.step (fun k => rfl) ?_
    simp only [spec_l06Differences.l1, ew]
    refine Ev.if_pos (by omega) ?_
    by_cases hxy : x = (y : Int)
    · exact Ev.if_pos hxy (ih (y + 1) (by omega) (by omega))
    · exact Ev.if_neg hxy (Ev.if_pos (by omega) (Ev.if_pos (by omega) (Ev.if_neg (by omega) (Ev.if_neg hm (ih (y + 1) (by omega) (by omega))))))
theorem outer_s {p e : Int} {l t : List Int} (g : Good p e l t) (r : List Int) : ∀ (d x : Nat) (T : List Int), (T.length : Int) = e → x + d = t.length → 1 ≤ x → Ev (fun k => spec_l06Differences.l2 k p e (allD p e t (memL t e (t.length - 1) 1) (memL t e d x) T) 0) r → Ev (fun k => spec_l06Differences.l0 k p e t T (x : Int)) r := by
  have g' := g
  obtain ⟨hp, he, tl, ll, at0, row⟩ := g'
  intro d
  induction d with
  | zero =>
    intro x T hT h h1 hr
    refine Ev.step (fun k => rfl) ?_
    simp only [spec_l06Differences.l0]
    rw [memL_0, allD_nil] at hr
    exact Ev.if_neg (by omega) hr
  | succ d ih =>
    intro x T hT h h1 hr
    refine Ev.step (fun k => rfl) ?_
    simp only [spec_l06Differences.l0]
    refine Ev.if_pos (by omega) ?_
    by_cases z : Int.tmod (rd t (x : Int)) e = 0
    · refine inner_s g (x : Int) (by omega) r z (t.length - 1) 1 T hT (by omega) (by omega) ?_
      refine ih (x + 1) _ (by rw [rowD_len]; exact hT) (by omega) (by omega) ?_
      have : memL t e (d + 1) x = (x : Int) :: memL t e d (x + 1) := by rw [memL, if_pos z]
      rw [this, allD_cons] at hr
      exact hr
    · refine inner_n g (x : Int) (by omega) r z T (ih (x + 1) T hT (by omega) (by omega) ?_) (t.length - 1) 1 (by omega) (by omega)
      have : memL t e (d + 1) x = memL t e d (x + 1) := by rw [memL, if_neg z]
      rw [this] at hr
      exact hr
theorem inner_i {p e f : Int} {l t : List Int} (g : Good p e l t) (L : List Int) (hL : L.length ≤ 61) (hb : ∀ y, y ∈ L → 1 ≤ y ∧ y < p) (x : Int) (hx : 1 ≤ x ∧ x < p) (n : Int) (j : Nat) (hj : j ≤ 61) (r : List Int) : ∀ (d i : Nat) (T : List Int), (T.length : Int) = e → i + d = L.length → Ev (fun k => impl_periods_differences.l0 k (rowD p e t x (L.drop i) T) L L n ((j + 1 : Nat) : Int) p e f l) r → Ev (fun k => impl_periods_differences.l1 k T L x L n (j : Int) L (L.length : Int) (i : Int) p e f l) r := by
  obtain ⟨hp, he, tl, ll, at0, row⟩ := g
  have ej : wrap64 ((j : Int) + 1) = ((j + 1 : Nat) : Int) := by rw [wid (by omega) (by omega)]; omega
  intro d
  induction d with
  | zero =>
    intro i T hT h hr
    refine Ev.step (fun k => rfl) ?_
    simp only [impl_periods_differences.l1, ej]
    rw [List.drop_eq_nil_of_le (by omega), rowD_nil] at hr
    exact Ev.if_neg (by omega) hr
  | succ d ih =>
    intro i T hT h hr
    have g : i < L.length := g_l h
    have h' : (i + 1) + d = L.length := s_l h
    have hep : 0 < e := he.1
    have i0 : 0 ≤ (i : Int) := Int.natCast_nonneg i
    have b1 : (i : Int) < (L.length : Int) := Int.ofNat_lt.mpr g
    have ew : wrap64 ((i : Int) + 1) = ((i + 1 : Nat) : Int) := ew_l (Int.ofNat_le.mpr (Nat.le_trans (Nat.le_of_lt g) hL))
    have e2 : rd L (i : Int) = L[i] := by rw [rd_get, List.getD_eq_getElem?_getD, List.getElem?_eq_getElem g, Option.getD_some]
    have yp := hb L[i] (List.getElem_mem g)
    refine Ev.step (fun k => rfl) ?_
    simp only [impl_periods_differences.l1, ew, e2]
    refine Ev.if_pos b1 (Ev.if_pos i0 (Ev.if_pos b1 ?_))
    rw [List.drop_eq_getElem_cons g, rowD_cons] at hr
    by_cases hxy : x = L[i]
    · refine Ev.if_pos hxy (ih (i + 1) T hT h' ?_)
      rw [incD_eq _ _ _ _ _ _ hxy] at hr
      exact hr
    · obtain ⟨v1, v2⟩ := diff_v hp hx yp hxy
      obtain ⟨w0, w1, _⟩ := row _ v1 v2
      obtain ⟨c1, c2⟩ := tmodb _ e w1 hep
      simp only [around_d hp hx yp, Option.bind_some, w0]
      refine Ev.if_neg hxy (Ev.if_pos (Int.le_trans (by decide) v1) (Ev.if_pos (by rw [ll]; exact v2) (Ev.if_pos c1 (Ev.if_pos (by rw [hT]; exact c2) (ih (i + 1) _ (by rw [List.length_set]; exact hT) h' ?_)))))
      rw [incD_ne _ _ _ _ _ _ hxy] at hr
      exact hr
theorem outer_i {p e f : Int} {l t : List Int} (g : Good p e l t) (L : List Int) (hL : L.length ≤ 61) (hb : ∀ y, y ∈ L → 1 ≤ y ∧ y < p) (r : List Int) : ∀ (d j : Nat) (T : List Int), (T.length : Int) = e → j + d = L.length → Ev (fun k => impl_periods_differences.l2 k (allD p e t L (L.drop j) T) ((allD p e t L (L.drop j) T).length : Int) 0 p e f l) r → Ev (fun k => impl_periods_differences.l0 k T L L (L.length : Int) (j : Int) p e f l) r := by
  have g' := g
  obtain ⟨hp, he, tl, ll, at0, row⟩ := g'
  intro d
  induction d with
  | zero =>
    intro j T hT h hr
    refine Ev.step (fun k => rfl) ?_
    simp only [impl_periods_differences.l0]
    rw [List.drop_eq_nil_of_le (by omega), allD_nil] at hr
    exact Ev.if_neg (by omega) hr
  | succ d ih =>
    intro j T hT h hr
    have gj : j < L.length := by omega
    have e2 : rd L (j : Int) = L[j] := by rw [rd_get, List.getD_eq_getElem?_getD, List.getElem?_eq_getElem gj, Option.getD_some]
    refine Ev.step (fun k => rfl) ?_
    simp only [impl_periods_differences.l0, e2]
    refine Ev.if_pos (by omega) (Ev.if_pos (by omega) (Ev.if_pos (by omega) ?_))
    rw [List.drop_eq_getElem_cons gj, allD_cons] at hr
    refine inner_i g L hL hb L[j] (hb _ (List.getElem_mem gj)) (L.length : Int) j (by omega) r L.length 0 T hT (by omega) ?_
    refine ih (j + 1) _ (by rw [rowD_len]; exact hT) (by omega) ?_
    rw [List.drop_zero]
    exact hr
/-- The cells from i on, divided. -/
def divD (f : Int) : Nat → Nat → List Int → List Int
  | 0, _, T => T
  | d + 1, i, T => divD f d (i + 1) (T.set i (wrap64 (Int.tdiv (rd T (i : Int)) f)))
theorem divD_len (f : Int) : ∀ d i T, (divD f d i T).length = T.length := by
  intro d
  induction d with
  | zero => intro i T; rfl
  | succ d ih => intro i T; rw [divD, ih]; simp
theorem div_s (p e f : Int) (hp : 3 ≤ p ∧ p ≤ 61) (he : 1 ≤ e ∧ e ≤ 12) (hf : f = Int.tdiv (p - 1) e) (hf0 : ¬ f = 0) (hfb : 0 ≤ f ∧ f ≤ 61) : ∀ (d i : Nat) (T : List Int), (T.length : Int) = e → i + d = T.length → Ev (fun k => spec_l06Differences.l2 k p e T (i : Int)) (divD f d i T) := by
  have e1 : wrap64 (Int.tdiv (wrap64 (p - 1)) e) = f := by rw [wid (a := p - 1) (by omega) (by omega), ← hf, wid (by omega) (by omega)]
  intro d
  induction d with
  | zero =>
    intro i T hT h
    refine Ev.step (fun k => rfl) ?_
    simp only [spec_l06Differences.l2]
    exact Ev.if_neg (by omega) (Ev.now _)
  | succ d ih =>
    intro i T hT h
    have ew : wrap64 ((i : Int) + 1) = ((i + 1 : Nat) : Int) := by rw [wid (by omega) (by omega)]; omega
    refine Ev.step (fun k => rfl) ?_
    simp only [spec_l06Differences.l2, ew, e1]
    refine Ev.if_pos (by omega) (Ev.if_pos (by omega) (Ev.if_pos (by omega) (Ev.if_neg (by omega) (Ev.if_neg hf0 ?_))))
    have := ih (i + 1) (T.set i (wrap64 (Int.tdiv (rd T (i : Int)) f))) (by simpa using hT) (by simp; omega)
    simpa [divD] using this
theorem div_i (p e f : Int) (l : List Int) (hf0 : ¬ f = 0) : ∀ (d i : Nat) (T : List Int), T.length ≤ 61 → i + d = T.length → Ev (fun k => impl_periods_differences.l2 k T (T.length : Int) (i : Int) p e f l) (divD f d i T) := by
  intro d
  induction d with
  | zero =>
    intro i T hT h
    refine Ev.step (fun k => rfl) ?_
    simp only [impl_periods_differences.l2]
    exact Ev.if_neg (by omega) (Ev.now _)
  | succ d ih =>
    intro i T hT h
    have ew : wrap64 ((i : Int) + 1) = ((i + 1 : Nat) : Int) := by rw [wid (by omega) (by omega)]; omega
    refine Ev.step (fun k => rfl) ?_
    simp only [impl_periods_differences.l2, ew]
    refine Ev.if_pos (by omega) (Ev.if_pos (by omega) (Ev.if_pos (by omega) (Ev.if_neg hf0 ?_)))
    have := ih (i + 1) (T.set i (wrap64 (Int.tdiv (rd T (i : Int)) f))) (by simpa using hT) (by simp; omega)
    simpa [divD] using this
def eqF (T : List Int) : Nat → Nat → Bool
  | 0, _ => true
  | d + 1, i => if rd T (i : Int) = rd T 0 then eqF T d (i + 1) else false
theorem eq_s (T : List Int) (hT : 1 ≤ T.length ∧ T.length ≤ 61) : ∀ (d i : Nat), i + d = T.length → Ev (fun k => spec_IsDifferenceClass.l0 k T (i : Int)) (eqF T d i, 0) := by
  intro d
  induction d with
  | zero =>
    intro i h
    refine Ev.step (fun k => rfl) ?_
    simp only [spec_IsDifferenceClass.l0]
    exact Ev.if_neg (by omega) (Ev.now _)
  | succ d ih =>
    intro i h
    have ew : wrap64 ((i : Int) + 1) = ((i + 1 : Nat) : Int) := by rw [wid (by omega) (by omega)]; omega
    refine Ev.step (fun k => rfl) ?_
    simp only [spec_IsDifferenceClass.l0, ew]
    refine Ev.if_pos (by omega) (Ev.if_pos (by omega) (Ev.if_pos (by omega) ?_))
    by_cases z : rd T (i : Int) = rd T 0
    · exact Ev.if_pos z (Ev.val (ih (i + 1) (by omega)) (by simp only [eqF, if_pos z]))
    · exact Ev.if_neg z (Ev.val (Ev.now _) (by simp only [eqF, if_neg z]))
theorem eq_i (T : List Int) (hT : 1 ≤ T.length ∧ T.length ≤ 61) : ∀ (d i : Nat), i + d = T.length → Ev (fun k => impl_IsDifferenceClass.l0 k T T (T.length : Int) (i : Int)) (eqF T d i, 0) := by
  intro d
  induction d with
  | zero =>
    intro i h
    refine Ev.step (fun k => rfl) ?_
    simp only [impl_IsDifferenceClass.l0]
    exact Ev.if_neg (by omega) (Ev.now _)
  | succ d ih =>
    intro i h
    have ew : wrap64 ((i : Int) + 1) = ((i + 1 : Nat) : Int) := by rw [wid (by omega) (by omega)]; omega
    refine Ev.step (fun k => rfl) ?_
    simp only [impl_IsDifferenceClass.l0, ew]
    refine Ev.if_pos (by omega) (Ev.if_pos (by omega) (Ev.if_pos (by omega) (Ev.if_pos (by omega) ?_)))
    by_cases z : rd T (i : Int) = rd T 0
    · exact Ev.if_pos z (Ev.val (ih (i + 1) (by omega)) (by simp only [eqF, if_pos z]))
    · exact Ev.if_neg z (Ev.val (Ev.now _) (by simp only [eqF, if_neg z]))
theorem FnExactIsDifferenceClass : laws_FnExactIsDifferenceClass.Pure := by
  intro p e hp he
  obtain ⟨b1, b2⟩ := wfb hp
  have hc := code0_ev p e
  obtain ⟨b, c, s, r⟩ : ∃ (b : Bool) (c : Int), Ev (fun k => spec_IsDifferenceClass.f k p e) (b, c) ∧ Ev (fun k => impl_IsDifferenceClass.f k p e) (b, c) := by
    simp only [spec_IsDifferenceClass.f, impl_IsDifferenceClass.f]
    cases h : okPE p e with
    | false =>
      rw [h] at hc
      have hq := per_no p e b2 h
      exact ⟨false, 2, Ev.bind hc (Ev.if_neg (by simp) (Ev.const fun _ => by simp)), Ev.bind hq (Ev.const fun _ => rfl)⟩
    | true =>
      rw [h] at hc
      obtain ⟨⟨p1, p2⟩, e1, e2⟩ := okPE_b h
      obtain ⟨l, t, hq, hs, hl, ht, h0, hx⟩ := per_ev p e h
      have g : Good p e l t := ⟨⟨p1, p2⟩, ⟨e1, e2⟩, ht, hl, h0, hx⟩
      have hz : Int.tmod (p - 1) e = 0 := by
        simp only [okPE, Bool.and_eq_true, decide_eq_true_eq] at h
        exact h.2.2
      obtain ⟨f, hf⟩ : ∃ f, f = Int.tdiv (p - 1) e := ⟨_, rfl⟩
      have hmul : e * f = p - 1 := by
        have := Int.tmod_add_mul_tdiv (p - 1) e
        rw [hz, ← hf] at this
        omega
      have hf1 : 1 ≤ f := by
        by_cases q : 1 ≤ f
        · exact q
        · exfalso
          have : e * f ≤ 0 := Int.mul_nonpos_of_nonneg_of_nonpos (by omega) (by omega)
          omega
      have hf2 : f ≤ 61 := by
        have : 1 * f ≤ e * f := Int.mul_le_mul_of_nonneg_right (by omega) (by omega)
        omega
      have hb : ∀ y, y ∈ memL t e (t.length - 1) 1 → 1 ≤ y ∧ y < p := fun y hy => by
        have := memL_b t e (t.length - 1) 1 y hy
        omega
      have hL : (memL t e (t.length - 1) 1).length ≤ 61 := by
        have := memL_len t e (t.length - 1) 1
        omega
      have he0 : ((List.replicate e.toNat (0 : Int)).length : Int) = e := by rw [List.length_replicate]; omega
      obtain ⟨A, hA⟩ : ∃ A, A = allD p e t (memL t e (t.length - 1) 1) (memL t e (t.length - 1) 1) (List.replicate e.toNat (0 : Int)) := ⟨_, rfl⟩
      have hAl : (A.length : Int) = e := by rw [hA, allD_len]; exact he0
      obtain ⟨D, hD⟩ : ∃ D, D = divD f A.length 0 A := ⟨_, rfl⟩
      have hDl : D.length = A.length := by rw [hD, divD_len]
      have hsD : Ev (fun k => spec_l06Differences.f k p e) D := by
        simp only [spec_l06Differences.f]
        refine Ev.bind hs (Ev.if_pos (by omega) (Ev.if_pos (by omega) ?_))
        have := outer_s g D (t.length - 1) 1 (List.replicate e.toNat (0 : Int)) he0 (by omega) (by omega) (by
          rw [← hA, hD]
          exact div_s p e f ⟨p1, p2⟩ ⟨e1, e2⟩ hf (by omega) (by omega) A.length 0 A hAl (by omega))
        exact this
      have hm : Ev (fun k => impl_periods_members.f k p e f l 0) (memL t e (t.length - 1) 1) := by
        simp only [impl_periods_members.f]
        refine Ev.step (fun k => rfl) ?_
        simp only [impl_periods_members.l0, h0]
        refine Ev.if_pos (by omega) (Ev.if_pos (by omega) (Ev.if_pos (by omega) (Ev.if_neg (by omega) ?_)))
        rw [show wrap64 ((0 : Int) + 1) = ((1 : Nat) : Int) from by rw [wid (by omega) (by omega)]; omega]
        have := mem_impl p e f l t (by omega) (by omega) (fun x x1 x2 => (hx x x1 (by omega)).1) (t.length - 1) 1 [] (by omega) (by omega) (by simp)
        simpa using this
      have hiD : Ev (fun k => impl_periods_differences.f k p e f l) D := by
        simp only [impl_periods_differences.f]
        refine Ev.if_pos (by omega) (Ev.if_pos (by omega) (Ev.bind hm ?_))
        refine outer_i g _ hL hb D (memL t e (t.length - 1) 1).length 0 _ he0 (by omega) ?_
        rw [List.drop_zero, ← hA, hD]
        exact div_i p e f l (by omega) A.length 0 A (by omega) (by omega)
      refine ⟨eqF D D.length 0, 0, Ev.bind hc (Ev.if_pos rfl (Ev.bind hsD (eq_s D (by omega) D.length 0 (by omega)))), ?_⟩
      rw [← hf] at hq
      exact Ev.bind hq (Ev.if_pos rfl (Ev.bind hiD (eq_i D (by omega) D.length 0 (by omega))))
  refine Ev.rounds (g := fun k => laws_FnExactIsDifferenceClass.f k p e) ?_
  simp only [laws_FnExactIsDifferenceClass.f]
  refine Ev.bind s (Ev.bind r ?_)
  simp only [bne_self_eq_false]
  exact Ev.if_neg (by simp) (Ev.if_pos (by trivial) (Ev.now _))

end Go.Proofs.Ytighmnkeopkhlaa.Pure
