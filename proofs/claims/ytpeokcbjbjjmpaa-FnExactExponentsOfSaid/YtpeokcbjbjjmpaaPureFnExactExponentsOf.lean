/- The exponents of a character, as the program and as the reference tell them, for all arguments. No condition. -/
import Derived.Test.YtpeokcbjbjjmpaaXFnExactExponentsOfx3
namespace Go.Proofs.Ytpeokcbjbjjmpaa.Pure
open Go.RowKit Go.Proofs.Ytpeokcbjbjjmpaa.XFnExactExponentsOf Go.Proofs.YtpeokcbjbjjmpaaW.PrintWords Go.Proofs.YtpeokcbjbjjmpaaW.PrintLast
set_option linter.unusedVariables false
set_option linter.unusedSimpArgs false

theorem wfb {a : Int} (h : (Lit.int .i64 a).wf = true) : -9223372036854775808 ≤ a ∧ a ≤ 9223372036854775807 := by
  simp only [Lit.wf, IntKind.min, IntKind.max, IntKind.signed, IntKind.bits, Bool.and_eq_true, decide_eq_true_eq, if_true] at h
  omega
theorem wid {a : Int} (h1 : -9223372036854775808 ≤ a) (h2 : a ≤ 9223372036854775807) : wrap64 a = a := by
  unfold wrap64; omega
theorem Ev.const {α : Type} {g : Nat → Option α} {r : α} (h : ∀ k, g k = some r) : Ev g r := ⟨0, fun k _ => h k⟩
theorem Ev.if_pos {α : Type} {c : Prop} [Decidable c] {f g : Nat → Option α} {r : α} (hc : c) (h : Ev f r) : Ev (fun k => if c then f k else g k) r :=
  Ev.congr (fun k => _root_.if_pos hc) h
theorem Ev.if_neg {α : Type} {c : Prop} [Decidable c] {f g : Nat → Option α} {r : α} (hc : ¬ c) (h : Ev g r) : Ev (fun k => if c then f k else g k) r :=
  Ev.congr (fun k => _root_.if_neg hc) h
theorem Ev.val {α : Type} {f : Nat → Option α} {r s : α} (h : Ev f r) (e : r = s) : Ev f s := e ▸ h
theorem within_eq (a b c : Int) : impl_within.f a b c = some (decide (b ≤ a ∧ a ≤ c)) := by
  unfold impl_within.f
  by_cases h : b ≤ a <;> simp [h]
theorem in_eq (a b c : Int) : spec_l01In.f a b c = some (decide (b ≤ a ∧ a ≤ c)) := by
  unfold spec_l01In.f
  by_cases h : b ≤ a <;> simp [h]
def isP (p : Int) : Bool := [3, 5, 7, 11, 13, 17, 19, 23, 29, 31, 37, 41, 43, 47, 53, 59, 61].contains p
theorem isP_range {p : Int} (h : isP p = true) : 3 ≤ p ∧ p ≤ 61 := by
  simp [isP] at h; omega
theorem isP_out {p : Int} (h : ¬ (3 ≤ p ∧ p ≤ 61)) : isP p = false := by
  cases e : isP p with
  | false => rfl
  | true => exact absurd (isP_range e) h
theorem prime_in : ∀ n : Nat, n < 62 → 3 ≤ n → impl_isPrime.f 10 (n : Int) = some (isP (n : Int)) ∧ spec_l03Prime.f 10 (n : Int) = some (isP (n : Int)) := by decide +kernel
theorem prime_out_l (p : Int) (hp : 62 ≤ p) (hp2 : p ≤ 9223372036854775807) : ∀ (n : Nat) (d : Int), 2 ≤ d → d ≤ p → p - d ≤ n → impl_isPrime.l0 (n + 1) p d = some false := by
  have hw : impl_within.f p 3 61 = some false := by rw [within_eq, decide_eq_false (by omega)]
  intro n
  induction n with
  | zero =>
    intro d h1 h2 h3
    obtain rfl : d = p := by omega
    simp only [impl_isPrime.l0]
    split
    · rw [if_neg (by omega), if_pos (Int.tmod_self)]
    · rw [hw]; rfl
  | succ n ih =>
    intro d h1 h2 h3
    rw [impl_isPrime.l0]
    split
    · rw [if_neg (by omega)]
      by_cases e : Int.tmod p d = 0
      · rw [if_pos e]
      · rw [if_neg e]
        have hd : d ≠ p := fun e' => e (by rw [e']; exact Int.tmod_self)
        rw [wid (by omega) (by omega)]
        exact ih (d + 1) (by omega) (by omega) (by omega)
    · rw [hw]; rfl
theorem prime_impl (p : Int) (hp : p ≤ 9223372036854775807) : Ev (fun k => impl_isPrime.f k p) (isP p) := by
  by_cases h : 3 ≤ p ∧ p ≤ 61
  · obtain ⟨n, rfl⟩ := Int.eq_ofNat_of_zero_le (show 0 ≤ p by omega)
    exact Ev.of (impl_isPrime.mono _) (prime_in n (by omega) (by omega)).1
  · rw [isP_out h]
    by_cases h2 : p < 3
    · refine ⟨1, fun k hk => ?_⟩
      obtain ⟨k, rfl⟩ : ∃ m, k = m + 1 := ⟨k - 1, by omega⟩
      show impl_isPrime.f (k + 1) p = some false
      unfold impl_isPrime.f
      rw [impl_isPrime.l0, if_neg (by rw [wid (by omega) (by omega)]; omega), within_eq, decide_eq_false (by omega)]
      rfl
    · refine Ev.of (impl_isPrime.mono _) (k := (p - 2).toNat + 1) ?_
      exact prime_out_l p (by omega) hp _ 2 (by omega) (by omega) (by omega)
theorem prime_spec (p : Int) : Ev (fun k => spec_l03Prime.f k p) (isP p) := by
  by_cases h : 3 ≤ p ∧ p ≤ 61
  · obtain ⟨n, rfl⟩ := Int.eq_ofNat_of_zero_le (show 0 ≤ p by omega)
    exact Ev.of (spec_l03Prime.mono _) (prime_in n (by omega) (by omega)).2
  · rw [isP_out h]
    refine Ev.const (fun k => ?_)
    unfold spec_l03Prime.f
    rw [in_eq, decide_eq_false h]
    rfl
/-- Is there a character with a prime and an order? -/
def okPN (p n : Int) : Bool := isP p && (decide (1 ≤ n ∧ n ≤ 16) && decide (Int.tmod (p - 1) n = 0))
theorem okPN_range {p n : Int} (h : okPN p n = true) : 3 ≤ p ∧ p ≤ 61 ∧ 1 ≤ n ∧ n ≤ 16 := by
  simp only [okPN, Bool.and_eq_true, decide_eq_true_eq] at h
  have := isP_range h.1
  omega
theorem areOf_impl (p n : Int) (hp : p ≤ 9223372036854775807) : Ev (fun k => impl_areOf.f k p n) (okPN p n) := by
  simp only [impl_areOf.f, impl_isOrder.f, within_eq, Option.bind_some]
  refine Ev.bind (prime_impl p hp) ?_
  cases hP : isP p with
  | false => exact Ev.val (Ev.const fun _ => rfl) (by simp [okPN, hP])
  | true =>
    obtain ⟨p1, p2⟩ := isP_range hP
    simp only [if_true]
    by_cases h : 1 ≤ n ∧ n ≤ 16
    · simp only [decide_eq_true h, if_true, if_neg (show ¬ n = 0 by omega), wid (show -9223372036854775808 ≤ p - 1 by omega) (show p - 1 ≤ 9223372036854775807 by omega)]
      exact Ev.val (Ev.now _) (by simp [okPN, hP, h]; rfl)
    · simp only [decide_eq_false h]
      exact Ev.val (Ev.now _) (by simp [okPN, hP, h])
def isChar (p n w : Int) : Bool := okPN p n && decide (0 ≤ w ∧ w ≤ n - 1)
theorem order_spec (p n : Int) (h1 : 3 ≤ p ∧ p ≤ 61) : spec_l03Order.f p n = some (decide (1 ≤ n ∧ n ≤ 16) && decide (Int.tmod (p - 1) n = 0)) := by
  unfold spec_l03Order.f
  rw [in_eq, Option.bind_some, wid (by omega) (by omega)]
  by_cases h : 1 ≤ n ∧ n ≤ 16
  · rw [if_pos (by simp [h]), if_neg (by omega)]
    simp [h]; rfl
  · simp [h]
theorem ischar_spec (p n w : Int) : Ev (fun k => spec_l03Is.f k p n w) (isChar p n w) := by
  simp only [spec_l03Is.f]
  refine Ev.bind (prime_spec p) ?_
  cases hP : isP p with
  | false => exact Ev.val (Ev.const fun _ => rfl) (by simp [isChar, okPN, hP])
  | true =>
    simp only [if_true, order_spec p n (isP_range hP), in_eq, Option.bind_some]
    by_cases h : 1 ≤ n ∧ n ≤ 16
    · rw [wid (show -9223372036854775808 ≤ n - 1 by omega) (show n - 1 ≤ 9223372036854775807 by omega)]
      refine Ev.const fun _ => ?_
      by_cases e : Int.tmod (p - 1) n = 0 <;> simp [isChar, okPN, hP, h, e]
    · exact Ev.const fun _ => by simp [isChar, okPN, hP, h]
theorem ischar_impl (p n w : Int) (hp : p ≤ 9223372036854775807) : Ev (fun k => impl_IsCharacter.f k p n w) (isChar p n w) := by
  simp only [impl_IsCharacter.f]
  refine Ev.bind (areOf_impl p n hp) ?_
  cases hP : okPN p n with
  | false => exact Ev.val (Ev.const fun _ => rfl) (by simp [isChar, hP])
  | true =>
    obtain ⟨_, _, h1, h2⟩ := okPN_range hP
    simp only [if_true, within_eq, Option.bind_some, wid (show -9223372036854775808 ≤ n - 1 by omega) (show n - 1 ≤ 9223372036854775807 by omega)]
    exact Ev.val (Ev.now _) (by simp [isChar, hP])

theorem rd_get (l : List Int) (i : Nat) : rd l (i : Int) = l.getD i 0 := by simp [rd]
/-- The indices by a prime, for the machine. -/
def idxOk (p : Nat) : Bool :=
  match impl_indices.f 700 (p : Int), spec_l03Root.f 700 (p : Int) with
  | some (t, _), some r => decide (t.length = p) && (decide (rd t 0 = -1) && (List.range p).all fun x => x == 0 || (spec_l03Index.l0 100 (p : Int) (x : Int) r 1 0 == some (rd t (x : Int))) && decide (0 ≤ rd t (x : Int) ∧ rd t (x : Int) ≤ 60))
  | _, _ => false
set_option maxHeartbeats 20000000 in
theorem idx_all : ∀ p : Nat, p < 62 → isP (p : Int) = true → idxOk p = true := by decide +kernel
theorem idx_ev (p : Int) (hP : isP p = true) : ∃ (t : List Int) (g : Int), Ev (fun k => impl_indices.f k p) (t, g) ∧ (t.length : Int) = p ∧ rd t 0 = -1 ∧
    ∀ x : Int, 1 ≤ x → x < p → 0 ≤ rd t x ∧ rd t x ≤ 60 ∧ ∀ y : Int, Int.tmod (wrap64 (Int.tmod y p + p)) p = x → Ev (fun k => spec_l03Index.f k p y) (rd t x) := by
  have hr := isP_range hP
  obtain ⟨q, rfl⟩ := Int.eq_ofNat_of_zero_le (show 0 ≤ p by omega)
  have hk := idx_all q (by omega) hP
  unfold idxOk at hk
  split at hk
  · rename_i t g r h1 h2
    simp only [Bool.and_eq_true, decide_eq_true_eq, List.all_eq_true, List.mem_range, Bool.or_eq_true, beq_iff_eq] at hk
    obtain ⟨hl, h0, hx⟩ := hk
    refine ⟨t, g, Ev.of (impl_indices.mono _) h1, by omega, h0, fun x x1 x2 => ?_⟩
    obtain ⟨y, rfl⟩ := Int.eq_ofNat_of_zero_le (show 0 ≤ x by omega)
    rcases hx y (by omega) with h | ⟨h, b⟩
    · omega
    · refine ⟨b.1, b.2, fun z hz => ?_⟩
      simp only [spec_l03Index.f]
      refine Ev.bind (Ev.of (spec_l03Root.mono _) h2) (Ev.if_neg (by omega) ?_)
      rw [hz]
      exact Ev.of (g := fun k => spec_l03Index.l0 k (q : Int) (y : Int) r 1 0) (fun k => spec_l03Index.mono_l k _ _ _ _ _) h
  · exact absurd hk (by simp)
/-- The exponents of a character at 0.. p - 1. -/
def expL (n w : Int) (t : List Int) : List Int := (List.range t.length).map fun (x : Nat) => if x = 0 then -1 else Int.tmod (wrap64 (rd t (x : Int) * w)) n
theorem expL_len (n w : Int) (t : List Int) : (expL n w t).length = t.length := by simp [expL]
theorem expL_at (n w : Int) (t : List Int) (x : Nat) (h : x < t.length) : (expL n w t)[x]? = some (if x = 0 then -1 else Int.tmod (wrap64 (rd t (x : Int) * w)) n) := by
  simp [expL, h]
theorem rd_expL (n w : Int) (t : List Int) (x : Int) (h1 : 1 ≤ x) (h2 : x < t.length) : rd (expL n w t) x = Int.tmod (wrap64 (rd t x * w)) n := by
  obtain ⟨y, rfl⟩ := Int.eq_ofNat_of_zero_le (show 0 ≤ x by omega)
  rw [rd_get, List.getD_eq_getElem?_getD, expL_at n w t y (by omega), if_neg (by omega)]
  rfl
/-- The first i are done. -/
def mix (a b : List Int) (i : Nat) : List Int := a.take i ++ b.drop i
theorem mix_len (a b : List Int) (i : Nat) (h : a.length = b.length) : (mix a b i).length = b.length := by
  simp [mix]; omega
theorem mix_rd (a b : List Int) (i : Nat) (h : a.length = b.length) (hi : i < b.length) : rd (mix a b i) (i : Int) = rd b (i : Int) := by
  rw [rd_get, rd_get, List.getD_eq_getElem?_getD, List.getD_eq_getElem?_getD, mix, List.getElem?_append_right (by rw [List.length_take]; omega), List.getElem?_drop]
  congr 2
  simp
  omega
theorem mix_set (a b : List Int) (i : Nat) (h : a.length = b.length) (hi : i < b.length) (v : Int) (hv : a[i]? = some v) : (mix a b i).set i v = mix a b (i + 1) := by
  have e1 : (a.take i).length = i := by simp; omega
  unfold mix
  rw [List.set_append_right _ _ (by omega), e1, Nat.sub_self, List.take_add_one, hv, List.drop_eq_getElem_cons hi, List.set_cons_zero, List.append_assoc]
  rfl
theorem expo_l (n w : Int) (hn : 1 ≤ n) (t : List Int) (ht : t.length ≤ 1048576) (h0 : rd t 0 = -1) (a : Int) : ∀ (d i : Nat), i + d = t.length → Ev (fun k => impl_exponents.l0 k (mix (expL n w t) t i) (t.length : Int) (i : Int) a n w) (expL n w t) := by
  intro d
  have hle := expL_len n w t
  induction d with
  | zero =>
    intro i h
    refine Ev.step (fun k => rfl) ?_
    simp only [impl_exponents.l0]
    refine Ev.if_neg (by omega) (Ev.val (Ev.now _) ?_)
    unfold mix
    rw [List.take_of_length_le (by omega), List.drop_eq_nil_of_le (by omega), List.append_nil]
  | succ d ih =>
    intro i h
    have ew : wrap64 ((i : Int) + 1) = ((i + 1 : Nat) : Int) := by rw [wid (by omega) (by omega)]; omega
    have hv := expL_at n w t i (by omega)
    refine Ev.step (fun k => rfl) ?_
    simp only [impl_exponents.l0, ew, mix_len _ _ _ hle]
    refine Ev.if_pos (by omega) (Ev.if_pos (by omega) (Ev.if_pos (by omega) ?_))
    by_cases z : i = 0
    · subst z
      refine Ev.if_neg (by omega) ?_
      rw [if_pos rfl] at hv
      have e : mix (expL n w t) t 0 = mix (expL n w t) t 1 := by
        rw [← mix_set _ _ 0 hle (by omega) _ hv]
        have : (mix (expL n w t) t 0)[0]? = some (-1) := by
          have r := mix_rd (expL n w t) t 0 hle (by omega)
          rw [show rd t ((0 : Nat) : Int) = -1 from h0, rd_get, List.getD_eq_getElem?_getD, List.getElem?_eq_getElem (by rw [mix_len _ _ _ hle]; omega)] at r
          rw [List.getElem?_eq_getElem (by rw [mix_len _ _ _ hle]; omega)]
          exact congrArg some r
        apply List.ext_getElem? fun j => ?_
        by_cases g : j = 0
        · subst g
          rw [List.getElem?_set_self (by rw [mix_len _ _ _ hle]; omega), this]
        · rw [List.getElem?_set_ne (fun e => g e.symm)]
      rw [e]
      exact ih 1 (by omega)
    · rw [if_neg z] at hv
      refine Ev.if_pos (by omega) (Ev.if_neg (by omega) ?_)
      rw [mix_rd _ _ _ hle (by omega), Int.toNat_natCast, mix_set _ _ i hle (by omega) _ hv]
      exact ih (i + 1) (by omega)
theorem expo_ev (p n w : Int) (hn : 1 ≤ n) (t : List Int) (g : Int) (hi : Ev (fun k => impl_indices.f k p) (t, g)) (ht : t.length ≤ 1048576) (h0 : rd t 0 = -1) : Ev (fun k => impl_exponents.f k p n w) (expL n w t) := by
  simp only [impl_exponents.f]
  refine Ev.bind hi ?_
  have h := expo_l n w hn t ht h0 p t.length 0 (by omega)
  have e : mix (expL n w t) t 0 = t := by simp [mix]
  rw [e] at h
  exact h
theorem sexp_ev (p n w x y : Int) (hp : 3 ≤ p ∧ p ≤ 61) (hn : 1 ≤ n) (t : List Int) (hx : Ev (fun k => spec_l03Index.f k p y) (rd t x)) (hy : Int.tmod y p ≠ 0) : Ev (fun k => spec_l03Exponent.f k p n w y) (Int.tmod (wrap64 (rd t x * w)) n) := by
  simp only [spec_l03Exponent.f]
  exact Ev.if_neg (by omega) (Ev.if_neg hy (Ev.bind hx (Ev.if_neg (by omega) (Ev.now _))))
theorem tm_in {p x : Int} (h1 : 1 ≤ x) (h2 : x < p) (h3 : p ≤ 61) : Int.tmod (wrap64 (Int.tmod x p + p)) p = x ∧ Int.tmod x p ≠ 0 := by
  have e : Int.tmod x p = x := Int.tmod_eq_of_lt (by omega) h2
  refine ⟨?_, by omega⟩
  rw [e, wid (by omega) (by omega), Int.tmod_eq_emod_of_nonneg (by omega), Int.add_emod_right]
  exact Int.emod_eq_of_lt (by omega) h2


theorem eqI_l (a b : List Int) (h : a.length = b.length) (ha : a.length ≤ 1048576) : ∀ (n i : Nat), i ≤ a.length → (∀ j, j < i → a[j]? = b[j]?) → a.length - i ≤ n → laws_eqInt64S.l0 (n + 1) a b (i : Int) = some (decide (a = b)) := by
  have fin : ∀ i : Nat, (∀ j, j < i → a[j]? = b[j]?) → a.length ≤ i → a = b := by
    intro i hj hi
    apply List.ext_getElem? fun j => ?_
    by_cases h' : j < a.length
    · exact hj j (by omega)
    · rw [List.getElem?_eq_none (by omega), List.getElem?_eq_none (by omega)]
  intro n
  induction n with
  | zero =>
    intro i hi hj hn
    rw [laws_eqInt64S.l0, if_neg (by omega), decide_eq_true (fin i hj (by omega))]
  | succ n ih =>
    intro i hi hj hn
    rw [laws_eqInt64S.l0]
    by_cases h' : i < a.length
    · rw [if_pos (by omega), if_pos (by omega), if_pos (by omega), rd_get, rd_get, wid (by omega) (by omega)]
      have ga : a[i]? = some (a.getD i 0) := by rw [List.getD_eq_getElem?_getD, List.getElem?_eq_getElem h']; rfl
      have gb : b[i]? = some (b.getD i 0) := by rw [List.getD_eq_getElem?_getD, List.getElem?_eq_getElem (by omega : i < b.length)]; rfl
      by_cases e : a.getD i 0 = b.getD i 0
      · rw [if_pos e]
        have := ih (i + 1) (by omega) (fun j hjlt => ?_) (by omega)
        · simpa using this
        · by_cases e' : j = i
          · rw [e', ga, gb, e]
          · exact hj j (by omega)
      · rw [if_neg e, decide_eq_false]
        intro e'
        exact e (by rw [e'])
    · rw [if_neg (by omega), decide_eq_true (fin i hj (by omega))]
/-- Two lists are held against each other. -/
theorem eqI (a b : List Int) (ha : a.length ≤ 1048576) : Ev (fun k => laws_eqInt64S.f k a b) (decide (a = b)) := by
  refine Ev.of (laws_eqInt64S.mono a b) (k := a.length + 1) ?_
  unfold laws_eqInt64S.f
  by_cases h : a.length = b.length
  · rw [if_pos (by omega)]
    exact eqI_l a b h ha a.length 0 (by omega) (fun j hj => absurd hj (by omega)) (by omega)
  · rw [if_neg (by omega), decide_eq_false]
    intro e
    exact h (by rw [e])

/-- What a list of n cells holds once it is marked from 1 on. -/
def marks (n : Nat) : List Int := (List.range n).map fun (j : Nat) => (j : Int) + 1
theorem marks_at (n i : Nat) (h : i < n) : (marks n)[i]? = some ((i : Int) + 1) := by
  simp [marks, h]
theorem markI_l (m : Nat) (hm : m ≤ 1048576) : ∀ (n i : Nat) (x : List Int), x.length = m → i ≤ m → (∀ j, j < i → x[j]? = some ((j : Int) + 1)) → m - i ≤ n → laws_markInt64S.l0 (n + 1) x ((i : Int) + 1) (i : Int) = some ((m : Int) + 1, marks m) := by
  have fin : ∀ (i : Nat) (x : List Int), x.length = m → (∀ j, j < i → x[j]? = some ((j : Int) + 1)) → m ≤ i → x = marks m := by
    intro i x hx hj hi
    apply List.ext_getElem? fun j => ?_
    by_cases h : j < m
    · rw [hj j (by omega), marks_at m j h]
    · rw [List.getElem?_eq_none (by omega), List.getElem?_eq_none (by simp [marks]; omega)]
  intro n
  induction n with
  | zero =>
    intro i x hx hi hj hn
    rw [laws_markInt64S.l0, if_neg (by omega), fin i x hx hj (by omega), show i = m from by omega]
  | succ n ih =>
    intro i x hx hi hj hn
    rw [laws_markInt64S.l0]
    by_cases h : i < m
    · rw [if_pos (by omega), if_pos (by omega), wid (by omega) (by omega), wid (by omega) (by omega)]
      have := ih (i + 1) (x.set i ((i : Int) + 1)) (by simpa using hx) (by omega) (fun j hjlt => ?_) (by omega)
      · simpa using this
      · by_cases e : j = i
        · subst e
          rw [List.getElem?_set_self (by omega)]
        · rw [List.getElem?_set_ne (fun e' => e e'.symm)]
          exact hj j (by omega)
    · rw [if_neg (by omega), fin i x hx hj (by omega), show i = m from by omega]
theorem markI (l : List Int) (hl : l.length ≤ 1048576) : Ev (fun k => laws_markInt64S.f k l 1) ((l.length : Int) + 1, marks l.length) := by
  refine Ev.of (laws_markInt64S.mono l 1) (k := l.length + 1) ?_
  unfold laws_markInt64S.f
  have := markI_l l.length hl l.length 0 l rfl (by omega) (fun j hj => absurd hj (by omega)) (by omega)
  simpa using this
theorem heldI_l (m : Nat) (hm : m ≤ 1048576) : ∀ (n i : Nat), i ≤ m → m - i ≤ n → laws_heldInt64S.l0 (n + 1) (marks m) ((i : Int) + 1) (i : Int) = some ((m : Int) + 1) := by
  have hlen : (marks m).length = m := by simp [marks]
  intro n
  induction n with
  | zero =>
    intro i hi hn
    rw [laws_heldInt64S.l0, if_neg (by omega), show i = m from by omega]
  | succ n ih =>
    intro i hi hn
    rw [laws_heldInt64S.l0]
    by_cases h : i < m
    · have hr : rd (marks m) (i : Int) = (i : Int) + 1 := by
        simp [rd, List.getD_eq_getElem?_getD, marks_at m i h]
      rw [if_pos (by omega), if_pos (by omega), if_pos hr, wid (by omega) (by omega), wid (by omega) (by omega)]
      have := ih (i + 1) (by omega) (by omega)
      simpa using this
    · rw [if_neg (by omega), show i = m from by omega]
theorem heldI (l : List Int) (hl : l.length ≤ 1048576) : Ev (fun k => laws_heldInt64S.f k (marks l.length) 1) ((l.length : Int) + 1) := by
  refine Ev.of (laws_heldInt64S.mono _ 1) (k := l.length + 1) ?_
  unfold laws_heldInt64S.f
  have := heldI_l l.length hl l.length 0 (by omega) (by omega)
  simpa using this
/-- Where both tell the same list and code, the law holds. -/
theorem char_tail (p n w : Int) (l : List Int) (c : Int) (hl : l.length ≤ 1048576) (hs : Ev (fun k => spec_ExponentsOf.f k p n w) (l, c)) (hi : Ev (fun k => impl_ExponentsOf.f k p n w) (l, c)) : Ev (fun k => laws_FnExactExponentsOf.f k p n w) true := by
  simp only [laws_FnExactExponentsOf.f, laws_toCharacter.f, Option.bind_some]
  refine Ev.bind hs (Ev.bind hi ?_)
  refine Ev.bind (eqI l l hl) ?_
  simp only [decide_true, if_true, bne_self_eq_false]
  refine Ev.step (fun k => rfl) ?_
  simp only [laws_FnExactExponentsOf.j0, Bool.false_eq_true, if_false, laws_toCharacter.f, Option.bind_some]
  refine Ev.bind (markI l hl) ?_
  refine Ev.bind (heldI l hl) ?_
  refine Ev.if_neg (by omega) (Ev.if_pos rfl ?_)
  refine Ev.bind hi ?_
  refine Ev.bind (eqI l l hl) ?_
  simp only [decide_true, if_true, bne_self_eq_false]
  refine Ev.step (fun k => rfl) ?_
  simp only [laws_FnExactExponentsOf.j1, Bool.false_eq_true, if_false]
  refine Ev.bind (heldI l hl) ?_
  exact Ev.if_neg (by omega) (Ev.if_pos rfl (Ev.now _))
theorem exps_spec (p n w : Int) (hp : 3 ≤ p ∧ p ≤ 61) (hn : 1 ≤ n) (t : List Int) (htl : (t.length : Int) = p) (hx : ∀ x : Int, 1 ≤ x → x < p → Ev (fun k => spec_l03Index.f k p x) (rd t x)) : ∀ (d i : Nat) (xs : List Int), i + d = t.length → 1 ≤ i → xs.length ≤ i → Ev (fun k => spec_ExponentsOf.l0 k xs (i : Int) p n w) (xs ++ (expL n w t).drop i, 0) := by
  intro d
  have hle := expL_len n w t
  induction d with
  | zero =>
    intro i xs h h1 h2
    refine Ev.step (fun k => rfl) ?_
    simp only [spec_ExponentsOf.l0]
    exact Ev.if_neg (by omega) (Ev.val (Ev.now _) (by rw [List.drop_eq_nil_of_le (by omega), List.append_nil]))
  | succ d ih =>
    intro i xs h h1 h2
    have ew : wrap64 ((i : Int) + 1) = ((i + 1 : Nat) : Int) := by rw [wid (by omega) (by omega)]; omega
    have g : i < (expL n w t).length := by omega
    have hv := expL_at n w t i (by omega)
    rw [if_neg (by omega), List.getElem?_eq_getElem g] at hv
    have hv2 := Option.some.inj hv
    refine Ev.step (fun k => rfl) ?_
    simp only [spec_ExponentsOf.l0, ew]
    refine Ev.if_pos (by omega) (Ev.bind (sexp_ev p n w (i : Int) (i : Int) hp hn t (hx (i : Int) (by omega) (by omega)) (tm_in (by omega) (by omega) (by omega)).2) (Ev.if_pos (by omega) ?_))
    refine Ev.val (ih (i + 1) (xs ++ [Int.tmod (wrap64 (rd t (i : Int) * w)) n]) (by omega) (by omega) (by simp; omega)) ?_
    rw [List.drop_eq_getElem_cons g, hv2]
    simp
theorem FnExactExponentsOf : laws_FnExactExponentsOf.Pure := by
  intro p n w hp hn hw
  obtain ⟨p1, p2⟩ := wfb hp
  have hs := ischar_spec p n w
  have hi := ischar_impl p n w p2
  obtain ⟨l, c, hl, s, r⟩ : ∃ (l : List Int) (c : Int), l.length ≤ 1048576 ∧ Ev (fun k => spec_ExponentsOf.f k p n w) (l, c) ∧ Ev (fun k => impl_ExponentsOf.f k p n w) (l, c) := by
    simp only [spec_ExponentsOf.f, impl_ExponentsOf.f]
    cases hc : isChar p n w with
    | false =>
      rw [hc] at hs hi
      exact ⟨[], 1, by simp, Ev.bind hs (Ev.const fun _ => rfl), Ev.bind hi (Ev.const fun _ => rfl)⟩
    | true =>
      rw [hc] at hs hi
      simp only [isChar, Bool.and_eq_true, decide_eq_true_eq] at hc
      obtain ⟨hP, hp3, h1, h2⟩ := okPN_range hc.1
      have hPP : isP p = true := by
        have := hc.1
        simp only [okPN, Bool.and_eq_true] at this
        exact this.1
      obtain ⟨t, g, f1, f2, f3, f4⟩ := idx_ev p hPP
      have he := expo_ev p n w (by omega) t g f1 (by omega) f3
      have hel := expL_len n w t
      refine ⟨(expL n w t).drop 1, 0, by rw [List.length_drop]; omega, Ev.bind hs (Ev.if_pos rfl ?_), Ev.bind hi (Ev.if_pos rfl (Ev.bind he (Ev.if_pos (by omega) (Ev.now _))))⟩
      have := exps_spec p n w (by omega) (by omega) t f2 (fun x x1 x2 => (f4 x x1 x2).2.2 x (tm_in x1 x2 (by omega)).1) (t.length - 1) 1 [] (by omega) (by omega) (by simp)
      simpa using this
  exact Ev.rounds (g := fun k => laws_FnExactExponentsOf.f k p n w) (char_tail p n w l c hl s r)

end Go.Proofs.Ytpeokcbjbjjmpaa.Pure
