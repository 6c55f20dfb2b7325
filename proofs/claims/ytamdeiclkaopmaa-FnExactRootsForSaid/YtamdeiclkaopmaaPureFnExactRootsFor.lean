/- The roots by a prime, as the program and as the reference find them, for all arguments. No condition. -/
import Derived.Test.YtamdeiclkaopmaaXFnExactRootsForx5
namespace Go.Proofs.Ytamdeiclkaopmaa.Pure
open Go.RowKit Go.Proofs.Ytamdeiclkaopmaa.XFnExactRootsFor Go.Proofs.YtamdeiclkaopmaaW.PrintWords Go.Proofs.YtamdeiclkaopmaaW.PrintLast
set_option linter.unusedVariables false
set_option linter.unusedSimpArgs false

theorem wfb {a : Int} (h : (Lit.int .i64 a).wf = true) : -9223372036854775808 ≤ a ∧ a ≤ 9223372036854775807 := by
  simp only [Lit.wf, IntKind.min, IntKind.max, IntKind.signed, IntKind.bits, Bool.and_eq_true, decide_eq_true_eq, if_true] at h
  omega
theorem wid {a : Int} (h1 : -9223372036854775808 ≤ a) (h2 : a ≤ 9223372036854775807) : wrap64 a = a := by
  unfold wrap64; omega
theorem Ev.const {α : Type} {g : Nat → Option α} {r : α} (h : ∀ k, g k = some r) : Ev g r := ⟨0, fun k _ => h k⟩
theorem Ev.if_pos {α : Type} {c : Prop} [Decidable c] {f g : Nat → Option α} {r : α} (hc : c) (h : Ev f r) : Ev (fun k => if c then f k else g k) r :=
  Ev.congr (fun k => _root_.if_pos hc) h
theorem Ev.if_neg {α : Type} {c : Prop} [Decidable c] {f g : Nat → Option α} {r : α} (hc : ¬ c) (h : Ev g r) : Ev (fun k => if c then f k else g k) r :=
  Ev.congr (fun k => _root_.if_neg hc) h
theorem Ev.val {α : Type} {f : Nat → Option α} {r s : α} (h : Ev f r) (e : r = s) : Ev f s := e ▸ h
theorem within_eq (a b c : Int) : impl_within.f a b c = some (decide (b ≤ a ∧ a ≤ c)) := by
  unfold impl_within.f
  by_cases h : b ≤ a <;> simp [h]
theorem in_eq (a b c : Int) : spec_l01In.f a b c = some (decide (b ≤ a ∧ a ≤ c)) := by
  unfold spec_l01In.f
  by_cases h : b ≤ a <;> simp [h]
def isP (p : Int) : Bool := [3, 5, 7, 11, 13, 17, 19, 23, 29, 31, 37, 41, 43, 47, 53, 59, 61].contains p
theorem isP_range {p : Int} (h : isP p = true) : 3 ≤ p ∧ p ≤ 61 := by
  simp [isP] at h; omega
theorem isP_out {p : Int} (h : ¬ (3 ≤ p ∧ p ≤ 61)) : isP p = false := by
  cases e : isP p with
  | false => rfl
  | true => exact absurd (isP_range e) h
theorem prime_in : ∀ n : Nat, n < 62 → 3 ≤ n → impl_isPrime.f 10 (n : Int) = some (isP (n : Int)) ∧ spec_l03Prime.f 10 (n : Int) = some (isP (n : Int)) := by decide +kernel
theorem prime_out_l (p : Int) (hp : 62 ≤ p) (hp2 : p ≤ 9223372036854775807) : ∀ (n : Nat) (d : Int), 2 ≤ d → d ≤ p → p - d ≤ n → impl_isPrime.l0 (n + 1) p d = some false := by
  have hw : impl_within.f p 3 61 = some false := by rw [within_eq, decide_eq_false (by omega)]
  intro n
  induction n with
  | zero =>
    intro d h1 h2 h3
    obtain rfl : d = p := by omega
    simp only [impl_isPrime.l0]
    split
    · rw [if_neg (by omega), if_pos (Int.tmod_self)]
    · rw [hw]; rfl
  | succ n ih =>
    intro d h1 h2 h3
    rw [impl_isPrime.l0]
    split
    · rw [if_neg (by omega)]
      by_cases e : Int.tmod p d = 0
      · rw [if_pos e]
      · rw [if_neg e]
        have hd : d ≠ p := fun e' => e (by rw [e']; exact Int.tmod_self)
        rw [wid (by omega) (by omega)]
        exact ih (d + 1) (by omega) (by omega) (by omega)
    · rw [hw]; rfl
theorem prime_impl (p : Int) (hp : p ≤ 9223372036854775807) : Ev (fun k => impl_isPrime.f k p) (isP p) := by
  by_cases h : 3 ≤ p ∧ p ≤ 61
  · obtain ⟨n, rfl⟩ := Int.eq_ofNat_of_zero_le (show 0 ≤ p by omega)
    exact Ev.of (impl_isPrime.mono _) (prime_in n (by omega) (by omega)).1
  · rw [isP_out h]
    by_cases h2 : p < 3
    · refine ⟨1, fun k hk => ?_⟩
      obtain ⟨k, rfl⟩ : ∃ m, k = m + 1 := ⟨k - 1, by omega⟩
      show impl_isPrime.f (k + 1) p = some false
      unfold impl_isPrime.f
      rw [impl_isPrime.l0, if_neg (by rw [wid (by omega) (by omega)]; omega), within_eq, decide_eq_false (by omega)]
      rfl
    · refine Ev.of (impl_isPrime.mono _) (k := (p - 2).toNat + 1) ?_
      exact prime_out_l p (by omega) hp _ 2 (by omega) (by omega) (by omega)
theorem prime_spec (p : Int) : Ev (fun k => spec_l03Prime.f k p) (isP p) := by
  by_cases h : 3 ≤ p ∧ p ≤ 61
  · obtain ⟨n, rfl⟩ := Int.eq_ofNat_of_zero_le (show 0 ≤ p by omega)
    exact Ev.of (spec_l03Prime.mono _) (prime_in n (by omega) (by omega)).2
  · rw [isP_out h]
    refine Ev.const (fun k => ?_)
    unfold spec_l03Prime.f
    rw [in_eq, decide_eq_false h]
    rfl
theorem pow_mod (x m : Int) (n : Nat) : (x % m) ^ n % m = x ^ n % m := by
  induction n with
  | zero => rw [Int.pow_zero, Int.pow_zero]
  | succ n ih => rw [Int.pow_succ, Int.pow_succ, Int.mul_emod, ih, Int.emod_emod_of_dvd _ (Int.dvd_refl m), ← Int.mul_emod]
theorem sq_pow (b : Int) (n : Nat) : (b * b) ^ n = b ^ (n + n) := by
  induction n with
  | zero => rw [Int.pow_zero, Nat.add_zero, Int.pow_zero]
  | succ n ih => rw [Int.pow_succ, ih, show n + 1 + (n + 1) = n + n + 1 + 1 from by omega, Int.pow_succ, Int.pow_succ, Int.mul_assoc]
theorem prod_le {a b : Int} (ha : 0 ≤ a ∧ a ≤ 1000000) (hb : 0 ≤ b ∧ b ≤ 1000000) : 0 ≤ a * b ∧ a * b ≤ 1000000000000 := by
  have h1 : 0 ≤ a * b := Int.mul_nonneg ha.1 hb.1
  have h2 : a * b ≤ 1000000 * 1000000 := Int.mul_le_mul ha.2 hb.2 hb.1 (by omega)
  omega
theorem tmod_w {a m : Int} (ha : 0 ≤ a ∧ a ≤ 1000000000000) : Int.tmod (wrap64 a) m = a % m := by
  rw [wid (by omega) (by omega), Int.tmod_eq_emod_of_nonneg ha.1]
theorem around_n (b m : Int) (hm : 2 ≤ m ∧ m ≤ 1000000) (hb : 0 ≤ b) : impl_around.f b m = some (b % m) := by
  unfold impl_around.f
  have h2 := Int.emod_nonneg b (show m ≠ 0 by omega)
  have h3 := Int.emod_lt_of_pos b (show 0 < m by omega)
  rw [if_neg (by omega), Int.tmod_eq_emod_of_nonneg hb, tmod_w (by omega), Int.add_emod_right, Int.emod_emod_of_dvd _ (Int.dvd_refl m)]
/-- The value of a polynomial at x by m, from the cell below n on. -/
def valR (l : List Int) (x m : Int) : Nat → Int → Int
  | 0, a => a
  | n + 1, a => valR l x m n ((a * x + Int.tmod (rd l (n : Int)) m) % m)
theorem tmod_bnd (c m : Int) (hm : 2 ≤ m) : -m < Int.tmod c m ∧ Int.tmod c m < m := by
  have h := Int.natAbs_tmod c m
  have h2 := Nat.mod_lt c.natAbs (show 0 < m.natAbs by omega)
  omega
theorem step_s (a x c m : Int) (hm : 2 ≤ m ∧ m ≤ 1000000) (ha : 0 ≤ a ∧ a < m) (hx : 0 ≤ x ∧ x ≤ 1000000) (hc : -m < c ∧ c < m) : Int.tmod (wrap64 ((wrap64 ((wrap64 (a * x)) + c)) + m)) m = (a * x + c) % m := by
  have h := prod_le (a := a) (b := x) (by omega) hx
  rw [wid (a := a * x) (by omega) (by omega), wid (a := a * x + c) (by omega) (by omega), wid (by omega) (by omega), Int.tmod_eq_emod_of_nonneg (by omega), Int.add_emod_right]
theorem step_i (a x c m : Int) (hm : 2 ≤ m ∧ m ≤ 1000000) (ha : 0 ≤ a ∧ a < m) (hx : 0 ≤ x ∧ x ≤ 1000000) (hc : -m < c ∧ c < m) : impl_around.f (wrap64 ((wrap64 (a * x)) + c)) m = some ((a * x + c) % m) := by
  have h := prod_le (a := a) (b := x) (by omega) hx
  rw [wid (a := a * x) (by omega) (by omega), wid (a := a * x + c) (by omega) (by omega)]
  by_cases g : 0 ≤ a * x + c
  · exact around_n _ m hm g
  · have e : Int.tmod (a * x + c) m = a * x + c := by
      have t := Int.neg_tmod (-(a * x + c)) m
      rw [Int.neg_neg] at t
      rw [t, Int.tmod_eq_of_lt (by omega) (by omega), Int.neg_neg]
    unfold impl_around.f
    rw [if_neg (by omega), e, tmod_w (by omega), Int.add_emod_right]
theorem val_l (l : List Int) (x m : Int) (hm : 2 ≤ m ∧ m ≤ 1000000) (hx : 0 ≤ x ∧ x ≤ 1000000) (hl : l.length ≤ 1048576) : ∀ (n : Nat) (i a : Int), i = (n : Int) - 1 → n ≤ l.length → 0 ≤ a ∧ a < m →
    Ev (fun k => spec_l07Value.l0 k l x m a i) (valR l x m n a) ∧ Ev (fun k => impl_valueAt.l0 k l x m a i) (valR l x m n a) := by
  intro n
  induction n with
  | zero =>
    intro i a hi _ ha
    refine ⟨Ev.step (fun k => rfl) ?_, Ev.step (fun k => rfl) ?_⟩
    · simp only [spec_l07Value.l0]
      exact Ev.if_neg (by omega) (Ev.now _)
    · simp only [impl_valueAt.l0]
      exact Ev.if_neg (by omega) (Ev.now _)
  | succ n ih =>
    intro i a hi hn ha
    obtain rfl : i = (n : Int) := by omega
    have hc := tmod_bnd (rd l (n : Int)) m hm.1
    have h2 := Int.emod_nonneg (a * x + Int.tmod (rd l (n : Int)) m) (show m ≠ 0 by omega)
    have h3 := Int.emod_lt_of_pos (a * x + Int.tmod (rd l (n : Int)) m) (show 0 < m by omega)
    obtain ⟨s, t⟩ := ih (wrap64 ((n : Int) - 1)) _ (by rw [wid (by omega) (by omega)]) (by omega) ⟨h2, h3⟩
    refine ⟨Ev.step (fun k => rfl) ?_, Ev.step (fun k => rfl) ?_⟩
    · simp only [spec_l07Value.l0, step_s a x _ m hm ha hx hc]
      exact Ev.if_pos (by omega) (Ev.if_pos (by omega) (Ev.if_pos (by omega) (Ev.if_neg (by omega) s)))
    · simp only [impl_valueAt.l0, step_i a x _ m hm ha hx hc, Option.bind_some]
      exact Ev.if_pos (by omega) (Ev.if_pos (by omega) (Ev.if_pos (by omega) (Ev.if_neg (by omega) t)))
theorem val_both (l : List Int) (x m : Int) (hm : 2 ≤ m ∧ m ≤ 1000000) (hx : 0 ≤ x ∧ x ≤ 1000000) (hl : l.length ≤ 1048576) :
    Ev (fun k => spec_l07Value.f k l x m) (valR l x m l.length 0) ∧ Ev (fun k => impl_valueAt.f k l x m) (valR l x m l.length 0) := by
  simp only [spec_l07Value.f, impl_valueAt.f]
  exact val_l l x m hm hx hl l.length _ 0 (wid (by omega) (by omega)) (by omega) (by omega)
set_option maxHeartbeats 20000000 in
theorem cyc_all : ∀ n : Nat, n < 17 → 1 ≤ n → (spec_l01Cyclotomic.f 1000 (n : Int)).isSome = true ∧ spec_l01Cyclotomic.f 1000 (n : Int) = impl_cyclotomic.f 1000 (n : Int) ∧ ((spec_l01Cyclotomic.f 1000 (n : Int)).getD []).length ≤ 17 := by decide +kernel
theorem cyc_ev (n : Int) (h : 1 ≤ n ∧ n ≤ 16) : ∃ c : List Int, c.length ≤ 17 ∧ Ev (fun k => spec_l01Cyclotomic.f k n) c ∧ Ev (fun k => impl_cyclotomic.f k n) c := by
  obtain ⟨m, rfl⟩ := Int.eq_ofNat_of_zero_le (show 0 ≤ n by omega)
  obtain ⟨h1, h2, h3⟩ := cyc_all m (by omega) (by omega)
  obtain ⟨c, hc⟩ := Option.isSome_iff_exists.1 h1
  rw [hc] at h2 h3
  exact ⟨c, h3, Ev.of (spec_l01Cyclotomic.mono _) hc, Ev.of (impl_cyclotomic.mono _) h2.symm⟩
set_option maxHeartbeats 20000000 in
theorem fully_all : ∀ n : Nat, n < 17 → 1 ≤ n → ∀ l : Nat, l < 62 → isP (l : Int) = true → (spec_l07Fully.f (n : Int) (l : Int)).isSome = true ∧ spec_l07Fully.f (n : Int) (l : Int) = impl_splits.f 200 (n : Int) (l : Int) := by decide +kernel
theorem fully_ev (n l : Int) (h : 1 ≤ n ∧ n ≤ 16) (hp : isP l = true) : ∃ b : Bool, spec_l07Fully.f n l = some b ∧ Ev (fun k => impl_splits.f k n l) b := by
  have hr := isP_range hp
  obtain ⟨m, rfl⟩ := Int.eq_ofNat_of_zero_le (show 0 ≤ n by omega)
  obtain ⟨q, rfl⟩ := Int.eq_ofNat_of_zero_le (show 0 ≤ l by omega)
  obtain ⟨h1, h2⟩ := fully_all m (by omega) (by omega) q (by omega) hp
  obtain ⟨c, hc⟩ := Option.isSome_iff_exists.1 h1
  rw [hc] at h2
  exact ⟨c, hc, Ev.of (impl_splits.mono _ _) h2.symm⟩
/-- The places among the d numbers from i on. -/
def rootsL (c : List Int) (m : Int) : Nat → Int → List Int
  | 0, _ => []
  | d + 1, i => if valR c i m c.length 0 = 0 then i :: rootsL c m d (i + 1) else rootsL c m d (i + 1)
theorem mem_roots (c : List Int) (m v : Int) : ∀ (d : Nat) (i : Int), v ∈ rootsL c m d i ↔ (i ≤ v ∧ v < i + d) ∧ valR c v m c.length 0 = 0 := by
  intro d
  induction d with
  | zero =>
    intro i
    simp only [rootsL, List.not_mem_nil, false_iff]
    omega
  | succ d ih =>
    intro i
    simp only [rootsL]
    by_cases e : v = i
    · subst e
      split
      · next z => simp [z]; omega
      · next z => simp [z, ih]
    · split
      · simp only [List.mem_cons, ih, e, false_or]
        constructor <;> (rintro ⟨a, b⟩; exact ⟨by omega, b⟩)
      · simp only [ih]
        constructor <;> (rintro ⟨a, b⟩; exact ⟨by omega, b⟩)
theorem impl_rootsFor_j0_eq (k : Nat) (n l : Int) : impl_rootsFor.j0 (k + 1) n l false = (impl_cyclotomic.f k n).bind fun c => impl_rootsFor.l0 k l [] c 1 := by
  rw [impl_rootsFor.j0]; rfl
theorem roots_impl (c : List Int) (m : Int) (hm : 2 ≤ m ∧ m ≤ 1000000) (hc : c.length ≤ 1048576) : ∀ (d : Nat) (i : Int) (xs : List Int), 1 ≤ i → i + d = m → (xs.length : Int) ≤ i → Ev (fun k => impl_rootsFor.l0 k m xs c i) (xs ++ rootsL c m d i, true) := by
  intro d
  induction d with
  | zero =>
    intro i xs h1 h2 h3
    refine Ev.step (fun k => rfl) ?_
    simp only [impl_rootsFor.l0]
    exact Ev.if_neg (by omega) (Ev.val (Ev.now _) (by simp [rootsL]))
  | succ d ih =>
    intro i xs h1 h2 h3
    have hv := (val_both c i m hm (by omega) hc).2
    refine Ev.step (fun k => rfl) ?_
    simp only [impl_rootsFor.l0, wid (show -9223372036854775808 ≤ i + 1 by omega) (by omega)]
    refine Ev.if_pos (by omega) (Ev.bind hv ?_)
    by_cases z : valR c i m c.length 0 = 0
    · refine Ev.if_pos z (Ev.if_pos (by omega) (Ev.val (ih (i + 1) (xs ++ [i]) (by omega) (by omega) (by simp; omega)) ?_))
      simp [rootsL, z]
    · exact Ev.if_neg z (Ev.val (ih (i + 1) xs (by omega) (by omega) (by omega)) (by simp [rootsL, z]))


theorem rd_get (l : List Int) (i : Nat) : rd l (i : Int) = l.getD i 0 := by simp [rd]
theorem eqI_l (a b : List Int) (h : a.length = b.length) (ha : a.length ≤ 1048576) : ∀ (n i : Nat), i ≤ a.length → (∀ j, j < i → a[j]? = b[j]?) → a.length - i ≤ n → laws_eqInt64S.l0 (n + 1) a b (i : Int) = some (decide (a = b)) := by
  have fin : ∀ i : Nat, (∀ j, j < i → a[j]? = b[j]?) → a.length ≤ i → a = b := by
    intro i hj hi
    apply List.ext_getElem? fun j => ?_
    by_cases h' : j < a.length
    · exact hj j (by omega)
    · rw [List.getElem?_eq_none (by omega), List.getElem?_eq_none (by omega)]
  intro n
  induction n with
  | zero =>
    intro i hi hj hn
    rw [laws_eqInt64S.l0, if_neg (by omega), decide_eq_true (fin i hj (by omega))]
  | succ n ih =>
    intro i hi hj hn
    rw [laws_eqInt64S.l0]
    by_cases h' : i < a.length
    · rw [if_pos (by omega), if_pos (by omega), if_pos (by omega), rd_get, rd_get, wid (by omega) (by omega)]
      have ga : a[i]? = some (a.getD i 0) := by rw [List.getD_eq_getElem?_getD, List.getElem?_eq_getElem h']; rfl
      have gb : b[i]? = some (b.getD i 0) := by rw [List.getD_eq_getElem?_getD, List.getElem?_eq_getElem (by omega : i < b.length)]; rfl
      by_cases e : a.getD i 0 = b.getD i 0
      · rw [if_pos e]
        have := ih (i + 1) (by omega) (fun j hjlt => ?_) (by omega)
        · simpa using this
        · by_cases e' : j = i
          · rw [e', ga, gb, e]
          · exact hj j (by omega)
      · rw [if_neg e, decide_eq_false]
        intro e'
        exact e (by rw [e'])
    · rw [if_neg (by omega), decide_eq_true (fin i hj (by omega))]
/-- Two lists are held against each other. -/
theorem eqI (a b : List Int) (ha : a.length ≤ 1048576) : Ev (fun k => laws_eqInt64S.f k a b) (decide (a = b)) := by
  refine Ev.of (laws_eqInt64S.mono a b) (k := a.length + 1) ?_
  unfold laws_eqInt64S.f
  by_cases h : a.length = b.length
  · rw [if_pos (by omega)]
    exact eqI_l a b h ha a.length 0 (by omega) (fun j hj => absurd hj (by omega)) (by omega)
  · rw [if_neg (by omega), decide_eq_false]
    intro e
    exact h (by rw [e])

/-- What a list of n cells holds once it is marked from 1 on. -/
def marks (n : Nat) : List Int := (List.range n).map fun (j : Nat) => (j : Int) + 1
theorem marks_at (n i : Nat) (h : i < n) : (marks n)[i]? = some ((i : Int) + 1) := by
  simp [marks, h]
theorem markI_l (m : Nat) (hm : m ≤ 1048576) : ∀ (n i : Nat) (x : List Int), x.length = m → i ≤ m → (∀ j, j < i → x[j]? = some ((j : Int) + 1)) → m - i ≤ n → laws_markInt64S.l0 (n + 1) x ((i : Int) + 1) (i : Int) = some ((m : Int) + 1, marks m) := by
  have fin : ∀ (i : Nat) (x : List Int), x.length = m → (∀ j, j < i → x[j]? = some ((j : Int) + 1)) → m ≤ i → x = marks m := by
    intro i x hx hj hi
    apply List.ext_getElem? fun j => ?_
    by_cases h : j < m
    · rw [hj j (by omega), marks_at m j h]
    · rw [List.getElem?_eq_none (by omega), List.getElem?_eq_none (by simp [marks]; omega)]
  intro n
  induction n with
  | zero =>
    intro i x hx hi hj hn
    rw [laws_markInt64S.l0, if_neg (by omega), fin i x hx hj (by omega), show i = m from by omega]
  | succ n ih =>
    intro i x hx hi hj hn
    rw [laws_markInt64S.l0]
    by_cases h : i < m
    · rw [if_pos (by omega), if_pos (by omega), wid (by omega) (by omega), wid (by omega) (by omega)]
      have := ih (i + 1) (x.set i ((i : Int) + 1)) (by simpa using hx) (by omega) (fun j hjlt => ?_) (by omega)
      · simpa using this
      · by_cases e : j = i
        · subst e
          rw [List.getElem?_set_self (by omega)]
        · rw [List.getElem?_set_ne (fun e' => e e'.symm)]
          exact hj j (by omega)
    · rw [if_neg (by omega), fin i x hx hj (by omega), show i = m from by omega]
theorem markI (l : List Int) (hl : l.length ≤ 1048576) : Ev (fun k => laws_markInt64S.f k l 1) ((l.length : Int) + 1, marks l.length) := by
  refine Ev.of (laws_markInt64S.mono l 1) (k := l.length + 1) ?_
  unfold laws_markInt64S.f
  have := markI_l l.length hl l.length 0 l rfl (by omega) (fun j hj => absurd hj (by omega)) (by omega)
  simpa using this
theorem heldI_l (m : Nat) (hm : m ≤ 1048576) : ∀ (n i : Nat), i ≤ m → m - i ≤ n → laws_heldInt64S.l0 (n + 1) (marks m) ((i : Int) + 1) (i : Int) = some ((m : Int) + 1) := by
  have hlen : (marks m).length = m := by simp [marks]
  intro n
  induction n with
  | zero =>
    intro i hi hn
    rw [laws_heldInt64S.l0, if_neg (by omega), show i = m from by omega]
  | succ n ih =>
    intro i hi hn
    rw [laws_heldInt64S.l0]
    by_cases h : i < m
    · have hr : rd (marks m) (i : Int) = (i : Int) + 1 := by
        simp [rd, List.getD_eq_getElem?_getD, marks_at m i h]
      rw [if_pos (by omega), if_pos (by omega), if_pos hr, wid (by omega) (by omega), wid (by omega) (by omega)]
      have := ih (i + 1) (by omega) (by omega)
      simpa using this
    · rw [if_neg (by omega), show i = m from by omega]
theorem heldI (l : List Int) (hl : l.length ≤ 1048576) : Ev (fun k => laws_heldInt64S.f k (marks l.length) 1) ((l.length : Int) + 1) := by
  refine Ev.of (laws_heldInt64S.mono _ 1) (k := l.length + 1) ?_
  unfold laws_heldInt64S.f
  have := heldI_l l.length hl l.length 0 (by omega) (by omega)
  simpa using this
/-- Where both tell the same list and code, the law holds. -/
theorem law_tail (n : Int) (l' : Int) (l : List Int) (c : Int) (hl : l.length ≤ 1048576) (hs : Ev (fun k => spec_RootsFor.f k n  l' ) (l, c)) (hi : Ev (fun k => impl_RootsFor.f k n  l' ) (l, c)) : Ev (fun k => laws_FnExactRootsFor.f k n  l' ) true := by
  simp only [laws_FnExactRootsFor.f]
  refine Ev.bind hs (Ev.bind hi ?_)
  refine Ev.bind (eqI l l hl) ?_
  simp only [decide_true, if_true, bne_self_eq_false]
  refine Ev.step (fun k => rfl) ?_
  simp only [laws_FnExactRootsFor.j0, Bool.false_eq_true, if_false]
  refine Ev.bind (markI l hl) ?_
  refine Ev.bind (heldI l hl) ?_
  refine Ev.if_neg (by omega) (Ev.if_pos rfl ?_)
  refine Ev.bind hi ?_
  refine Ev.bind (eqI l l hl) ?_
  simp only [decide_true, if_true, bne_self_eq_false]
  refine Ev.step (fun k => rfl) ?_
  simp only [laws_FnExactRootsFor.j1, Bool.false_eq_true, if_false]
  refine Ev.bind (heldI l hl) ?_
  exact Ev.if_neg (by omega) (Ev.if_pos rfl (Ev.now _))
theorem roots_len (c : List Int) (m : Int) : ∀ (d : Nat) (i : Int), (rootsL c m d i).length ≤ d := by
  intro d
  induction d with
  | zero => intro i; simp [rootsL]
  | succ d ih =>
    intro i
    simp only [rootsL]
    split
    · have := ih (i + 1); simp; omega
    · have := ih (i + 1); omega
theorem roots_spec (c : List Int) (m : Int) (hm : 2 ≤ m ∧ m ≤ 1000000) (hc : c.length ≤ 1048576) : ∀ (d : Nat) (i : Int) (xs : List Int), 1 ≤ i → i + d = m → (xs.length : Int) ≤ i → Ev (fun k => spec_l07Roots.l0 k m xs c i) (xs ++ rootsL c m d i) := by
  intro d
  induction d with
  | zero =>
    intro i xs h1 h2 h3
    refine Ev.step (fun k => rfl) ?_
    simp only [spec_l07Roots.l0]
    exact Ev.if_neg (by omega) (Ev.val (Ev.now _) (by simp [rootsL]))
  | succ d ih =>
    intro i xs h1 h2 h3
    have hv := (val_both c i m hm (by omega) hc).1
    refine Ev.step (fun k => rfl) ?_
    simp only [spec_l07Roots.l0, wid (show -9223372036854775808 ≤ i + 1 by omega) (by omega)]
    refine Ev.if_pos (by omega) (Ev.bind hv ?_)
    by_cases z : valR c i m c.length 0 = 0
    · refine Ev.if_pos z (Ev.if_pos (by omega) (Ev.val (ih (i + 1) (xs ++ [i]) (by omega) (by omega) (by simp; omega)) ?_))
      simp [rootsL, z]
    · exact Ev.if_neg z (Ev.val (ih (i + 1) xs (by omega) (by omega) (by omega)) (by simp [rootsL, z]))
theorem FnExactRootsFor : laws_FnExactRootsFor.Pure := by
  intro n l hn hl
  obtain ⟨b1, b2⟩ := wfb hl
  have hp := prime_impl l b2
  have hs := prime_spec l
  obtain ⟨xs, c, hx, s, t⟩ : ∃ (xs : List Int) (c : Int), xs.length ≤ 1048576 ∧ Ev (fun k => spec_RootsFor.f k n l) (xs, c) ∧ Ev (fun k => impl_RootsFor.f k n l) (xs, c) := by
    simp only [spec_RootsFor.f, spec_l07Code.f, impl_RootsFor.f, impl_rootsFor.f, impl_isOrder.f, in_eq, within_eq, Option.bind_some]
    by_cases h : 1 ≤ n ∧ n ≤ 16
    · simp only [decide_eq_true h, if_true]
      cases hP : isP l with
      | false =>
        rw [hP] at hp hs
        refine ⟨[], 2, by simp, Ev.bind (a := 2) (Ev.bind hs (Ev.const fun _ => rfl)) (Ev.const fun _ => rfl), ?_⟩
        refine Ev.bind (a := ([], false)) (Ev.bind hp ?_) (Ev.const fun _ => rfl)
        exact Ev.if_neg (by simp) (Ev.step (fun k => rfl) (Ev.const fun _ => rfl))
      | true =>
        have hr := isP_range hP
        rw [hP] at hp hs
        obtain ⟨b, f1, f2⟩ := fully_ev n l h hP
        simp only [f1, Option.bind_some]
        cases b with
        | false =>
          refine ⟨[], 2, by simp, Ev.bind (a := 0) (Ev.bind hs (Ev.const fun _ => rfl)) (Ev.const fun _ => rfl), ?_⟩
          refine Ev.bind (a := ([], false)) (Ev.bind hp (Ev.if_pos rfl (Ev.bind f2 ?_))) (Ev.const fun _ => rfl)
          exact Ev.step (fun k => rfl) (Ev.const fun _ => rfl)
        | true =>
          obtain ⟨c, c1, c2, c3⟩ := cyc_ev n h
          have hi : Ev (fun k => impl_rootsFor.j0 k n l false) (rootsL c l (l - 1).toNat 1, true) := by
            refine Ev.step (fun k => rfl) ?_
            simp only [impl_rootsFor_j0_eq]
            exact Ev.bind c3 (Ev.val (roots_impl c l (by omega) (by omega) (l - 1).toNat 1 [] (by omega) (by omega) (by simp)) (by simp))
          have hq : Ev (fun k => spec_l07Roots.f k n l) (rootsL c l (l - 1).toNat 1) := by
            simp only [spec_l07Roots.f]
            exact Ev.bind c2 (Ev.val (roots_spec c l (by omega) (by omega) (l - 1).toNat 1 [] (by omega) (by omega) (by simp)) (by simp))
          refine ⟨rootsL c l (l - 1).toNat 1, 0, by have := roots_len c l (l - 1).toNat 1; omega, Ev.bind (a := 0) (Ev.bind hs (Ev.const fun _ => rfl)) ?_, ?_⟩
          · simp only [if_true]
            exact Ev.bind hq (Ev.now _)
          · exact Ev.bind (Ev.bind hp (Ev.if_pos rfl (Ev.bind f2 hi))) (Ev.const fun _ => rfl)
    · simp only [decide_eq_false h]
      refine ⟨[], 2, by simp, Ev.const fun _ => rfl, ?_⟩
      refine Ev.bind (a := ([], false)) ?_ (Ev.const fun _ => rfl)
      exact Ev.if_neg (by simp) (Ev.step (fun k => rfl) (Ev.const fun _ => rfl))
  exact Ev.rounds (g := fun k => laws_FnExactRootsFor.f k n l) (law_tail n l xs c hx s t)

end Go.Proofs.Ytamdeiclkaopmaa.Pure
