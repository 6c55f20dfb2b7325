/- A place moved, as the program and as the reference tell it, for all arguments. No condition. -/
import Derived.Test.YtamdeiclkaopmaaXFnExactMovePlacex5
namespace Go.Proofs.Ytamdeiclkaopmaa.Pure
open Go.RowKit Go.Proofs.Ytamdeiclkaopmaa.XFnExactMovePlace Go.Proofs.YtamdeiclkaopmaaW.PrintWords Go.Proofs.YtamdeiclkaopmaaW.PrintLast
set_option linter.unusedVariables false
set_option linter.unusedSimpArgs false

theorem wfb {a : Int} (h : (Lit.int .i64 a).wf = true) : -9223372036854775808 ≤ a ∧ a ≤ 9223372036854775807 := by
  simp only [Lit.wf, IntKind.min, IntKind.max, IntKind.signed, IntKind.bits, Bool.and_eq_true, decide_eq_true_eq, if_true] at h
  omega
theorem wid {a : Int} (h1 : -9223372036854775808 ≤ a) (h2 : a ≤ 9223372036854775807) : wrap64 a = a := by
  unfold wrap64; omega
theorem Ev.const {α : Type} {g : Nat → Option α} {r : α} (h : ∀ k, g k = some r) : Ev g r := ⟨0, fun k _ => h k⟩
theorem Ev.if_pos {α : Type} {c : Prop} [Decidable c] {f g : Nat → Option α} {r : α} (hc : c) (h : Ev f r) : Ev (fun k => if c then f k else g k) r :=
  Ev.congr (fun k => _root_.if_pos hc) h
theorem Ev.if_neg {α : Type} {c : Prop} [Decidable c] {f g : Nat → Option α} {r : α} (hc : ¬ c) (h : Ev g r) : Ev (fun k => if c then f k else g k) r :=
  Ev.congr (fun k => _root_.if_neg hc) h
theorem Ev.val {α : Type} {f : Nat → Option α} {r s : α} (h : Ev f r) (e : r = s) : Ev f s := e ▸ h
theorem within_eq (a b c : Int) : impl_within.f a b c = some (decide (b ≤ a ∧ a ≤ c)) := by
  unfold impl_within.f
  by_cases h : b ≤ a <;> simp [h]
theorem in_eq (a b c : Int) : spec_l01In.f a b c = some (decide (b ≤ a ∧ a ≤ c)) := by
  unfold spec_l01In.f
  by_cases h : b ≤ a <;> simp [h]
def isP (p : Int) : Bool := [3, 5, 7, 11, 13, 17, 19, 23, 29, 31, 37, 41, 43, 47, 53, 59, 61].contains p
theorem isP_range {p : Int} (h : isP p = true) : 3 ≤ p ∧ p ≤ 61 := by
  simp [isP] at h; omega
theorem isP_out {p : Int} (h : ¬ (3 ≤ p ∧ p ≤ 61)) : isP p = false := by
  cases e : isP p with
  | false => rfl
  | true => exact absurd (isP_range e) h
theorem prime_in : ∀ n : Nat, n < 62 → 3 ≤ n → impl_isPrime.f 10 (n : Int) = some (isP (n : Int)) ∧ spec_l03Prime.f 10 (n : Int) = some (isP (n : Int)) := by decide +kernel
theorem prime_out_l (p : Int) (hp : 62 ≤ p) (hp2 : p ≤ 9223372036854775807) : ∀ (n : Nat) (d : Int), 2 ≤ d → d ≤ p → p - d ≤ n → impl_isPrime.l0 (n + 1) p d = some false := by
  have hw : impl_within.f p 3 61 = some false := by rw [within_eq, decide_eq_false (by omega)]
  intro n
  induction n with
  | zero =>
    intro d h1 h2 h3
    obtain rfl : d = p := by omega
    simp only [impl_isPrime.l0]
    split
    · rw [if_neg (by omega), if_pos (Int.tmod_self)]
    · rw [hw]; rfl
  | succ n ih =>
    intro d h1 h2 h3
    rw [impl_isPrime.l0]
    split
    · rw [if_neg (by omega)]
      by_cases e : Int.tmod p d = 0
      · rw [if_pos e]
      · rw [if_neg e]
        have hd : d ≠ p := fun e' => e (by rw [e']; exact Int.tmod_self)
        rw [wid (by omega) (by omega)]
        exact ih (d + 1) (by omega) (by omega) (by omega)
    · rw [hw]; rfl
theorem prime_impl (p : Int) (hp : p ≤ 9223372036854775807) : Ev (fun k => impl_isPrime.f k p) (isP p) := by
  by_cases h : 3 ≤ p ∧ p ≤ 61
  · obtain ⟨n, rfl⟩ := Int.eq_ofNat_of_zero_le (show 0 ≤ p by omega)
    exact Ev.of (impl_isPrime.mono _) (prime_in n (by omega) (by omega)).1
  · rw [isP_out h]
    by_cases h2 : p < 3
    · refine ⟨1, fun k hk => ?_⟩
      obtain ⟨k, rfl⟩ : ∃ m, k = m + 1 := ⟨k - 1, by omega⟩
      show impl_isPrime.f (k + 1) p = some false
      unfold impl_isPrime.f
      rw [impl_isPrime.l0, if_neg (by rw [wid (by omega) (by omega)]; omega), within_eq, decide_eq_false (by omega)]
      rfl
    · refine Ev.of (impl_isPrime.mono _) (k := (p - 2).toNat + 1) ?_
      exact prime_out_l p (by omega) hp _ 2 (by omega) (by omega) (by omega)
theorem prime_spec (p : Int) : Ev (fun k => spec_l03Prime.f k p) (isP p) := by
  by_cases h : 3 ≤ p ∧ p ≤ 61
  · obtain ⟨n, rfl⟩ := Int.eq_ofNat_of_zero_le (show 0 ≤ p by omega)
    exact Ev.of (spec_l03Prime.mono _) (prime_in n (by omega) (by omega)).2
  · rw [isP_out h]
    refine Ev.const (fun k => ?_)
    unfold spec_l03Prime.f
    rw [in_eq, decide_eq_false h]
    rfl
theorem pow_mod (x m : Int) (n : Nat) : (x % m) ^ n % m = x ^ n % m := by
  induction n with
  | zero => rw [Int.pow_zero, Int.pow_zero]
  | succ n ih => rw [Int.pow_succ, Int.pow_succ, Int.mul_emod, ih, Int.emod_emod_of_dvd _ (Int.dvd_refl m), ← Int.mul_emod]
theorem sq_pow (b : Int) (n : Nat) : (b * b) ^ n = b ^ (n + n) := by
  induction n with
  | zero => rw [Int.pow_zero, Nat.add_zero, Int.pow_zero]
  | succ n ih => rw [Int.pow_succ, ih, show n + 1 + (n + 1) = n + n + 1 + 1 from by omega, Int.pow_succ, Int.pow_succ, Int.mul_assoc]
theorem prod_le {a b : Int} (ha : 0 ≤ a ∧ a ≤ 1000000) (hb : 0 ≤ b ∧ b ≤ 1000000) : 0 ≤ a * b ∧ a * b ≤ 1000000000000 := by
  have h1 : 0 ≤ a * b := Int.mul_nonneg ha.1 hb.1
  have h2 : a * b ≤ 1000000 * 1000000 := Int.mul_le_mul ha.2 hb.2 hb.1 (by omega)
  omega
theorem tmod_w {a m : Int} (ha : 0 ≤ a ∧ a ≤ 1000000000000) : Int.tmod (wrap64 a) m = a % m := by
  rw [wid (by omega) (by omega), Int.tmod_eq_emod_of_nonneg ha.1]
theorem around_n (b m : Int) (hm : 2 ≤ m ∧ m ≤ 1000000) (hb : 0 ≤ b) : impl_around.f b m = some (b % m) := by
  unfold impl_around.f
  have h2 := Int.emod_nonneg b (show m ≠ 0 by omega)
  have h3 := Int.emod_lt_of_pos b (show 0 < m by omega)
  rw [if_neg (by omega), Int.tmod_eq_emod_of_nonneg hb, tmod_w (by omega), Int.add_emod_right, Int.emod_emod_of_dvd _ (Int.dvd_refl m)]
/-- The value of a polynomial at x by m, from the cell below n on. -/
def valR (l : List Int) (x m : Int) : Nat → Int → Int
  | 0, a => a
  | n + 1, a => valR l x m n ((a * x + Int.tmod (rd l (n : Int)) m) % m)
theorem tmod_bnd (c m : Int) (hm : 2 ≤ m) : -m < Int.tmod c m ∧ Int.tmod c m < m := by
  have h := Int.natAbs_tmod c m
  have h2 := Nat.mod_lt c.natAbs (show 0 < m.natAbs by omega)
  omega
theorem step_s (a x c m : Int) (hm : 2 ≤ m ∧ m ≤ 1000000) (ha : 0 ≤ a ∧ a < m) (hx : 0 ≤ x ∧ x ≤ 1000000) (hc : -m < c ∧ c < m) : Int.tmod (wrap64 ((wrap64 ((wrap64 (a * x)) + c)) + m)) m = (a * x + c) % m := by
  have h := prod_le (a := a) (b := x) (by omega) hx
  rw [wid (a := a * x) (by omega) (by omega), wid (a := a * x + c) (by omega) (by omega), wid (by omega) (by omega), Int.tmod_eq_emod_of_nonneg (by omega), Int.add_emod_right]
theorem step_i (a x c m : Int) (hm : 2 ≤ m ∧ m ≤ 1000000) (ha : 0 ≤ a ∧ a < m) (hx : 0 ≤ x ∧ x ≤ 1000000) (hc : -m < c ∧ c < m) : impl_around.f (wrap64 ((wrap64 (a * x)) + c)) m = some ((a * x + c) % m) := by
  have h := prod_le (a := a) (b := x) (by omega) hx
  rw [wid (a := a * x) (by omega) (by omega), wid (a := a * x + c) (by omega) (by omega)]
  by_cases g : 0 ≤ a * x + c
  · exact around_n _ m hm g
  · have e : Int.tmod (a * x + c) m = a * x + c := by
      have t := Int.neg_tmod (-(a * x + c)) m
      rw [Int.neg_neg] at t
      rw [t, Int.tmod_eq_of_lt (by omega) (by omega), Int.neg_neg]
    unfold impl_around.f
    rw [if_neg (by omega), e, tmod_w (by omega), Int.add_emod_right]
theorem val_l (l : List Int) (x m : Int) (hm : 2 ≤ m ∧ m ≤ 1000000) (hx : 0 ≤ x ∧ x ≤ 1000000) (hl : l.length ≤ 1048576) : ∀ (n : Nat) (i a : Int), i = (n : Int) - 1 → n ≤ l.length → 0 ≤ a ∧ a < m →
    Ev (fun k => spec_l07Value.l0 k l x m a i) (valR l x m n a) ∧ Ev (fun k => impl_valueAt.l0 k l x m a i) (valR l x m n a) := by
  intro n
  induction n with
  | zero =>
    intro i a hi _ ha
    refine ⟨Ev.step (fun k => rfl) ?_, Ev.step (fun k => rfl) ?_⟩
    · simp only [spec_l07Value.l0]
      exact Ev.if_neg (by omega) (Ev.now _)
    · simp only [impl_valueAt.l0]
      exact Ev.if_neg (by omega) (Ev.now _)
  | succ n ih =>
    intro i a hi hn ha
    obtain rfl : i = (n : Int) := by omega
    have hc := tmod_bnd (rd l (n : Int)) m hm.1
    have h2 := Int.emod_nonneg (a * x + Int.tmod (rd l (n : Int)) m) (show m ≠ 0 by omega)
    have h3 := Int.emod_lt_of_pos (a * x + Int.tmod (rd l (n : Int)) m) (show 0 < m by omega)
    obtain ⟨s, t⟩ := ih (wrap64 ((n : Int) - 1)) _ (by rw [wid (by omega) (by omega)]) (by omega) ⟨h2, h3⟩
    refine ⟨Ev.step (fun k => rfl) ?_, Ev.step (fun k => rfl) ?_⟩
    · simp only [spec_l07Value.l0, step_s a x _ m hm ha hx hc]
      exact Ev.if_pos (by omega) (Ev.if_pos (by omega) (Ev.if_pos (by omega) (Ev.if_neg (by omega) s)))
    · simp only [impl_valueAt.l0, step_i a x _ m hm ha hx hc, Option.bind_some]
      exact Ev.if_pos (by omega) (Ev.if_pos (by omega) (Ev.if_pos (by omega) (Ev.if_neg (by omega) t)))
theorem val_both (l : List Int) (x m : Int) (hm : 2 ≤ m ∧ m ≤ 1000000) (hx : 0 ≤ x ∧ x ≤ 1000000) (hl : l.length ≤ 1048576) :
    Ev (fun k => spec_l07Value.f k l x m) (valR l x m l.length 0) ∧ Ev (fun k => impl_valueAt.f k l x m) (valR l x m l.length 0) := by
  simp only [spec_l07Value.f, impl_valueAt.f]
  exact val_l l x m hm hx hl l.length _ 0 (wid (by omega) (by omega)) (by omega) (by omega)
set_option maxHeartbeats 20000000 in
theorem cyc_all : ∀ n : Nat, n < 17 → 1 ≤ n → (spec_l01Cyclotomic.f 1000 (n : Int)).isSome = true ∧ spec_l01Cyclotomic.f 1000 (n : Int) = impl_cyclotomic.f 1000 (n : Int) ∧ ((spec_l01Cyclotomic.f 1000 (n : Int)).getD []).length ≤ 17 := by decide +kernel
theorem cyc_ev (n : Int) (h : 1 ≤ n ∧ n ≤ 16) : ∃ c : List Int, c.length ≤ 17 ∧ Ev (fun k => spec_l01Cyclotomic.f k n) c ∧ Ev (fun k => impl_cyclotomic.f k n) c := by
  obtain ⟨m, rfl⟩ := Int.eq_ofNat_of_zero_le (show 0 ≤ n by omega)
  obtain ⟨h1, h2, h3⟩ := cyc_all m (by omega) (by omega)
  obtain ⟨c, hc⟩ := Option.isSome_iff_exists.1 h1
  rw [hc] at h2 h3
  exact ⟨c, h3, Ev.of (spec_l01Cyclotomic.mono _) hc, Ev.of (impl_cyclotomic.mono _) h2.symm⟩
set_option maxHeartbeats 20000000 in
theorem fully_all : ∀ n : Nat, n < 17 → 1 ≤ n → ∀ l : Nat, l < 62 → isP (l : Int) = true → (spec_l07Fully.f (n : Int) (l : Int)).isSome = true ∧ spec_l07Fully.f (n : Int) (l : Int) = impl_splits.f 200 (n : Int) (l : Int) := by decide +kernel
theorem fully_ev (n l : Int) (h : 1 ≤ n ∧ n ≤ 16) (hp : isP l = true) : ∃ b : Bool, spec_l07Fully.f n l = some b ∧ Ev (fun k => impl_splits.f k n l) b := by
  have hr := isP_range hp
  obtain ⟨m, rfl⟩ := Int.eq_ofNat_of_zero_le (show 0 ≤ n by omega)
  obtain ⟨q, rfl⟩ := Int.eq_ofNat_of_zero_le (show 0 ≤ l by omega)
  obtain ⟨h1, h2⟩ := fully_all m (by omega) (by omega) q (by omega) hp
  obtain ⟨c, hc⟩ := Option.isSome_iff_exists.1 h1
  rw [hc] at h2
  exact ⟨c, hc, Ev.of (impl_splits.mono _ _) h2.symm⟩
/-- The places among the d numbers from i on. -/
def rootsL (c : List Int) (m : Int) : Nat → Int → List Int
  | 0, _ => []
  | d + 1, i => if valR c i m c.length 0 = 0 then i :: rootsL c m d (i + 1) else rootsL c m d (i + 1)
theorem mem_roots (c : List Int) (m v : Int) : ∀ (d : Nat) (i : Int), v ∈ rootsL c m d i ↔ (i ≤ v ∧ v < i + d) ∧ valR c v m c.length 0 = 0 := by
  intro d
  induction d with
  | zero =>
    intro i
    simp only [rootsL, List.not_mem_nil, false_iff]
    omega
  | succ d ih =>
    intro i
    simp only [rootsL]
    by_cases e : v = i
    · subst e
      split
      · next z => simp [z]; omega
      · next z => simp [z, ih]
    · split
      · simp only [List.mem_cons, ih, e, false_or]
        constructor <;> (rintro ⟨a, b⟩; exact ⟨by omega, b⟩)
      · simp only [ih]
        constructor <;> (rintro ⟨a, b⟩; exact ⟨by omega, b⟩)
theorem impl_rootsFor_j0_eq (k : Nat) (n l : Int) : impl_rootsFor.j0 (k + 1) n l false = (impl_cyclotomic.f k n).bind fun c => impl_rootsFor.l0 k l [] c 1 := by
  rw [impl_rootsFor.j0]; rfl
theorem roots_impl (c : List Int) (m : Int) (hm : 2 ≤ m ∧ m ≤ 1000000) (hc : c.length ≤ 1048576) : ∀ (d : Nat) (i : Int) (xs : List Int), 1 ≤ i → i + d = m → (xs.length : Int) ≤ i → Ev (fun k => impl_rootsFor.l0 k m xs c i) (xs ++ rootsL c m d i, true) := by
  intro d
  induction d with
  | zero =>
    intro i xs h1 h2 h3
    refine Ev.step (fun k => rfl) ?_
    simp only [impl_rootsFor.l0]
    exact Ev.if_neg (by omega) (Ev.val (Ev.now _) (by simp [rootsL]))
  | succ d ih =>
    intro i xs h1 h2 h3
    have hv := (val_both c i m hm (by omega) hc).2
    refine Ev.step (fun k => rfl) ?_
    simp only [impl_rootsFor.l0, wid (show -9223372036854775808 ≤ i + 1 by omega) (by omega)]
    refine Ev.if_pos (by omega) (Ev.bind hv ?_)
    by_cases z : valR c i m c.length 0 = 0
    · refine Ev.if_pos z (Ev.if_pos (by omega) (Ev.val (ih (i + 1) (xs ++ [i]) (by omega) (by omega) (by simp; omega)) ?_))
      simp [rootsL, z]
    · exact Ev.if_neg z (Ev.val (ih (i + 1) xs (by omega) (by omega) (by omega)) (by simp [rootsL, z]))

/-- The power by one step after another. -/
theorem spow_l (m b : Int) (hm : 1 ≤ m ∧ m ≤ 1000000) (hb : 0 ≤ b ∧ b ≤ 1000000) : ∀ (e : Nat) (a : Int), e ≤ 1000000 → 0 ≤ a ∧ a < m → Ev (fun k => spec_l07Power.l0 k m b (e : Int) a) ((a * b ^ e) % m) := by
  intro e
  induction e with
  | zero =>
    intro a _ ha
    refine Ev.step (fun k => rfl) ?_
    simp only [spec_l07Power.l0]
    exact Ev.if_neg (by omega) (Ev.val (Ev.now _) (by rw [Int.pow_zero, Int.mul_one, Int.emod_eq_of_lt ha.1 ha.2]))
  | succ e ih =>
    intro a he ha
    have h1 := prod_le (a := a) (b := b) (by omega) hb
    have h2 := Int.emod_nonneg (a * b) (show m ≠ 0 by omega)
    have h3 := Int.emod_lt_of_pos (a * b) (show 0 < m by omega)
    have ew : wrap64 (((e + 1 : Nat) : Int) - 1) = (e : Int) := by rw [wid (by omega) (by omega)]; omega
    refine Ev.step (fun k => rfl) ?_
    simp only [spec_l07Power.l0, ew, tmod_w h1]
    refine Ev.if_pos (by omega) (Ev.if_neg (by omega) (Ev.val (ih _ (by omega) ⟨h2, h3⟩) ?_))
    rw [Int.pow_succ, Int.mul_comm (b ^ e) b, ← Int.mul_assoc, Int.mul_emod, Int.emod_emod_of_dvd _ (Int.dvd_refl m), ← Int.mul_emod]
theorem spow (m b : Int) (e : Nat) (hm : 2 ≤ m ∧ m ≤ 1000000) (hb : 0 ≤ b ∧ b ≤ 1000000) (he : e ≤ 1000000) : Ev (fun k => spec_l07Power.f k m b (e : Int)) (b ^ e % m) := by
  simp only [spec_l07Power.f]
  exact Ev.val (spow_l m b (by omega) hb e 1 he (by omega)) (by rw [Int.one_mul])
/-- The power by halves. -/
theorem ipow_l (m : Int) (hm : 2 ≤ m ∧ m ≤ 1000000) : ∀ (n e : Nat) (a b : Int), e ≤ n → e ≤ 1000000 → 0 ≤ a ∧ a < m → 0 ≤ b ∧ b < m → Ev (fun k => impl_power.l0 k b (e : Int) m a) ((a * b ^ e) % m) := by
  intro n
  have stop : ∀ (a b : Int), 0 ≤ a ∧ a < m → Ev (fun k => impl_power.l0 k b ((0 : Nat) : Int) m a) ((a * b ^ 0) % m) := by
    intro a b ha
    refine Ev.step (fun k => rfl) ?_
    simp only [impl_power.l0]
    exact Ev.if_neg (by omega) (Ev.val (Ev.now _) (by rw [Int.pow_zero, Int.mul_one, Int.emod_eq_of_lt ha.1 ha.2]))
  induction n with
  | zero =>
    intro e a b h _ ha _
    obtain rfl : e = 0 := by omega
    exact stop a b ha
  | succ n ih =>
    intro e a b h he ha hb
    by_cases z : e = 0
    · subst z; exact stop a b ha
    · have h1 := prod_le (a := b) (b := b) (by omega) (by omega)
      have h2 := prod_le (a := a) (b := b) (by omega) (by omega)
      have b1 := Int.emod_nonneg (b * b) (show m ≠ 0 by omega)
      have b2 := Int.emod_lt_of_pos (b * b) (show 0 < m by omega)
      have a1 := Int.emod_nonneg (a * b) (show m ≠ 0 by omega)
      have a2 := Int.emod_lt_of_pos (a * b) (show 0 < m by omega)
      have he1 : (e : Int) > 0 := by omega
      have he2 : e / 2 ≤ n := by omega
      have he3 : e / 2 ≤ 1000000 := by omega
      have hm0 : ¬ m = 0 := by omega
      have hev : ¬ e % 2 = 1 → e / 2 + e / 2 = e := by omega
      have hod : e % 2 = 1 → e = (e / 2 + e / 2).succ := by omega
      have e1 : Int.tmod (e : Int) 2 = ((e % 2 : Nat) : Int) := by rw [Int.tmod_eq_emod_of_nonneg (by omega)]; rfl
      have e2 : wrap64 (Int.tdiv (e : Int) 2) = ((e / 2 : Nat) : Int) := by rw [Int.tdiv_eq_ediv_of_nonneg (by omega), wid (by omega) (by omega)]; rfl
      refine Ev.step (fun k => rfl) ?_
      simp only [impl_power.l0, tmod_w h1, tmod_w h2, e1, e2]
      refine Ev.if_pos he1 ?_
      have key : ∀ (c : Int), (c * (b * b % m) ^ (e / 2)) % m = (c * b ^ (e / 2 + e / 2)) % m := by
        intro c
        rw [Int.mul_emod, pow_mod, ← Int.mul_emod, sq_pow]
      by_cases o : e % 2 = 1
      · have p : b ^ e = b ^ (e / 2 + e / 2) * b := by rw [← Int.pow_succ, ← hod o]
        refine Ev.if_pos (by rw [o]; rfl) (Ev.if_neg hm0 (Ev.val (ih (e / 2) _ _ he2 he3 ⟨a1, a2⟩ ⟨b1, b2⟩) ?_))
        rw [key, p, Int.mul_emod, Int.emod_emod_of_dvd _ (Int.dvd_refl m), ← Int.mul_emod, Int.mul_assoc, Int.mul_comm b]
      · refine Ev.if_neg (fun q => o (Int.ofNat.inj q)) (Ev.if_neg hm0 (Ev.val (ih (e / 2) _ _ he2 he3 ha ⟨b1, b2⟩) ?_))
        rw [key, hev o]
theorem ipow (m b : Int) (e : Nat) (hm : 2 ≤ m ∧ m ≤ 1000000) (hb : 0 ≤ b) (he : e ≤ 1000000) : Ev (fun k => impl_power.f k b (e : Int) m) (b ^ e % m) := by
  simp only [impl_power.f, around_n b m hm hb, Option.bind_some]
  have h2 := Int.emod_nonneg b (show m ≠ 0 by omega)
  have h3 := Int.emod_lt_of_pos b (show 0 < m by omega)
  have h1 : (1 : Int) % m = 1 := Int.emod_eq_of_lt (by omega) (by omega)
  refine Ev.if_neg (by omega) ?_
  rw [h1]
  exact Ev.val (ipow_l m hm e e 1 (b % m) (by omega) he (by omega) ⟨h2, h3⟩) (by rw [Int.one_mul, pow_mod])

theorem igcd_step (a b : Int) (ha : 0 ≤ a) (hb : 0 ≤ b) : Int.gcd b (a % b) = Int.gcd a b := by
  obtain ⟨m, rfl⟩ := Int.eq_ofNat_of_zero_le ha
  obtain ⟨n, rfl⟩ := Int.eq_ofNat_of_zero_le hb
  show Nat.gcd n ((m : Int) % (n : Int)).natAbs = Nat.gcd m n
  rw [← Int.natCast_emod, Int.natAbs_natCast, Nat.gcd_comm n, ← Nat.gcd_rec, Nat.gcd_comm]
theorem gcd_spec (n : Nat) : ∀ (a b : Int), 0 ≤ a → 0 ≤ b → b < 9223372036854775807 → a ≤ 9223372036854775807 → b ≤ n → spec_l01Gcd.l0 (n + 1) a b = some ((Int.gcd a b : Nat) : Int) := by
  induction n with
  | zero =>
    intro a b ha hb _ ha2 hn
    obtain rfl : b = 0 := by omega
    rw [spec_l01Gcd.l0, if_pos rfl]
    have e : mx a (wrap64 (-a)) = a := by rw [wid (by omega) (by omega)]; unfold mx; split <;> omega
    rw [e]
    congr 1
    simp [Int.gcd]; omega
  | succ n ih =>
    intro a b ha hb hb2 ha2 hn
    rw [spec_l01Gcd.l0]
    by_cases h : b = 0
    · subst h
      rw [if_pos rfl]
      have e : mx a (wrap64 (-a)) = a := by rw [wid (by omega) (by omega)]; unfold mx; split <;> omega
      rw [e]
      congr 1
      simp [Int.gcd]; omega
    · rw [if_neg h]
      have h1 : Int.tmod a b = a % b := Int.tmod_eq_emod_of_nonneg ha
      have h2 := Int.emod_nonneg a h
      have h3 := Int.emod_lt_of_pos a (show 0 < b by omega)
      rw [h1, ih b (a % b) hb h2 (by omega) (by omega) (by omega)]
      congr 1; congr 1
      exact igcd_step a b ha hb
theorem gcd_impl_l (n : Nat) : ∀ (a b : Int), 0 ≤ a → 0 ≤ b → b ≤ n → impl_gcd.l0 (n + 1) a b = some ((Int.gcd a b : Nat) : Int) := by
  induction n with
  | zero =>
    intro a b ha hb hn
    obtain rfl : b = 0 := by omega
    rw [impl_gcd.l0, if_neg (by omega)]
    congr 1
    simp [Int.gcd]; omega
  | succ n ih =>
    intro a b ha hb hn
    rw [impl_gcd.l0]
    by_cases h : b > 0
    · rw [if_pos h, if_neg (by omega)]
      have h1 : Int.tmod a b = a % b := Int.tmod_eq_emod_of_nonneg ha
      have h2 := Int.emod_nonneg a (show b ≠ 0 by omega)
      have h3 := Int.emod_lt_of_pos a h
      rw [h1, ih b (a % b) hb h2 (by omega)]
      congr 1; congr 1
      exact igcd_step a b ha hb
    · obtain rfl : b = 0 := by omega
      rw [if_neg h]
      congr 1
      simp [Int.gcd]; omega
theorem gcd_impl (n : Nat) (a b : Int) (ha : 0 ≤ a) (hb : 0 ≤ b) (ha2 : a ≤ 9223372036854775807) (hb2 : b ≤ 9223372036854775807) (hn : b ≤ n) : impl_gcd.f (n + 1) a b = some ((Int.gcd a b : Nat) : Int) := by
  have s : ∀ x : Int, 0 ≤ x → x ≤ 9223372036854775807 → impl_size.f x = some x := by
    intro x h0 h1
    unfold impl_size.f
    rw [wid (by omega) (by omega)]
    unfold mx
    congr 1
    split <;> omega
  unfold impl_gcd.f
  rw [s a ha ha2, s b hb hb2]
  simp only [Option.bind_some]
  exact gcd_impl_l n a b ha hb hn

theorem rd_get (l : List Int) (i : Nat) : rd l (i : Int) = l.getD i 0 := by simp [rd]
theorem index_l (l : List Int) (v : Int) (hl : l.length ≤ 1048576) : ∀ (d i : Nat), l.length - i ≤ d → i ≤ l.length → ∃ r, Ev (fun k => slices_Index_int64_int64.l0 k l v (l.length : Int) (i : Int)) r ∧ decide (r ≥ 0) = decide (v ∈ l.drop i) := by
  intro d
  induction d with
  | zero =>
    intro i h1 h2
    refine ⟨-1, Ev.step (fun k => rfl) ?_, ?_⟩
    · simp only [slices_Index_int64_int64.l0]
      exact Ev.if_neg (by omega) (Ev.now _)
    · rw [List.drop_eq_nil_of_le (by omega)]; simp
  | succ d ih =>
    intro i h1 h2
    by_cases h : i < l.length
    · have hx : rd l (i : Int) = l[i] := by rw [rd_get, List.getD_eq_getElem?_getD, List.getElem?_eq_getElem h, Option.getD_some]
      have ew : wrap64 ((i : Int) + 1) = ((i + 1 : Nat) : Int) := by rw [wid (by omega) (by omega)]; omega
      by_cases e : v = rd l (i : Int)
      · refine ⟨(i : Int), Ev.step (fun k => rfl) ?_, ?_⟩
        · simp only [slices_Index_int64_int64.l0]
          exact Ev.if_pos (by omega) (Ev.if_pos (by omega) (Ev.if_pos (by omega) (Ev.if_pos e (Ev.now _))))
        · rw [List.drop_eq_getElem_cons h, ← hx, ← e]; simp
      · obtain ⟨r, h3, h4⟩ := ih (i + 1) (by omega) (by omega)
        refine ⟨r, Ev.step (fun k => rfl) ?_, ?_⟩
        · simp only [slices_Index_int64_int64.l0, ew]
          exact Ev.if_pos (by omega) (Ev.if_pos (by omega) (Ev.if_pos (by omega) (Ev.if_neg e h3)))
        · rw [h4, List.drop_eq_getElem_cons h, ← hx]; simp [e]
    · refine ⟨-1, Ev.step (fun k => rfl) ?_, ?_⟩
      · simp only [slices_Index_int64_int64.l0]
        exact Ev.if_neg (by omega) (Ev.now _)
      · rw [List.drop_eq_nil_of_le (by omega)]; simp
theorem contains_ev (l : List Int) (v : Int) (hl : l.length ≤ 1048576) : Ev (fun k => slices_Contains_int64_int64.f k l v) (decide (v ∈ l)) := by
  obtain ⟨r, h1, h2⟩ := index_l l v hl l.length 0 (by omega) (by omega)
  simp only [slices_Contains_int64_int64.f, slices_Index_int64_int64.f]
  refine Ev.bind (by simpa using h1) (Ev.val (Ev.now _) ?_)
  rw [h2, List.drop_zero]
theorem roots_len (c : List Int) (m : Int) : ∀ (d : Nat) (i : Int), (rootsL c m d i).length ≤ d := by
  intro d
  induction d with
  | zero => intro i; simp [rootsL]
  | succ d ih =>
    intro i
    simp only [rootsL]
    split
    · have := ih (i + 1); simp; omega
    · have := ih (i + 1); omega
theorem place_both (n l a : Int) (hl : l ≤ 9223372036854775807) : ∃ r : Bool, Ev (fun k => spec_l07Place.f k n l a) r ∧ Ev (fun k => impl_isPlace.f k n l a) r ∧ (r = true → (1 ≤ n ∧ n ≤ 16) ∧ isP l = true ∧ 1 ≤ a ∧ a ≤ l - 1) := by
  have hp := prime_impl l hl
  have hs := prime_spec l
  simp only [spec_l07Place.f, spec_l07Code.f, impl_isPlace.f, impl_rootsFor.f, impl_isOrder.f, in_eq, within_eq, Option.bind_some]
  by_cases h : 1 ≤ n ∧ n ≤ 16
  · simp only [decide_eq_true h, if_true]
    cases hP : isP l with
    | false =>
      rw [hP] at hp hs
      refine ⟨false, Ev.bind (a := 2) (Ev.bind hs (Ev.const fun _ => rfl)) (Ev.const fun _ => rfl), ?_, fun e => by simp at e⟩
      refine Ev.bind (a := ([], false)) (Ev.bind hp ?_) (Ev.const fun _ => rfl)
      exact Ev.if_neg (by simp) (Ev.step (fun k => rfl) (Ev.const fun _ => rfl))
    | true =>
      have hr := isP_range hP
      rw [hP] at hp hs
      obtain ⟨b, f1, f2⟩ := fully_ev n l h hP
      simp only [f1, Option.bind_some]
      cases b with
      | false =>
        refine ⟨false, Ev.bind (a := 0) (Ev.bind hs (Ev.const fun _ => rfl)) (Ev.const fun _ => rfl), ?_, fun e => by simp at e⟩
        refine Ev.bind (a := ([], false)) (Ev.bind hp (Ev.if_pos rfl (Ev.bind f2 ?_))) (Ev.const fun _ => rfl)
        exact Ev.step (fun k => rfl) (Ev.const fun _ => rfl)
      | true =>
        obtain ⟨c, c1, c2, c3⟩ := cyc_ev n h
        have hi : Ev (fun k => impl_rootsFor.j0 k n l false) (rootsL c l (l - 1).toNat 1, true) := by
          refine Ev.step (fun k => rfl) ?_
          simp only [impl_rootsFor_j0_eq]
          exact Ev.bind c3 (Ev.val (roots_impl c l (by omega) (by omega) (l - 1).toNat 1 [] (by omega) (by omega) (by simp)) (by simp))
        have hc := contains_ev (rootsL c l (l - 1).toNat 1) a (by have := roots_len c l (l - 1).toNat 1; omega)
        refine ⟨decide (a ∈ rootsL c l (l - 1).toNat 1), Ev.bind (a := 0) (Ev.bind hs (Ev.const fun _ => rfl)) ?_, ?_, ?_⟩
        · simp only [if_true]
          rw [wid (show -9223372036854775808 ≤ l - 1 by omega) (by omega)]
          by_cases g : 1 ≤ a ∧ a ≤ l - 1
          · simp only [decide_eq_true g, if_true]
            refine Ev.bind c2 (Ev.bind (val_both c a l (by omega) (by omega) (by omega)).1 (Ev.val (Ev.now _) ?_))
            by_cases z : valR c a l c.length 0 = 0
            · rw [decide_eq_true ((mem_roots _ _ _ _ _).2 ⟨by omega, z⟩)]; simp [z]
            · rw [decide_eq_false (fun q => z ((mem_roots _ _ _ _ _).1 q).2)]; simp [z]
          · simp only [decide_eq_false g]
            refine Ev.val (Ev.const fun _ => rfl) ?_
            rw [decide_eq_false]
            intro q
            have := ((mem_roots _ _ _ _ _).1 q).1
            omega
        · refine Ev.bind (Ev.bind hp (Ev.if_pos rfl (Ev.bind f2 hi))) ?_
          simp only [if_true]
          exact Ev.bind hc (Ev.now _)
        · intro e
          have := ((mem_roots _ _ _ _ _).1 (of_decide_eq_true e)).1
          exact ⟨h, (by first | trivial | rfl), by omega, by omega⟩
  · simp only [decide_eq_false h]
    refine ⟨false, Ev.const fun _ => rfl, ?_, fun e => by simp at e⟩
    refine Ev.bind (a := ([], false)) ?_ (Ev.const fun _ => rfl)
    exact Ev.if_neg (by simp) (Ev.step (fun k => rfl) (Ev.const fun _ => rfl))
theorem gcd_evs (a b : Int) (ha : 0 ≤ a ∧ a ≤ 1000000) (hb : 0 ≤ b ∧ b ≤ 1000000) : Ev (fun k => spec_l01Gcd.f k a b) ((Int.gcd a b : Nat) : Int) :=
  Ev.of (spec_l01Gcd.mono _ _) (k := b.toNat + 1) (gcd_spec b.toNat a b (by omega) (by omega) (by omega) (by omega) (by omega))
theorem gcd_evi (a b : Int) (ha : 0 ≤ a ∧ a ≤ 1000000) (hb : 0 ≤ b ∧ b ≤ 1000000) : Ev (fun k => impl_gcd.f k a b) ((Int.gcd a b : Nat) : Int) :=
  Ev.of (impl_gcd.mono _ _) (k := b.toNat + 1) (gcd_impl b.toNat a b (by omega) (by omega) (by omega) (by omega) (by omega))
theorem FnExactMovePlace : laws_FnExactMovePlace.Pure := by
  intro n l a e hn hl ha he
  obtain ⟨b1, b2⟩ := wfb hl
  refine Ev.rounds (g := fun k => laws_FnExactMovePlace.f k n l a e) ?_
  obtain ⟨r, p1, p2, p3⟩ := place_both n l a b2
  obtain ⟨v, s, t⟩ : ∃ v : Int × Int, Ev (fun k => spec_MovePlace.f k n l a e) v ∧ Ev (fun k => impl_MovePlace.f k n l a e) v := by
    simp only [spec_MovePlace.f, impl_MovePlace.f, impl_isPrimeTo.f, in_eq, within_eq, Option.bind_some]
    cases r with
    | false => exact ⟨(0, 2), Ev.bind p1 (Ev.const fun _ => rfl), Ev.bind p2 (Ev.const fun _ => rfl)⟩
    | true =>
      obtain ⟨h, hP, h1, h2⟩ := p3 rfl
      have hr := isP_range hP
      by_cases g : 1 ≤ e ∧ e ≤ n
      · simp only [decide_eq_true g, if_true]
        by_cases z : ((Int.gcd e n : Nat) : Int) = 1
        · obtain ⟨m, rfl⟩ := Int.eq_ofNat_of_zero_le (show 0 ≤ e by omega)
          refine ⟨(a ^ m % l, 0), Ev.bind p1 (Ev.if_pos rfl (Ev.bind (gcd_evs _ n (by omega) (by omega)) (Ev.if_pos z (Ev.bind (spow l a m (by omega) (by omega) (by omega)) (Ev.now _))))), Ev.bind p2 (Ev.if_pos rfl ?_)⟩
          refine Ev.bind (a := true) (Ev.bind (gcd_evi _ n (by omega) (by omega)) (Ev.val (Ev.now _) (by simp [z]))) ?_
          exact Ev.if_pos rfl (Ev.bind (ipow l a m (by omega) (by omega) (by omega)) (Ev.now _))
        · refine ⟨(0, 2), Ev.bind p1 (Ev.if_pos rfl (Ev.bind (gcd_evs _ n (by omega) (by omega)) (Ev.if_neg z (Ev.now _)))), Ev.bind p2 (Ev.if_pos rfl ?_)⟩
          exact Ev.bind (a := false) (Ev.bind (gcd_evi _ n (by omega) (by omega)) (Ev.val (Ev.now _) (by simpa using z))) (Ev.const fun _ => rfl)
      · simp only [decide_eq_false g]
        exact ⟨(0, 2), Ev.bind p1 (Ev.const fun _ => rfl), Ev.bind p2 (Ev.const fun _ => rfl)⟩
  simp only [laws_FnExactMovePlace.f]
  exact Ev.bind s (Ev.bind t (Ev.if_pos rfl (Ev.if_pos rfl (Ev.now _))))

end Go.Proofs.Ytamdeiclkaopmaa.Pure
