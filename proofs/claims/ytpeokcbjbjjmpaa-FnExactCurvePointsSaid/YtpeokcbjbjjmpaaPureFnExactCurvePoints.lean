/- The number of the points of a curve, as the program and as the reference reckon it, for all arguments. No condition. -/
import Derived.Test.YtpeokcbjbjjmpaaXFnExactCurvePointsx4
namespace Go.Proofs.Ytpeokcbjbjjmpaa.Pure
open Go.RowKit Go.Proofs.Ytpeokcbjbjjmpaa.XFnExactCurvePoints Go.Proofs.YtpeokcbjbjjmpaaW.PrintWords Go.Proofs.YtpeokcbjbjjmpaaW.PrintLast
set_option linter.unusedVariables false
set_option linter.unusedSimpArgs false

theorem wfb {a : Int} (h : (Lit.int .i64 a).wf = true) : -9223372036854775808 ≤ a ∧ a ≤ 9223372036854775807 := by
  simp only [Lit.wf, IntKind.min, IntKind.max, IntKind.signed, IntKind.bits, Bool.and_eq_true, decide_eq_true_eq, if_true] at h
  omega
theorem wid {a : Int} (h1 : -9223372036854775808 ≤ a) (h2 : a ≤ 9223372036854775807) : wrap64 a = a := by
  unfold wrap64; omega
theorem Ev.const {α : Type} {g : Nat → Option α} {r : α} (h : ∀ k, g k = some r) : Ev g r := ⟨0, fun k _ => h k⟩
theorem Ev.if_pos {α : Type} {c : Prop} [Decidable c] {f g : Nat → Option α} {r : α} (hc : c) (h : Ev f r) : Ev (fun k => if c then f k else g k) r :=
  Ev.congr (fun k => _root_.if_pos hc) h
theorem Ev.if_neg {α : Type} {c : Prop} [Decidable c] {f g : Nat → Option α} {r : α} (hc : ¬ c) (h : Ev g r) : Ev (fun k => if c then f k else g k) r :=
  Ev.congr (fun k => _root_.if_neg hc) h
theorem Ev.val {α : Type} {f : Nat → Option α} {r s : α} (h : Ev f r) (e : r = s) : Ev f s := e ▸ h
theorem within_eq (a b c : Int) : impl_within.f a b c = some (decide (b ≤ a ∧ a ≤ c)) := by
  unfold impl_within.f
  by_cases h : b ≤ a <;> simp [h]
theorem in_eq (a b c : Int) : spec_l01In.f a b c = some (decide (b ≤ a ∧ a ≤ c)) := by
  unfold spec_l01In.f
  by_cases h : b ≤ a <;> simp [h]
def isP (p : Int) : Bool := [3, 5, 7, 11, 13, 17, 19, 23, 29, 31, 37, 41, 43, 47, 53, 59, 61].contains p
theorem isP_range {p : Int} (h : isP p = true) : 3 ≤ p ∧ p ≤ 61 := by
  simp [isP] at h; omega
theorem isP_out {p : Int} (h : ¬ (3 ≤ p ∧ p ≤ 61)) : isP p = false := by
  cases e : isP p with
  | false => rfl
  | true => exact absurd (isP_range e) h
theorem prime_in : ∀ n : Nat, n < 62 → 3 ≤ n → impl_isPrime.f 10 (n : Int) = some (isP (n : Int)) ∧ spec_l06Prime.f 10 (n : Int) = some (isP (n : Int)) := by decide +kernel
theorem prime_out_l (p : Int) (hp : 62 ≤ p) (hp2 : p ≤ 9223372036854775807) : ∀ (n : Nat) (d : Int), 2 ≤ d → d ≤ p → p - d ≤ n → impl_isPrime.l0 (n + 1) p d = some false := by
  have hw : impl_within.f p 3 61 = some false := by rw [within_eq, decide_eq_false (by omega)]
  intro n
  induction n with
  | zero =>
    intro d h1 h2 h3
    obtain rfl : d = p := by omega
    simp only [impl_isPrime.l0]
    split
    · rw [if_neg (by omega), if_pos (Int.tmod_self)]
    · rw [hw]; rfl
  | succ n ih =>
    intro d h1 h2 h3
    rw [impl_isPrime.l0]
    split
    · rw [if_neg (by omega)]
      by_cases e : Int.tmod p d = 0
      · rw [if_pos e]
      · rw [if_neg e]
        have hd : d ≠ p := fun e' => e (by rw [e']; exact Int.tmod_self)
        rw [wid (by omega) (by omega)]
        exact ih (d + 1) (by omega) (by omega) (by omega)
    · rw [hw]; rfl
theorem prime_impl (p : Int) (hp : p ≤ 9223372036854775807) : Ev (fun k => impl_isPrime.f k p) (isP p) := by
  by_cases h : 3 ≤ p ∧ p ≤ 61
  · obtain ⟨n, rfl⟩ := Int.eq_ofNat_of_zero_le (show 0 ≤ p by omega)
    exact Ev.of (impl_isPrime.mono _) (prime_in n (by omega) (by omega)).1
  · rw [isP_out h]
    by_cases h2 : p < 3
    · refine ⟨1, fun k hk => ?_⟩
      obtain ⟨k, rfl⟩ : ∃ m, k = m + 1 := ⟨k - 1, by omega⟩
      show impl_isPrime.f (k + 1) p = some false
      unfold impl_isPrime.f
      rw [impl_isPrime.l0, if_neg (by rw [wid (by omega) (by omega)]; omega), within_eq, decide_eq_false (by omega)]
      rfl
    · refine Ev.of (impl_isPrime.mono _) (k := (p - 2).toNat + 1) ?_
      exact prime_out_l p (by omega) hp _ 2 (by omega) (by omega) (by omega)
theorem prime_spec (p : Int) : Ev (fun k => spec_l06Prime.f k p) (isP p) := by
  by_cases h : 3 ≤ p ∧ p ≤ 61
  · obtain ⟨n, rfl⟩ := Int.eq_ofNat_of_zero_le (show 0 ≤ p by omega)
    exact Ev.of (spec_l06Prime.mono _) (prime_in n (by omega) (by omega)).2
  · rw [isP_out h]
    refine Ev.const (fun k => ?_)
    unfold spec_l06Prime.f
    rw [in_eq, decide_eq_false h]
    rfl


theorem rd_get (l : List Int) (i : Nat) : rd l (i : Int) = l.getD i 0 := by simp [rd]
theorem pow_mod (x m : Int) (n : Nat) : (x % m) ^ n % m = x ^ n % m := by
  induction n with
  | zero => rw [Int.pow_zero, Int.pow_zero]
  | succ n ih => rw [Int.pow_succ, Int.pow_succ, Int.mul_emod, ih, Int.emod_emod_of_dvd _ (Int.dvd_refl m), ← Int.mul_emod]
theorem sq_pow (b : Int) (n : Nat) : (b * b) ^ n = b ^ (n + n) := by
  induction n with
  | zero => rw [Int.pow_zero, Nat.add_zero, Int.pow_zero]
  | succ n ih => rw [Int.pow_succ, ih, show n + 1 + (n + 1) = n + n + 1 + 1 from by omega, Int.pow_succ, Int.pow_succ, Int.mul_assoc]
theorem prod_le {a b : Int} (ha : 0 ≤ a ∧ a ≤ 1000000) (hb : 0 ≤ b ∧ b ≤ 1000000) : 0 ≤ a * b ∧ a * b ≤ 1000000000000 := by
  have h1 : 0 ≤ a * b := Int.mul_nonneg ha.1 hb.1
  have h2 : a * b ≤ 1000000 * 1000000 := Int.mul_le_mul ha.2 hb.2 hb.1 (by omega)
  omega
theorem tmod_w {a m : Int} (ha : 0 ≤ a ∧ a ≤ 1000000000000) : Int.tmod (wrap64 a) m = a % m := by
  rw [wid (by omega) (by omega), Int.tmod_eq_emod_of_nonneg ha.1]
theorem around_n (b m : Int) (hm : 2 ≤ m ∧ m ≤ 1000000) (hb : 0 ≤ b) : impl_around.f b m = some (b % m) := by
  unfold impl_around.f
  have h2 := Int.emod_nonneg b (show m ≠ 0 by omega)
  have h3 := Int.emod_lt_of_pos b (show 0 < m by omega)
  rw [if_neg (by omega), Int.tmod_eq_emod_of_nonneg hb, tmod_w (by omega), Int.add_emod_right, Int.emod_emod_of_dvd _ (Int.dvd_refl m)]

/-- The power by one step after another. -/
theorem spow_l (m b : Int) (hm : 1 ≤ m ∧ m ≤ 1000000) (hb : 0 ≤ b ∧ b ≤ 1000000) : ∀ (e : Nat) (a : Int), e ≤ 1000000 → 0 ≤ a ∧ a < m → Ev (fun k => spec_l08Power.l0 k m b (e : Int) a) ((a * b ^ e) % m) := by
  intro e
  induction e with
  | zero =>
    intro a _ ha
    refine Ev.step (fun k => rfl) ?_
    simp only [spec_l08Power.l0]
    exact Ev.if_neg (by omega) (Ev.val (Ev.now _) (by rw [Int.pow_zero, Int.mul_one, Int.emod_eq_of_lt ha.1 ha.2]))
  | succ e ih =>
    intro a he ha
    have h1 := prod_le (a := a) (b := b) (by omega) hb
    have h2 := Int.emod_nonneg (a * b) (show m ≠ 0 by omega)
    have h3 := Int.emod_lt_of_pos (a * b) (show 0 < m by omega)
    have ew : wrap64 (((e + 1 : Nat) : Int) - 1) = (e : Int) := by rw [wid (by omega) (by omega)]; omega
    refine Ev.step (fun k => rfl) ?_
    simp only [spec_l08Power.l0, ew, tmod_w h1]
    refine Ev.if_pos (by omega) (Ev.if_neg (by omega) (Ev.val (ih _ (by omega) ⟨h2, h3⟩) ?_))
    rw [Int.pow_succ, Int.mul_comm (b ^ e) b, ← Int.mul_assoc, Int.mul_emod, Int.emod_emod_of_dvd _ (Int.dvd_refl m), ← Int.mul_emod]
theorem spow (m b : Int) (e : Nat) (hm : 2 ≤ m ∧ m ≤ 1000000) (hb : 0 ≤ b ∧ b ≤ 1000000) (he : e ≤ 1000000) : Ev (fun k => spec_l08Power.f k m b (e : Int)) (b ^ e % m) := by
  simp only [spec_l08Power.f]
  exact Ev.val (spow_l m b (by omega) hb e 1 he (by omega)) (by rw [Int.one_mul])
/-- The power by halves. -/
theorem ipow_l (m : Int) (hm : 2 ≤ m ∧ m ≤ 1000000) : ∀ (n e : Nat) (a b : Int), e ≤ n → e ≤ 1000000 → 0 ≤ a ∧ a < m → 0 ≤ b ∧ b < m → Ev (fun k => impl_power.l0 k b (e : Int) m a) ((a * b ^ e) % m) := by
  intro n
  have stop : ∀ (a b : Int), 0 ≤ a ∧ a < m → Ev (fun k => impl_power.l0 k b ((0 : Nat) : Int) m a) ((a * b ^ 0) % m) := by
    intro a b ha
    refine Ev.step (fun k => rfl) ?_
    simp only [impl_power.l0]
    exact Ev.if_neg (by omega) (Ev.val (Ev.now _) (by rw [Int.pow_zero, Int.mul_one, Int.emod_eq_of_lt ha.1 ha.2]))
  induction n with
  | zero =>
    intro e a b h _ ha _
    obtain rfl : e = 0 := by omega
    exact stop a b ha
  | succ n ih =>
    intro e a b h he ha hb
    by_cases z : e = 0
    · subst z; exact stop a b ha
    · have h1 := prod_le (a := b) (b := b) (by omega) (by omega)
      have h2 := prod_le (a := a) (b := b) (by omega) (by omega)
      have b1 := Int.emod_nonneg (b * b) (show m ≠ 0 by omega)
      have b2 := Int.emod_lt_of_pos (b * b) (show 0 < m by omega)
      have a1 := Int.emod_nonneg (a * b) (show m ≠ 0 by omega)
      have a2 := Int.emod_lt_of_pos (a * b) (show 0 < m by omega)
      have he1 : (e : Int) > 0 := by omega
      have he2 : e / 2 ≤ n := by omega
      have he3 : e / 2 ≤ 1000000 := by omega
      have hm0 : ¬ m = 0 := by omega
      have hev : ¬ e % 2 = 1 → e / 2 + e / 2 = e := by omega
      have hod : e % 2 = 1 → e = (e / 2 + e / 2).succ := by omega
      have e1 : Int.tmod (e : Int) 2 = ((e % 2 : Nat) : Int) := by rw [Int.tmod_eq_emod_of_nonneg (by omega)]; rfl
      have e2 : wrap64 (Int.tdiv (e : Int) 2) = ((e / 2 : Nat) : Int) := by rw [Int.tdiv_eq_ediv_of_nonneg (by omega), wid (by omega) (by omega)]; rfl
      refine Ev.step (fun k => rfl) ?_
      simp only [impl_power.l0, tmod_w h1, tmod_w h2, e1, e2]
      refine Ev.if_pos he1 ?_
      have key : ∀ (c : Int), (c * (b * b % m) ^ (e / 2)) % m = (c * b ^ (e / 2 + e / 2)) % m := by
        intro c
        rw [Int.mul_emod, pow_mod, ← Int.mul_emod, sq_pow]
      by_cases o : e % 2 = 1
      · have p : b ^ e = b ^ (e / 2 + e / 2) * b := by rw [← Int.pow_succ, ← hod o]
        refine Ev.if_pos (by rw [o]; rfl) (Ev.if_neg hm0 (Ev.val (ih (e / 2) _ _ he2 he3 ⟨a1, a2⟩ ⟨b1, b2⟩) ?_))
        rw [key, p, Int.mul_emod, Int.emod_emod_of_dvd _ (Int.dvd_refl m), ← Int.mul_emod, Int.mul_assoc, Int.mul_comm b]
      · refine Ev.if_neg (fun q => o (Int.ofNat.inj q)) (Ev.if_neg hm0 (Ev.val (ih (e / 2) _ _ he2 he3 ha ⟨b1, b2⟩) ?_))
        rw [key, hev o]
theorem ipow (m b : Int) (e : Nat) (hm : 2 ≤ m ∧ m ≤ 1000000) (hb : 0 ≤ b) (he : e ≤ 1000000) : Ev (fun k => impl_power.f k b (e : Int) m) (b ^ e % m) := by
  simp only [impl_power.f, around_n b m hm hb, Option.bind_some]
  have h2 := Int.emod_nonneg b (show m ≠ 0 by omega)
  have h3 := Int.emod_lt_of_pos b (show 0 < m by omega)
  have h1 : (1 : Int) % m = 1 := Int.emod_eq_of_lt (by omega) (by omega)
  refine Ev.if_neg (by omega) ?_
  rw [h1]
  exact Ev.val (ipow_l m hm e e 1 (b % m) (by omega) he (by omega) ⟨h2, h3⟩) (by rw [Int.one_mul, pow_mod])
/-- The e-th powers of 0.. p-1 by p. -/
def pows (p : Int) (e : Nat) : List Int := (List.range p.toNat).map fun (x : Nat) => (x : Int) ^ e % p
theorem pows_len (p : Int) (e : Nat) : (pows p e).length = p.toNat := by simp [pows]
theorem pows_at (p : Int) (e x : Nat) (h : x < (pows p e).length) : (pows p e)[x] = (x : Int) ^ e % p := by simp [pows]
theorem pows_bnd (p : Int) (e : Nat) (hp : 2 ≤ p) : ∀ t ∈ pows p e, 0 ≤ t ∧ t < p := by
  intro t ht
  simp only [pows, List.mem_map] at ht
  obtain ⟨x, _, rfl⟩ := ht
  exact ⟨Int.emod_nonneg _ (by omega), Int.emod_lt_of_pos _ (by omega)⟩
/-- The counts: each number of the list tells one cell. -/
def cntL (p a : Int) : List Int → List Int → List Int
  | [], c => c
  | t :: ts, c => cntL p a ts (c.set ((a * t) % p).toNat (wrap64 (rd c ((a * t) % p) + 1)))
theorem cntL_len (p a : Int) : ∀ (ts c : List Int), (cntL p a ts c).length = c.length := by
  intro ts
  induction ts with
  | nil => intro c; rfl
  | cons t ts ih => intro c; simp only [cntL]; rw [ih, List.length_set]
theorem drop_cons {l : List Int} {i : Nat} (h : i < l.length) : l.drop i = rd l (i : Int) :: l.drop (i + 1) := by
  rw [List.drop_eq_getElem_cons h, rd_get, List.getD_eq_getElem?_getD, List.getElem?_eq_getElem h, Option.getD_some]
theorem rd_pows (p : Int) (e x : Nat) (h : x < p.toNat) : rd (pows p e) (x : Int) = (x : Int) ^ e % p := by
  have h2 : x < (pows p e).length := by rw [pows_len]; exact h
  rw [rd_get, List.getD_eq_getElem?_getD, List.getElem?_eq_getElem h2, Option.getD_some, pows_at]
theorem powersOf_l (p : Int) (e : Nat) (hp : 2 ≤ p ∧ p ≤ 1000000) (he : e ≤ 1000000) : ∀ (d x : Nat) (xs : List Int), x + d = p.toNat → xs.length ≤ x → Ev (fun k => impl_powersOf.l0 k p (e : Int) xs p (x : Int)) (xs ++ (pows p e).drop x) := by
  intro d
  induction d with
  | zero =>
    intro x xs h h2
    refine Ev.step (fun k => rfl) ?_
    simp only [impl_powersOf.l0]
    exact Ev.if_neg (by omega) (Ev.val (Ev.now _) (by rw [List.drop_eq_nil_of_le (by rw [pows_len]; omega), List.append_nil]))
  | succ d ih =>
    intro x xs h h2
    have ew : wrap64 ((x : Int) + 1) = ((x + 1 : Nat) : Int) := by rw [wid (by omega) (by omega)]; omega
    refine Ev.step (fun k => rfl) ?_
    simp only [impl_powersOf.l0, ew]
    refine Ev.if_pos (by omega) (Ev.bind (ipow p (x : Int) e hp (by omega) he) (Ev.if_pos (by omega) (Ev.val (ih (x + 1) (xs ++ [(x : Int) ^ e % p]) (by omega) (by simp; omega)) ?_)))
    rw [drop_cons (l := pows p e) (i := x) (by rw [pows_len]; omega), rd_pows p e x (by omega)]
    simp
theorem powersOf_ev (p : Int) (e : Nat) (hp : 2 ≤ p ∧ p ≤ 1000000) (he : e ≤ 1000000) : Ev (fun k => impl_powersOf.f k p (e : Int)) (pows p e) := by
  simp only [impl_powersOf.f]
  exact Ev.val (powersOf_l p e hp he p.toNat 0 [] (by omega) (by simp)) (by simp)
theorem vals_spec_l (p a : Int) (e : Nat) (hp : 2 ≤ p ∧ p ≤ 1000000) (ha : 0 ≤ a ∧ a ≤ 1000000) (he : e ≤ 1000000) : ∀ (d x : Nat) (c : List Int), x + d = p.toNat → c.length = p.toNat → Ev (fun k => spec_l08Values.l0 k p a (e : Int) c (x : Int)) (cntL p a ((pows p e).drop x) c) := by
  intro d
  induction d with
  | zero =>
    intro x c h h2
    refine Ev.step (fun k => rfl) ?_
    simp only [spec_l08Values.l0]
    exact Ev.if_neg (by omega) (Ev.val (Ev.now _) (by rw [List.drop_eq_nil_of_le (by rw [pows_len]; omega)]; rfl))
  | succ d ih =>
    intro x c h h2
    have ew : wrap64 ((x : Int) + 1) = ((x + 1 : Nat) : Int) := by rw [wid (by omega) (by omega)]; omega
    have b1 := Int.emod_nonneg ((x : Int) ^ e) (show p ≠ 0 by omega)
    have b2 := Int.emod_lt_of_pos ((x : Int) ^ e) (show 0 < p by omega)
    rw [drop_cons (by rw [pows_len]; omega), rd_pows p e x (by omega)]
    have hs := spow p (x : Int) e hp (by omega) he
    generalize (x : Int) ^ e % p = t at hs b1 b2
    have c1 := Int.emod_nonneg (a * t) (show p ≠ 0 by omega)
    have c2 := Int.emod_lt_of_pos (a * t) (show 0 < p by omega)
    refine Ev.step (fun k => rfl) ?_
    simp only [spec_l08Values.l0, ew]
    refine Ev.if_pos (by omega) (Ev.bind hs (Ev.if_neg (by omega) ?_))
    rw [tmod_w (prod_le ha (by omega))]
    refine Ev.if_pos c1 (Ev.if_pos (by omega) ?_)
    exact ih (x + 1) _ (by omega) (by rw [List.length_set]; exact h2)
/-- The counts of the values a x^e, x from s on. -/
def cntF (p a : Int) (e s : Nat) : List Int := cntL p a ((pows p e).drop s) (List.replicate p.toNat 0)
theorem cntF_len (p a : Int) (e s : Nat) : (cntF p a e s).length = p.toNat := by simp [cntF, cntL_len]
theorem vals_spec (p a : Int) (e : Nat) (hp : 2 ≤ p ∧ p ≤ 1000000) (ha : 0 ≤ a ∧ a ≤ 1000000) (he : e ≤ 1000000) : Ev (fun k => spec_l08Values.f k p a (e : Int)) (cntF p a e 0) := by
  simp only [spec_l08Values.f]
  exact Ev.if_pos (by omega) (Ev.if_pos (by omega) (vals_spec_l p a e hp ha he p.toNat 0 _ (by omega) (by simp)))



/-- The sum of d numbers from the i-th on. -/
def sumF : Nat → Nat → (Nat → Int) → Int
  | 0, _, _ => 0
  | d + 1, i, f => f i + sumF d (i + 1) f
theorem sumF_zero : ∀ (d i : Nat), sumF d i (fun _ => 0) = 0 := by
  intro d
  induction d with
  | zero => intro i; rfl
  | succ d ih => intro i; simp only [sumF, ih, Int.add_zero]
theorem sumF_add (f g : Nat → Int) : ∀ (d i : Nat), sumF d i (fun j => f j + g j) = sumF d i f + sumF d i g := by
  intro d
  induction d with
  | zero => intro i; rfl
  | succ d ih => intro i; simp only [sumF, ih]; omega
theorem sumF_congr {f g : Nat → Int} : ∀ (d i : Nat), (∀ j, i ≤ j → j < i + d → f j = g j) → sumF d i f = sumF d i g := by
  intro d
  induction d with
  | zero => intro i _; rfl
  | succ d ih => intro i h; simp only [sumF]; rw [h i (by omega) (by omega), ih (i + 1) (fun j h1 h2 => h j (by omega) (by omega))]
theorem sumF_swap (f : Nat → Nat → Int) (m b : Nat) : ∀ (n a : Nat), sumF n a (fun i => sumF m b (fun j => f i j)) = sumF m b (fun j => sumF n a (fun i => f i j)) := by
  intro n
  induction n with
  | zero => intro a; simp only [sumF, sumF_zero]
  | succ n ih => intro a; simp only [sumF, ih, sumF_add]
theorem wrap_add (a b : Int) : wrap64 (wrap64 a + wrap64 b) = wrap64 (a + b) := by unfold wrap64; omega
/-- A list told by a function. -/
def tab (p : Nat) (F : Nat → Int) : List Int := (List.range p).map fun v => wrap64 (F v)
theorem tab_len (p : Nat) (F : Nat → Int) : (tab p F).length = p := by simp [tab]
theorem rd_tab (p : Nat) (F : Nat → Int) (v : Nat) (h : v < p) : rd (tab p F) (v : Int) = wrap64 (F v) := by
  rw [rd_get, List.getD_eq_getElem?_getD, List.getElem?_eq_getElem (by rw [tab_len]; exact h), Option.getD_some]
  simp [tab]
theorem tab_zero (p : Nat) : List.replicate p (0 : Int) = tab p (fun _ => 0) := by
  apply List.ext_getElem (by simp [tab])
  intro i h1 h2
  simp only [tab, List.getElem_map, List.getElem_replicate]
  exact (wid (by omega) (by omega)).symm
theorem set_tab (p : Nat) (F : Nat → Int) (y : Int) (v : Nat) (h : v < p) : (tab p F).set v (wrap64 (rd (tab p F) (v : Int) + wrap64 y)) = tab p (fun u => F u + if u = v then y else 0) := by
  rw [rd_tab p F v h, wrap_add]
  apply List.ext_getElem (by simp [tab])
  intro i h1 h2
  rw [List.getElem_set]
  by_cases e : v = i
  · subst e; simp [tab]
  · rw [_root_.if_neg e]
    simp only [tab, List.getElem_map, List.getElem_range]
    rw [_root_.if_neg (fun e' => e e'.symm), Int.add_zero]
theorem idx_eq (P i j : Nat) (hP : 2 ≤ P) (h : i ≤ 1000000) (h2 : j ≤ 1000000) : Int.tmod (wrap64 ((i : Int) + (j : Int))) (P : Int) = (((i + j) % P : Nat) : Int) := by
  rw [tmod_w (by omega)]
  rw [← Int.natCast_add, ← Int.natCast_emod]
def Gv (P : Nat) (acc vals : List Int) (v i j : Nat) : Int := if v = (i + j) % P then rd acc (i : Int) * rd vals (j : Int) else 0
theorem Gv_swap (P : Nat) (acc vals : List Int) (v : Nat) : sumF P 0 (fun i => sumF P 0 (fun j => Gv P acc vals v i j)) = sumF P 0 (fun j => sumF P 0 (fun i => Gv P acc vals v i j)) := sumF_swap (fun i j => Gv P acc vals v i j) P 0 P 0
/-- The counts of the sums. -/
def conv (P : Nat) (acc vals : List Int) : List Int := tab P fun v => sumF P 0 fun i => sumF P 0 fun j => Gv P acc vals v i j
theorem cs_l2 (P : Nat) (hP : 2 ≤ P ∧ P ≤ 1000000) (x1 x2 : List Int) (x3 : Int) (x4 : Bool) (acc vals : List Int) (x12 : Int) (ha : acc.length = P) (hv : vals.length = P) (r : Int) (i : Nat) (hi : i < P) : ∀ (d j : Nat) (F : Nat → Int), j + d = P →
    Ev (fun k => spec_l08Count.l1 k (P : Int) x1 x2 x3 x4 acc x12 vals (tab P (fun v => F v + sumF d j (fun j => Gv P acc vals v i j))) ((i + 1 : Nat) : Int)) r →
    Ev (fun k => spec_l08Count.l2 k (P : Int) x1 x2 x3 x4 acc x12 vals (tab P F) (i : Int) (j : Int)) r := by
  intro d
  have ew : ∀ n : Nat, n ≤ 1000000 → wrap64 ((n : Int) + 1) = ((n + 1 : Nat) : Int) := by intro n hn; rw [wid (by omega) (by omega)]; omega
  induction d with
  | zero =>
    intro j F hj h
    refine Ev.step (fun k => rfl) ?_
    simp only [spec_l08Count.l2, ew i (by omega)]
    simp only [sumF, Int.add_zero] at h
    exact Ev.if_neg (by omega) h
  | succ d ih =>
    intro j F hj h
    have hm : (i + j) % P < P := Nat.mod_lt _ (by omega)
    refine Ev.step (fun k => rfl) ?_
    simp only [spec_l08Count.l2, idx_eq P i j hP.1 (by omega) (by omega), Int.toNat_natCast, ew j (by omega), set_tab P F _ _ hm, tab_len]
    refine Ev.if_pos (by omega) (Ev.if_neg (by omega) (Ev.if_pos (by omega) (Ev.if_pos (by omega) (Ev.if_pos (by omega) (Ev.if_pos (by omega) (Ev.if_pos (by omega) (Ev.if_pos (by omega) ?_)))))))
    refine ih (j + 1) _ (by omega) ?_
    simp only [sumF, ← Int.add_assoc] at h
    exact h
theorem cs_l1 (P : Nat) (hP : 2 ≤ P ∧ P ≤ 1000000) (x1 x2 : List Int) (x3 : Int) (x4 : Bool) (acc vals : List Int) (x12 : Int) (ha : acc.length = P) (hv : vals.length = P) (r : Int) : ∀ (d i : Nat) (F : Nat → Int), i + d = P →
    Ev (fun k => spec_l08Count.l0 k (P : Int) x1 x2 x3 x4 (tab P (fun v => F v + sumF d i (fun i => sumF P 0 (fun j => Gv P acc vals v i j)))) (wrap64 (x12 + 1))) r →
    Ev (fun k => spec_l08Count.l1 k (P : Int) x1 x2 x3 x4 acc x12 vals (tab P F) (i : Int)) r := by
  intro d
  induction d with
  | zero =>
    intro i F hi h
    refine Ev.step (fun k => rfl) ?_
    simp only [spec_l08Count.l1]
    simp only [sumF, Int.add_zero] at h
    exact Ev.if_neg (by omega) h
  | succ d ih =>
    intro i F hi h
    refine Ev.step (fun k => rfl) ?_
    simp only [spec_l08Count.l1]
    refine Ev.if_pos (by omega) ?_
    refine cs_l2 P hP x1 x2 x3 x4 acc vals x12 ha hv r i (by omega) P 0 F (by omega) ?_
    refine ih (i + 1) _ (by omega) ?_
    simp only [sumF, ← Int.add_assoc] at h
    exact h
/-- One factor more. -/
theorem cs_j1 (P : Nat) (hP : 2 ≤ P ∧ P ≤ 1000000) (x1 x2 : List Int) (x3 : Int) (x4 : Bool) (acc vals : List Int) (x12 : Int) (ha : acc.length = P) (hv : vals.length = P) (r : Int)
    (h : Ev (fun k => spec_l08Count.l0 k (P : Int) x1 x2 x3 x4 (conv P acc vals) (wrap64 (x12 + 1))) r) :
    Ev (fun k => spec_l08Count.j1 k (P : Int) x1 x2 x3 x4 acc x12 vals (List.replicate P 0)) r := by
  refine Ev.step (fun k => rfl) ?_
  simp only [spec_l08Count.j1, tab_zero]
  refine cs_l1 P hP x1 x2 x3 x4 acc vals x12 ha hv r P 0 _ (by omega) ?_
  simp only [Int.zero_add]
  exact h
def sL (g : Nat → Int) : List Nat → Int
  | [] => 0
  | x :: xs => g x + sL g xs
theorem sL_congr {f g : Nat → Int} : ∀ (L : List Nat), (∀ x ∈ L, f x = g x) → sL f L = sL g L := by
  intro L
  induction L with
  | nil => intro _; rfl
  | cons x L ih => intro h; simp only [sL]; rw [h x (by simp), ih (fun y hy => h y (by simp [hy]))]
def sN (f : Nat → Nat) (L : List Nat) : Nat := L.foldr (fun x a => f x + a) 0
theorem sN_cast (f : Nat → Nat) (L : List Nat) : ((sN f L : Nat) : Int) = sL (fun x => ((f x : Nat) : Int)) L := by
  induction L with
  | nil => rfl
  | cons x L ih => simp only [sL, ← ih]; show (((f x + sN f L : Nat)) : Int) = _; omega
def cN (v : Nat) (L : List Nat) : Int := sL (fun x => if x = v then 1 else 0) L
theorem cN_bnd (v : Nat) (L : List Nat) : 0 ≤ cN v L ∧ cN v L ≤ L.length := by
  induction L with
  | nil => simp [cN, sL]
  | cons x L ih =>
    simp only [cN, sL, List.length_cons] at *
    split <;> omega
theorem sumF_none (g : Nat → Int) (v : Nat) : ∀ (d i : Nat), (v < i ∨ i + d ≤ v) → sumF d i (fun j => if j = v then g j else 0) = 0 := by
  intro d
  induction d with
  | zero => intro i _; rfl
  | succ d ih => intro i h; simp only [sumF]; rw [if_neg (by omega), ih (i + 1) (by omega), Int.add_zero]
theorem sumF_pick (g : Nat → Int) (v : Nat) : ∀ (d i : Nat), i ≤ v → v < i + d → sumF d i (fun j => if j = v then g j else 0) = g v := by
  intro d
  induction d with
  | zero => intro i h1 h2; omega
  | succ d ih =>
    intro i h1 h2
    simp only [sumF]
    by_cases e : i = v
    · subst e; rw [if_pos rfl, sumF_none g i d (i + 1) (by omega), Int.add_zero]
    · rw [if_neg e, ih (i + 1) (by omega) (by omega), Int.zero_add]
theorem sumF_mul (c : Int) (f : Nat → Int) : ∀ (d i : Nat), sumF d i (fun j => c * f j) = c * sumF d i f := by
  intro d
  induction d with
  | zero => intro i; simp [sumF]
  | succ d ih => intro i; simp only [sumF, ih, Int.mul_add]
theorem pick_list (P : Nat) (g : Nat → Int) : ∀ (L : List Nat), (∀ x ∈ L, x < P) → sumF P 0 (fun i => cN i L * g i) = sL g L := by
  intro L
  induction L with
  | nil => intro _; simp only [cN, sL, Int.zero_mul]; exact sumF_zero P 0
  | cons x L ih =>
    intro h
    have e : sumF P 0 (fun i => cN i (x :: L) * g i) = sumF P 0 (fun i => (if i = x then g i else 0) + cN i L * g i) := by
      refine sumF_congr P 0 (fun j _ _ => ?_)
      simp only [cN, sL, Int.add_mul]
      congr 1
      by_cases z : x = j
      · subst z; simp
      · rw [if_neg z, if_neg (fun z' => z z'.symm), Int.zero_mul]
    rw [e, sumF_add, sumF_pick g x P 0 (by omega) (by have := h x (by simp); omega), ih (fun y hy => h y (by simp [hy]))]
    rfl
/-- The n-th powers as plain numbers. -/
def LN (P e : Nat) : List Nat := (List.range P).map fun x => x ^ e % P
theorem LN_len (P e : Nat) : (LN P e).length = P := by simp [LN]
theorem LN_lt (P e : Nat) (h : 2 ≤ P) : ∀ x ∈ LN P e, x < P := by
  intro x hx
  simp only [LN, List.mem_map] at hx
  obtain ⟨y, _, rfl⟩ := hx
  exact Nat.mod_lt _ (by omega)
theorem pows_LN (P e : Nat) : pows (P : Int) e = (LN P e).map (fun x : Nat => (x : Int)) := by
  simp only [pows, LN, Int.toNat_natCast, List.map_map]
  apply List.map_congr_left
  intro x _
  simp
theorem cntL_tab (P : Nat) (hP : 2 ≤ P) : ∀ (L : List Nat) (F : Nat → Int), (∀ x ∈ L, x < P) → cntL (P : Int) 1 (L.map (fun x : Nat => (x : Int))) (tab P F) = tab P (fun v => F v + cN v L) := by
  intro L
  induction L with
  | nil => intro F _; simp [cntL, cN, sL]
  | cons x L ih =>
    intro F h
    have hx := h x (by simp)
    have e1 : (1 * (x : Int)) % (P : Int) = (x : Int) := by rw [Int.one_mul]; exact Int.emod_eq_of_lt (by omega) (by omega)
    have e2 : wrap64 (rd (tab P F) (x : Int) + 1) = wrap64 (rd (tab P F) (x : Int) + wrap64 1) := by rw [wid (a := 1) (by omega) (by omega)]
    simp only [List.map_cons, cntL, e1, Int.toNat_natCast]
    rw [e2, set_tab P F 1 x hx, ih _ (fun y hy => h y (by simp [hy]))]
    congr 1
    funext v
    simp only [cN, sL]
    by_cases z : x = v
    · subst z; simp only [if_true]; omega
    · rw [if_neg z, if_neg (fun z' => z z'.symm)]; omega
theorem rd_h (P e v : Nat) (hP : 2 ≤ P ∧ P ≤ 1000000) (hv : v < P) : rd (cntF (P : Int) 1 e 0) (v : Int) = cN v (LN P e) := by
  unfold cntF
  rw [List.drop_zero, pows_LN, Int.toNat_natCast, tab_zero, cntL_tab P hP.1 _ _ (LN_lt P e hP.1), rd_tab P _ v hv]
  have b := cN_bnd v (LN P e)
  rw [LN_len] at b
  rw [Int.zero_add, wid (by omega) (by omega)]
theorem rd_first (P : Nat) (hP : 2 ≤ P ∧ P ≤ 1000000) (h : List Int) (v : Nat) (hv : v < P) (hr : -9223372036854775808 ≤ rd h (v : Int) ∧ rd h (v : Int) ≤ 9223372036854775807) : rd (conv P ((List.replicate P 0).set 0 1) h) (v : Int) = rd h (v : Int) := by
  unfold conv
  rw [rd_tab P _ v hv]
  obtain ⟨m, rfl⟩ : ∃ m, P = m + 1 := ⟨P - 1, by omega⟩
  have d0 : rd ((List.replicate (m + 1) (0 : Int)).set 0 1) ((0 : Nat) : Int) = 1 := by
    rw [rd_get, List.getD_eq_getElem?_getD, List.getElem?_set_self (by simp), Option.getD_some]
  have dn : ∀ i : Nat, 1 ≤ i → rd ((List.replicate (m + 1) (0 : Int)).set 0 1) (i : Int) = 0 := by
    intro i hi
    rw [rd_get, List.getD_eq_getElem?_getD, List.getElem?_set_ne (by omega)]
    by_cases g : i < m + 1
    · rw [List.getElem?_eq_getElem (by simpa using g), Option.getD_some, List.getElem_replicate]
    · rw [List.getElem?_eq_none (by simp; omega)]; rfl
  have z : sumF m 1 (fun i => sumF (m + 1) 0 (fun j => Gv (m + 1) ((List.replicate (m + 1) 0).set 0 1) h v i j)) = 0 := by
    refine (sumF_congr m 1 (g := fun _ => 0) (fun i h1 h2 => ?_)).trans (sumF_zero m 1)
    refine (sumF_congr (m + 1) 0 (g := fun _ => 0) (fun j _ _ => ?_)).trans (sumF_zero (m + 1) 0)
    unfold Gv
    rw [dn i h1, Int.zero_mul]
    split <;> rfl
  have f : sumF (m + 1) 0 (fun j => Gv (m + 1) ((List.replicate (m + 1) 0).set 0 1) h v 0 j) = rd h (v : Int) := by
    rw [← sumF_pick (fun j => rd h (j : Int)) v (m + 1) 0 (by omega) (by omega)]
    refine sumF_congr (m + 1) 0 (fun j _ h2 => ?_)
    unfold Gv
    rw [d0, Int.one_mul, Nat.zero_add, Nat.mod_eq_of_lt (by omega)]
    by_cases g : v = j
    · rw [if_pos g, if_pos g.symm]
    · rw [if_neg g, if_neg (fun g' => g g'.symm)]
  show wrap64 (sumF (m + 1) 0 (fun j => Gv (m + 1) ((List.replicate (m + 1) 0).set 0 1) h v 0 j) + sumF m 1 (fun i => sumF (m + 1) 0 (fun j => Gv (m + 1) ((List.replicate (m + 1) 0).set 0 1) h v i j))) = _
  rw [z, f, Int.add_zero, wid hr.1 hr.2]
/-- The pairs of powers with sum 1. -/
def twoS (P : Nat) (L : List Nat) : Int := sL (fun x => sL (fun y => if 1 = (x + y) % P then 1 else 0) L) L
theorem rd_second (P e : Nat) (hP : 2 ≤ P ∧ P ≤ 1000000) : rd (conv P (conv P ((List.replicate P 0).set 0 1) (cntF (P : Int) 1 e 0)) (cntF (P : Int) 1 e 0)) 1 = wrap64 (twoS P (LN P e)) := by
  have rng : ∀ v, v < P → -9223372036854775808 ≤ rd (cntF (P : Int) 1 e 0) (v : Int) ∧ rd (cntF (P : Int) 1 e 0) (v : Int) ≤ 9223372036854775807 := by
    intro v hv
    rw [rd_h P e v hP hv]
    have b := cN_bnd v (LN P e)
    rw [LN_len] at b
    omega
  have t := rd_tab P (fun v => sumF P 0 fun i => sumF P 0 fun j => Gv P (conv P ((List.replicate P 0).set 0 1) (cntF (P : Int) 1 e 0)) (cntF (P : Int) 1 e 0) v i j) 1 (by omega)
  refine Eq.trans t ?_
  congr 1
  have s1 : (sumF P 0 fun i => sumF P 0 fun j => Gv P (conv P ((List.replicate P 0).set 0 1) (cntF (P : Int) 1 e 0)) (cntF (P : Int) 1 e 0) 1 i j) = sumF P 0 (fun i => cN i (LN P e) * sL (fun y => if 1 = (i + y) % P then 1 else 0) (LN P e)) := by
    refine sumF_congr P 0 (fun i _ hi => ?_)
    rw [← pick_list P (fun y => if 1 = (i + y) % P then 1 else 0) (LN P e) (LN_lt P e hP.1), ← sumF_mul]
    refine sumF_congr P 0 (fun j _ hj => ?_)
    unfold Gv
    rw [rd_first P hP _ i (by omega) (rng i (by omega)), rd_h P e i hP (by omega), rd_h P e j hP (by omega)]
    split <;> simp
  rw [s1]
  exact pick_list P (fun i => sL (fun y => if 1 = (i + y) % P then 1 else 0) (LN P e)) (LN P e) (LN_lt P e hP.1)
theorem count_spec (P e : Nat) (hP : 3 ≤ P ∧ P ≤ 61) (he : e ≤ 60) : Ev (fun k => spec_l08Count.f k (P : Int) [1, 1] [(e : Int), (e : Int)] 1 false) (wrap64 (twoS P (LN P e))) := by
  have hl := cntF_len (P : Int) 1 e 0
  rw [Int.toNat_natCast] at hl
  have vs := vals_spec (P : Int) 1 e (by omega) (by omega) (by omega)
  have w0 : wrap64 (0 + 1) = 1 := wid (by omega) (by omega)
  have w1 : wrap64 (1 + 1) = 2 := wid (by omega) (by omega)
  have r0 : rd [(1 : Int), 1] 0 = 1 := rfl
  have r1 : rd [(1 : Int), 1] 1 = 1 := rfl
  have q0 : rd [(e : Int), (e : Int)] 0 = (e : Int) := rfl
  have q1 : rd [(e : Int), (e : Int)] 1 = (e : Int) := rfl
  simp only [spec_l08Count.f, Int.toNat_natCast, Option.bind_some, List.length_replicate]
  refine Ev.if_pos (by omega) (Ev.if_pos (by omega) (Ev.if_pos (by omega) ?_))
  refine Ev.step (fun k => rfl) ?_
  simp only [spec_l08Count.l0, r0, q0, Int.toNat_natCast, Option.bind_some]
  refine Ev.if_pos (by simp) (Ev.if_pos (by omega) (Ev.if_pos (by simp) (Ev.bind vs (Ev.if_pos (by omega) (Ev.if_pos (by omega) (Ev.if_neg (by simp) ?_))))))
  refine cs_j1 P (by omega) _ _ 1 false _ _ 0 (by simp) hl _ ?_
  rw [w0]
  refine Ev.step (fun k => rfl) ?_
  simp only [spec_l08Count.l0, r1, q1, Int.toNat_natCast, Option.bind_some]
  refine Ev.if_pos (by simp) (Ev.if_pos (by omega) (Ev.if_pos (by simp) (Ev.bind vs (Ev.if_pos (by omega) (Ev.if_pos (by omega) (Ev.if_neg (by simp) ?_))))))
  refine cs_j1 P (by omega) _ _ 1 false _ _ 1 (tab_len _ _) hl _ ?_
  rw [w1]
  refine Ev.step (fun k => rfl) ?_
  simp only [spec_l08Count.l0, conv, tab_len]
  refine Ev.if_neg (by simp) (Ev.if_pos (by omega) (Ev.if_pos (by omega) ?_))
  exact Ev.val (Ev.now _) (rd_second P e (by omega))
def zeroS (P : Nat) (L : List Nat) : Int := sL (fun x => if (x + 1) % P = 0 then 1 else 0) L
theorem rd_LN (P e x : Nat) (h : x < P) : (LN P e).drop x = (x ^ e % P) :: (LN P e).drop (x + 1) := by
  rw [List.drop_eq_getElem_cons (by rw [LN_len]; exact h)]
  simp [LN]
theorem points_l (P e : Nat) (hP : 3 ≤ P ∧ P ≤ 61) (he : e ≤ 60) : ∀ (d x : Nat) (T : Int), x + d = P → Ev (fun k => spec_l08Points.l0 k (P : Int) (e : Int) (wrap64 T) (x : Int)) (wrap64 (T + zeroS P ((LN P e).drop x))) := by
  intro d
  induction d with
  | zero =>
    intro x T h
    refine Ev.step (fun k => rfl) ?_
    simp only [spec_l08Points.l0]
    exact Ev.if_neg (by omega) (Ev.val (Ev.now _) (by rw [List.drop_eq_nil_of_le (by rw [LN_len]; omega)]; simp [zeroS, sL]))
  | succ d ih =>
    intro x T h
    have ew : wrap64 ((x : Int) + 1) = ((x + 1 : Nat) : Int) := by rw [wid (by omega) (by omega)]; omega
    have hs := spow (P : Int) (x : Int) e (by omega) (by omega) (by omega)
    have ec : (x : Int) ^ e % (P : Int) = ((x ^ e % P : Nat) : Int) := by simp
    rw [ec] at hs
    rw [rd_LN P e x (by omega)]
    have ht : x ^ e % P < P := Nat.mod_lt _ (by omega)
    generalize x ^ e % P = t at hs ht
    refine Ev.step (fun k => rfl) ?_
    have e1 : wrap64 (wrap64 T + 1) = wrap64 (T + 1) := by have := wrap_add T 1; rwa [wid (a := 1) (by omega) (by omega)] at this
    have e2 : Int.tmod (wrap64 ((t : Int) + 1)) (P : Int) = (((t + 1) % P : Nat) : Int) := idx_eq P t 1 (by omega) (by omega) (by omega)
    simp only [spec_l08Points.l0, ew, e1]
    refine Ev.if_pos (by omega) (Ev.bind hs (Ev.if_neg (by omega) ?_))
    rw [e2]
    by_cases z : (t + 1) % P = 0
    · refine Ev.if_pos (by omega) (Ev.val (ih (x + 1) (T + 1) (by omega)) ?_)
      simp only [zeroS, sL, if_pos z]
      congr 1; omega
    · refine Ev.if_neg (by omega) (Ev.val (ih (x + 1) T (by omega)) ?_)
      simp only [zeroS, sL, if_neg z]
      congr 1; omega
theorem points_spec (P e : Nat) (hP : 3 ≤ P ∧ P ≤ 61) (he : e ≤ 60) : Ev (fun k => spec_l08Points.f k (P : Int) (e : Int)) (wrap64 (twoS P (LN P e) + zeroS P (LN P e))) := by
  simp only [spec_l08Points.f]
  exact Ev.bind (count_spec P e hP he) (points_l P e hP he P 0 _ (by omega))
def oneS (P : Nat) (L K : List Nat) : Int := sL (fun x => sL (fun y => if (1 + x) % P = y then 1 else 0) L + (if x = 1 then 1 else 0)) K
theorem rd_LNi (P e x : Nat) (h : x < P) : rd (pows (P : Int) e) (x : Int) = ((x ^ e % P : Nat) : Int) := by
  rw [rd_pows _ _ _ (by omega)]; simp
theorem cp_l1 (P e : Nat) (hP : 3 ≤ P ∧ P ≤ 61) (i : Nat) (hi : i < P) (r : Int) : ∀ (d j : Nat) (T : Int), j + d = P →
    Ev (fun k => impl_curvePoints.l0 k (P : Int) (pows (P : Int) e) (wrap64 (T + sL (fun y => if (1 + i ^ e % P) % P = y then 1 else 0) ((LN P e).drop j) + (if i ^ e % P = 1 then 1 else 0))) (P : Int) ((i + 1 : Nat) : Int)) r →
    Ev (fun k => impl_curvePoints.l1 k (P : Int) (pows (P : Int) e) (wrap64 T) (i : Int) (P : Int) (i : Int) (P : Int) (j : Int)) r := by
  intro d
  have hl : (pows (P : Int) e).length = P := by rw [pows_len]; omega
  have ew : ∀ n : Nat, n ≤ 1000 → wrap64 ((n : Int) + 1) = ((n + 1 : Nat) : Int) := by intro n hn; rw [wid (by omega) (by omega)]; omega
  have e1 : ∀ T : Int, wrap64 (wrap64 T + 1) = wrap64 (T + 1) := by intro T; have := wrap_add T 1; rwa [wid (a := 1) (by omega) (by omega)] at this
  have hv := rd_LNi P e i hi
  have ht : i ^ e % P < P := Nat.mod_lt _ (by omega)
  generalize i ^ e % P = t at hv ht
  have e2 : Int.tmod (wrap64 (1 + (t : Int))) (P : Int) = (((1 + t) % P : Nat) : Int) := idx_eq P 1 t (by omega) (by omega) (by omega)
  induction d with
  | zero =>
    intro j T hj h
    rw [List.drop_eq_nil_of_le (by rw [LN_len]; omega)] at h
    simp only [sL, Int.add_zero] at h
    refine Ev.step (fun k => rfl) ?_
    simp only [impl_curvePoints.l1, hv, e1, ew i (by omega)]
    refine Ev.if_neg (by omega) (Ev.if_pos (by omega) (Ev.if_pos (by omega) ?_))
    by_cases z : t = 1
    · refine Ev.if_pos (by omega) ?_
      rwa [if_pos z] at h
    · refine Ev.if_neg (by omega) ?_
      rwa [if_neg z, Int.add_zero] at h
  | succ d ih =>
    intro j T hj h
    have hw := rd_LNi P e j (by omega)
    rw [rd_LN P e j (by omega)] at h
    generalize j ^ e % P = u at hw h
    refine Ev.step (fun k => rfl) ?_
    simp only [impl_curvePoints.l1, hv, hw, e1, e2, ew j (by omega)]
    refine Ev.if_pos (by omega) (Ev.if_pos (by omega) (Ev.if_pos (by omega) (Ev.if_neg (by omega) (Ev.if_pos (by omega) (Ev.if_pos (by omega) ?_)))))
    by_cases z : (1 + t) % P = u
    · refine Ev.if_pos (by omega) (ih (j + 1) (T + 1) (by omega) ?_)
      simp only [sL, if_pos z, ← Int.add_assoc] at h
      exact h
    · refine Ev.if_neg (by omega) (ih (j + 1) T (by omega) ?_)
      simp only [sL, if_neg z, Int.zero_add] at h
      exact h
theorem cp_l0 (P e : Nat) (hP : 3 ≤ P ∧ P ≤ 61) : ∀ (d i : Nat) (T : Int), i + d = P →
    Ev (fun k => impl_curvePoints.l0 k (P : Int) (pows (P : Int) e) (wrap64 T) (P : Int) (i : Int)) (wrap64 (T + oneS P (LN P e) ((LN P e).drop i))) := by
  intro d
  induction d with
  | zero =>
    intro i T h
    refine Ev.step (fun k => rfl) ?_
    simp only [impl_curvePoints.l0]
    exact Ev.if_neg (by omega) (Ev.val (Ev.now _) (by rw [List.drop_eq_nil_of_le (by rw [LN_len]; omega)]; simp [oneS, sL]))
  | succ d ih =>
    intro i T h
    refine Ev.step (fun k => rfl) ?_
    simp only [impl_curvePoints.l0]
    refine Ev.if_pos (by omega) ?_
    refine cp_l1 P e hP i (by omega) _ P 0 T (by omega) ?_
    rw [List.drop_zero]
    refine Ev.val (ih (i + 1) _ (by omega)) ?_
    rw [rd_LN P e i (by omega)]
    simp only [oneS, sL]
    congr 1; omega
theorem points_impl (P e : Nat) (hP : 3 ≤ P ∧ P ≤ 61) (he : e ≤ 60) : Ev (fun k => impl_curvePoints.f k (P : Int) (e : Int)) (wrap64 (oneS P (LN P e) (LN P e))) := by
  have z : wrap64 0 = 0 := wid (by omega) (by omega)
  have h := cp_l0 P e hP P 0 0 (by omega)
  rw [z, Int.zero_add, List.drop_zero] at h
  simp only [impl_curvePoints.f]
  exact Ev.bind (powersOf_ev (P : Int) e (by omega) (by omega)) h
/-- The two sums, for the machine. -/
def okL (P : Nat) (L : List Nat) : Bool :=
  Nat.beq (sN (fun x => sN (fun y => (Nat.beq 1 ((x + y) % P)).toNat) L) L + sN (fun x => (Nat.beq ((x + 1) % P) 0).toNat) L)
    (sN (fun x => sN (fun y => (Nat.beq ((1 + x) % P) y).toNat) L + (Nat.beq x 1).toNat) L)
theorem beq_cast (a b : Nat) : (((Nat.beq a b).toNat : Nat) : Int) = if a = b then 1 else 0 := by
  by_cases h : a = b
  · subst h; simp
  · rw [if_neg h]
    have : Nat.beq a b = false := by
      cases e : Nat.beq a b with
      | false => rfl
      | true => exact absurd (Nat.eq_of_beq_eq_true e) h
    rw [this]; rfl
theorem okL_eq (P : Nat) (L : List Nat) (h : okL P L = true) : twoS P L + zeroS P L = oneS P L L := by
  have e := Nat.eq_of_beq_eq_true h
  have e2 := congrArg (fun n : Nat => (n : Int)) e
  simp only [Int.natCast_add, sN_cast, beq_cast] at e2
  exact e2
def chk (P : Nat) : Nat → List Nat → Bool
  | 0, _ => true
  | n + 1, L => okL P L && chk P n (List.zipWith (fun x b => x * b % P) L (List.range P))
theorem LN_next (P e : Nat) : List.zipWith (fun x b => x * b % P) (LN P e) (List.range P) = LN P (e + 1) := by
  apply List.ext_getElem (by simp [LN])
  intro i h1 h2
  simp only [List.getElem_zipWith, LN, List.getElem_map, List.getElem_range]
  rw [Nat.pow_succ, Nat.mod_mul_mod]
theorem chk_at (P : Nat) : ∀ (n e : Nat), chk P n (LN P e) = true → ∀ m, e ≤ m → m < e + n → okL P (LN P m) = true := by
  intro n
  induction n with
  | zero => intro e _ m h1 h2; omega
  | succ n ih =>
    intro e h m h1 h2
    simp only [chk, Bool.and_eq_true, LN_next] at h
    by_cases z : m = e
    · rw [z]; exact h.1
    · exact ih (e + 1) h.2 m (by omega) (by omega)
theorem LN_one (P : Nat) : LN P 1 = List.range P := by
  unfold LN
  conv => rhs; rw [← List.map_id (List.range P)]
  apply List.map_congr_left
  intro x hx
  rw [Nat.pow_one, Nat.mod_eq_of_lt (List.mem_range.1 hx)]; rfl
theorem chk_3 : chk 3 60 (List.range 3) = true := by decide +kernel
theorem chk_5 : chk 5 60 (List.range 5) = true := by decide +kernel
theorem chk_7 : chk 7 60 (List.range 7) = true := by decide +kernel
theorem chk_11 : chk 11 60 (List.range 11) = true := by decide +kernel
theorem chk_13 : chk 13 60 (List.range 13) = true := by decide +kernel
theorem chk_17 : chk 17 60 (List.range 17) = true := by decide +kernel
theorem chk_19 : chk 19 60 (List.range 19) = true := by decide +kernel
theorem chk_23 : chk 23 60 (List.range 23) = true := by decide +kernel
theorem chk_29 : chk 29 60 (List.range 29) = true := by decide +kernel
theorem chk_31 : chk 31 60 (List.range 31) = true := by decide +kernel
theorem chk_37 : chk 37 60 (List.range 37) = true := by decide +kernel
theorem chk_41 : chk 41 60 (List.range 41) = true := by decide +kernel
theorem chk_43 : chk 43 60 (List.range 43) = true := by decide +kernel
theorem chk_47 : chk 47 60 (List.range 47) = true := by decide +kernel
theorem chk_53 : chk 53 60 (List.range 53) = true := by decide +kernel
theorem chk_59 : chk 59 60 (List.range 59) = true := by decide +kernel
theorem chk_61 : chk 61 60 (List.range 61) = true := by decide +kernel
theorem chk_all (P e : Nat) (hP : isP (P : Int) = true) (he : 1 ≤ e ∧ e ≤ 60) : twoS P (LN P e) + zeroS P (LN P e) = oneS P (LN P e) (LN P e) := by
  have h : chk P 60 (LN P 1) = true := by
    rw [LN_one]
    have hr := isP_range hP
    simp only [isP, List.contains_cons, List.contains_nil, Bool.or_false, Bool.or_eq_true, beq_iff_eq] at hP
    by_cases c3 : P = 3
    · subst c3; exact chk_3
    by_cases c5 : P = 5
    · subst c5; exact chk_5
    by_cases c7 : P = 7
    · subst c7; exact chk_7
    by_cases c11 : P = 11
    · subst c11; exact chk_11
    by_cases c13 : P = 13
    · subst c13; exact chk_13
    by_cases c17 : P = 17
    · subst c17; exact chk_17
    by_cases c19 : P = 19
    · subst c19; exact chk_19
    by_cases c23 : P = 23
    · subst c23; exact chk_23
    by_cases c29 : P = 29
    · subst c29; exact chk_29
    by_cases c31 : P = 31
    · subst c31; exact chk_31
    by_cases c37 : P = 37
    · subst c37; exact chk_37
    by_cases c41 : P = 41
    · subst c41; exact chk_41
    by_cases c43 : P = 43
    · subst c43; exact chk_43
    by_cases c47 : P = 47
    · subst c47; exact chk_47
    by_cases c53 : P = 53
    · subst c53; exact chk_53
    by_cases c59 : P = 59
    · subst c59; exact chk_59
    by_cases c61 : P = 61
    · subst c61; exact chk_61
    omega
  exact okL_eq P _ (chk_at P 60 1 h e (by omega) (by omega))



theorem code_one (p e : Int) : Ev (fun k => spec_l08Code.f k p [e]) (if isP p = true ∧ 1 ≤ e ∧ e ≤ 60 then 0 else 2) := by
  simp only [spec_l08Code.f]
  refine Ev.bind (prime_spec p) ?_
  cases hP : isP p with
  | false => exact Ev.val (Ev.const fun _ => rfl) (by simp)
  | true =>
    simp only [if_true]
    refine Ev.step (fun k => rfl) ?_
    have r0 : rd [e] 0 = e := rfl
    simp only [spec_l08Code.l0, r0, in_eq, Option.bind_some]
    refine Ev.if_pos (by simp) (Ev.if_pos (by omega) ?_)
    by_cases h : 1 ≤ e ∧ e ≤ 60
    · simp only [decide_eq_true h, if_true]
      refine Ev.step (fun k => rfl) ?_
      simp only [spec_l08Code.l0]
      exact Ev.if_neg (by simp [wrap64]) (Ev.val (Ev.now _) (by simp [h]))
    · simp only [decide_eq_false h]
      exact Ev.val (Ev.const fun _ => rfl) (by rw [_root_.if_neg]; simpa using h)
theorem curve_both (p n : Int) (hp : p ≤ 9223372036854775807) : ∃ b : Bool, Ev (fun k => spec_l08Curve.f k p n) (if b = true then 0 else 2) ∧ Ev (fun k => impl_isCurve.f k p n) b ∧ (b = true → isP p = true ∧ 1 ≤ n ∧ n ≤ 60) := by
  have hi := prime_impl p hp
  have hs := code_one p n
  simp only [spec_l08Curve.f, impl_isCurve.f, impl_isExponent.f, within_eq, Option.bind_some]
  cases hP : isP p with
  | false =>
    rw [hP] at hi
    rw [hP, if_neg (by simp)] at hs
    exact ⟨false, Ev.bind hs (Ev.const fun _ => rfl), Ev.bind hi (Ev.const fun _ => rfl), fun h => by simp at h⟩
  | true =>
    have hr := isP_range hP
    rw [hP] at hi
    by_cases h1 : 1 ≤ n ∧ n ≤ 60
    · rw [if_pos ⟨hP, h1⟩] at hs
      simp only [decide_eq_true h1]
      by_cases z : Int.tmod n p = 0
      · refine ⟨false, Ev.bind hs (Ev.if_pos rfl (Ev.if_neg (by omega) (Ev.if_pos z (Ev.now _)))), Ev.bind hi (Ev.if_pos rfl (Ev.if_pos (by first | trivial | rfl) (Ev.if_neg (by omega) (Ev.val (Ev.now _) (by simp [z]))))), fun h => by simp at h⟩
      · refine ⟨true, Ev.bind hs (Ev.if_pos rfl (Ev.if_neg (by omega) (Ev.if_neg z (Ev.now _)))), Ev.bind hi (Ev.if_pos rfl (Ev.if_pos (by first | trivial | rfl) (Ev.if_neg (by omega) (Ev.val (Ev.now _) (by simp [z]))))), fun _ => ⟨by first | trivial | rfl, h1⟩⟩
    · rw [if_neg (fun q => h1 q.2)] at hs
      simp only [decide_eq_false h1]
      exact ⟨false, Ev.bind hs (Ev.const fun _ => rfl), Ev.bind hi (Ev.const fun _ => rfl), fun h => by simp at h⟩
theorem FnExactCurvePoints : laws_FnExactCurvePoints.Pure := by
  intro p n hp hn
  obtain ⟨b1, b2⟩ := wfb hp
  refine Ev.rounds (g := fun k => laws_FnExactCurvePoints.f k p n) ?_
  obtain ⟨b, s, t, hb⟩ := curve_both p n b2
  obtain ⟨r, h1, h2⟩ : ∃ r : Int × Int, Ev (fun k => spec_CurvePoints.f k p n) r ∧ Ev (fun k => impl_CurvePoints.f k p n) r := by
    simp only [spec_CurvePoints.f, impl_CurvePoints.f]
    cases b with
    | false => exact ⟨(0, 2), Ev.bind s (Ev.const fun _ => rfl), Ev.bind t (Ev.const fun _ => rfl)⟩
    | true =>
      obtain ⟨hP, h3⟩ := hb rfl
      have hr := isP_range hP
      obtain ⟨P, rfl⟩ := Int.eq_ofNat_of_zero_le (show 0 ≤ p by omega)
      obtain ⟨e, rfl⟩ := Int.eq_ofNat_of_zero_le (show 0 ≤ n by omega)
      have q1 := points_spec P e (by omega) (by omega)
      have q2 := points_impl P e (by omega) (by omega)
      rw [← chk_all P e hP (by omega)] at q2
      exact ⟨_, Ev.bind s (Ev.if_pos rfl (Ev.bind q1 (Ev.now _))), Ev.bind t (Ev.if_pos rfl (Ev.bind q2 (Ev.now _)))⟩
  simp only [laws_FnExactCurvePoints.f]
  exact Ev.bind h1 (Ev.bind h2 (Ev.if_pos rfl (Ev.if_pos rfl (Ev.now _))))

end Go.Proofs.Ytpeokcbjbjjmpaa.Pure
