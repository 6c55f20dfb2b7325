/- The number of the points above a polynomial, as the program and as the reference reckon it, for all arguments. No condition. -/
import Derived.Test.YtgabpiaghpeakaaXFnExactPointsAbovex4
namespace Go.Proofs.Ytgabpiaghpeakaa.Pure
open Go.RowKit Go.Proofs.Ytgabpiaghpeakaa.XFnExactPointsAbove Go.Proofs.YtgabpiaghpeakaaW.PrintWords Go.Proofs.YtgabpiaghpeakaaW.PrintLast
set_option linter.unusedVariables false
set_option linter.unusedSimpArgs false

theorem wfb {a : Int} (h : (Lit.int .i64 a).wf = true) : -9223372036854775808 ≤ a ∧ a ≤ 9223372036854775807 := by
  simp only [Lit.wf, IntKind.min, IntKind.max, IntKind.signed, IntKind.bits, Bool.and_eq_true, decide_eq_true_eq, if_true] at h
  omega
theorem wid {a : Int} (h1 : -9223372036854775808 ≤ a) (h2 : a ≤ 9223372036854775807) : wrap64 a = a := by
  unfold wrap64; omega
theorem Ev.const {α : Type} {g : Nat → Option α} {r : α} (h : ∀ k, g k = some r) : Ev g r := ⟨0, fun k _ => h k⟩
theorem Ev.if_pos {α : Type} {c : Prop} [Decidable c] {f g : Nat → Option α} {r : α} (hc : c) (h : Ev f r) : Ev (fun k => if c then f k else g k) r :=
  Ev.congr (fun k => _root_.if_pos hc) h
theorem Ev.if_neg {α : Type} {c : Prop} [Decidable c] {f g : Nat → Option α} {r : α} (hc : ¬ c) (h : Ev g r) : Ev (fun k => if c then f k else g k) r :=
  Ev.congr (fun k => _root_.if_neg hc) h
theorem Ev.val {α : Type} {f : Nat → Option α} {r s : α} (h : Ev f r) (e : r = s) : Ev f s := e ▸ h
theorem within_eq (a b c : Int) : impl_within.f a b c = some (decide (b ≤ a ∧ a ≤ c)) := by
  unfold impl_within.f
  by_cases h : b ≤ a <;> simp [h]
theorem in_eq (a b c : Int) : spec_l01In.f a b c = some (decide (b ≤ a ∧ a ≤ c)) := by
  unfold spec_l01In.f
  by_cases h : b ≤ a <;> simp [h]
def isP (p : Int) : Bool := [3, 5, 7, 11, 13, 17, 19, 23, 29, 31, 37, 41, 43, 47, 53, 59, 61].contains p
theorem isP_range {p : Int} (h : isP p = true) : 3 ≤ p ∧ p ≤ 61 := by
  simp [isP] at h; omega
theorem isP_out {p : Int} (h : ¬ (3 ≤ p ∧ p ≤ 61)) : isP p = false := by
  cases e : isP p with
  | false => rfl
  | true => exact absurd (isP_range e) h
theorem prime_in : ∀ n : Nat, n < 62 → 3 ≤ n → impl_isPrime.f 10 (n : Int) = some (isP (n : Int)) ∧ spec_l06Prime.f 10 (n : Int) = some (isP (n : Int)) := by decide +kernel
theorem prime_out_l (p : Int) (hp : 62 ≤ p) (hp2 : p ≤ 9223372036854775807) : ∀ (n : Nat) (d : Int), 2 ≤ d → d ≤ p → p - d ≤ n → impl_isPrime.l0 (n + 1) p d = some false := by
  have hw : impl_within.f p 3 61 = some false := by rw [within_eq, decide_eq_false (by omega)]
  intro n
  induction n with
  | zero =>
    intro d h1 h2 h3
    obtain rfl : d = p := by omega
    simp only [impl_isPrime.l0]
    split
    · rw [if_neg (by omega), if_pos (Int.tmod_self)]
    · rw [hw]; rfl
  | succ n ih =>
    intro d h1 h2 h3
    rw [impl_isPrime.l0]
    split
    · rw [if_neg (by omega)]
      by_cases e : Int.tmod p d = 0
      · rw [if_pos e]
      · rw [if_neg e]
        have hd : d ≠ p := fun e' => e (by rw [e']; exact Int.tmod_self)
        rw [wid (by omega) (by omega)]
        exact ih (d + 1) (by omega) (by omega) (by omega)
    · rw [hw]; rfl
theorem prime_impl (p : Int) (hp : p ≤ 9223372036854775807) : Ev (fun k => impl_isPrime.f k p) (isP p) := by
  by_cases h : 3 ≤ p ∧ p ≤ 61
  · obtain ⟨n, rfl⟩ := Int.eq_ofNat_of_zero_le (show 0 ≤ p by omega)
    exact Ev.of (impl_isPrime.mono _) (prime_in n (by omega) (by omega)).1
  · rw [isP_out h]
    by_cases h2 : p < 3
    · refine ⟨1, fun k hk => ?_⟩
      obtain ⟨k, rfl⟩ : ∃ m, k = m + 1 := ⟨k - 1, by omega⟩
      show impl_isPrime.f (k + 1) p = some false
      unfold impl_isPrime.f
      rw [impl_isPrime.l0, if_neg (by rw [wid (by omega) (by omega)]; omega), within_eq, decide_eq_false (by omega)]
      rfl
    · refine Ev.of (impl_isPrime.mono _) (k := (p - 2).toNat + 1) ?_
      exact prime_out_l p (by omega) hp _ 2 (by omega) (by omega) (by omega)
theorem prime_spec (p : Int) : Ev (fun k => spec_l06Prime.f k p) (isP p) := by
  by_cases h : 3 ≤ p ∧ p ≤ 61
  · obtain ⟨n, rfl⟩ := Int.eq_ofNat_of_zero_le (show 0 ≤ p by omega)
    exact Ev.of (spec_l06Prime.mono _) (prime_in n (by omega) (by omega)).2
  · rw [isP_out h]
    refine Ev.const (fun k => ?_)
    unfold spec_l06Prime.f
    rw [in_eq, decide_eq_false h]
    rfl


theorem rd_get (l : List Int) (i : Nat) : rd l (i : Int) = l.getD i 0 := by simp [rd]
theorem eqI_l (a b : List Int) (h : a.length = b.length) (ha : a.length ≤ 1048576) : ∀ (n i : Nat), i ≤ a.length → (∀ j, j < i → a[j]? = b[j]?) → a.length - i ≤ n → laws_eqInt64S.l0 (n + 1) a b (i : Int) = some (decide (a = b)) := by
  have fin : ∀ i : Nat, (∀ j, j < i → a[j]? = b[j]?) → a.length ≤ i → a = b := by
    intro i hj hi
    apply List.ext_getElem? fun j => ?_
    by_cases h' : j < a.length
    · exact hj j (by omega)
    · rw [List.getElem?_eq_none (by omega), List.getElem?_eq_none (by omega)]
  intro n
  induction n with
  | zero =>
    intro i hi hj hn
    rw [laws_eqInt64S.l0, if_neg (by omega), decide_eq_true (fin i hj (by omega))]
  | succ n ih =>
    intro i hi hj hn
    rw [laws_eqInt64S.l0]
    by_cases h' : i < a.length
    · rw [if_pos (by omega), if_pos (by omega), if_pos (by omega), rd_get, rd_get, wid (by omega) (by omega)]
      have ga : a[i]? = some (a.getD i 0) := by rw [List.getD_eq_getElem?_getD, List.getElem?_eq_getElem h']; rfl
      have gb : b[i]? = some (b.getD i 0) := by rw [List.getD_eq_getElem?_getD, List.getElem?_eq_getElem (by omega : i < b.length)]; rfl
      by_cases e : a.getD i 0 = b.getD i 0
      · rw [if_pos e]
        have := ih (i + 1) (by omega) (fun j hjlt => ?_) (by omega)
        · simpa using this
        · by_cases e' : j = i
          · rw [e', ga, gb, e]
          · exact hj j (by omega)
      · rw [if_neg e, decide_eq_false]
        intro e'
        exact e (by rw [e'])
    · rw [if_neg (by omega), decide_eq_true (fin i hj (by omega))]
/-- Two lists are held against each other. -/
theorem eqI (a b : List Int) (ha : a.length ≤ 1048576) : Ev (fun k => laws_eqInt64S.f k a b) (decide (a = b)) := by
  refine Ev.of (laws_eqInt64S.mono a b) (k := a.length + 1) ?_
  unfold laws_eqInt64S.f
  by_cases h : a.length = b.length
  · rw [if_pos (by omega)]
    exact eqI_l a b h ha a.length 0 (by omega) (fun j hj => absurd hj (by omega)) (by omega)
  · rw [if_neg (by omega), decide_eq_false]
    intro e
    exact h (by rw [e])

theorem toI_l (l : List Int) (hl : l.length ≤ 1048576) : ∀ (n i : Nat) (x : List Int), x.length = l.length → i ≤ l.length → (∀ j, j < i → x[j]? = l[j]?) → l.length - i ≤ n → laws_toInt64S.l0 (n + 1) l x (i : Int) = some l := by
  have fin : ∀ (i : Nat) (x : List Int), x.length = l.length → (∀ j, j < i → x[j]? = l[j]?) → l.length ≤ i → x = l := by
    intro i x hx hj hi
    apply List.ext_getElem? fun j => ?_
    by_cases h : j < l.length
    · exact hj j (by omega)
    · rw [List.getElem?_eq_none (by omega), List.getElem?_eq_none (by omega)]
  intro n
  induction n with
  | zero =>
    intro i x hx hi hj hn
    rw [laws_toInt64S.l0, if_neg (by omega), fin i x hx hj (by omega)]
  | succ n ih =>
    intro i x hx hi hj hn
    rw [laws_toInt64S.l0]
    by_cases h : i < l.length
    · rw [if_pos (by omega), if_pos (by omega), if_pos (by omega), wid (by omega) (by omega)]
      have := ih (i + 1) (x.set i (rd l (i : Int))) (by simpa using hx) (by omega) (fun j hjlt => ?_) (by omega)
      · simpa using this
      · by_cases e : j = i
        · subst e
          rw [List.getElem?_set_self (by omega), rd_get, List.getD_eq_getElem?_getD, List.getElem?_eq_getElem h]
          rfl
        · rw [List.getElem?_set_ne (fun e' => e e'.symm)]
          exact hj j (by omega)
    · rw [if_neg (by omega), fin i x hx hj (by omega)]
theorem toI (l : List Int) (hl : l.length ≤ 1048576) : Ev (fun k => laws_toInt64S.f k l) l := by
  refine Ev.of (laws_toInt64S.mono l) (k := l.length + 1) ?_
  unfold laws_toInt64S.f
  rw [if_pos (by omega), if_pos (by simp; omega)]
  exact toI_l l hl l.length 0 _ (by simp) (by omega) (fun j hj => absurd hj (by omega)) (by omega)


theorem pow_mod (x m : Int) (n : Nat) : (x % m) ^ n % m = x ^ n % m := by
  induction n with
  | zero => rw [Int.pow_zero, Int.pow_zero]
  | succ n ih => rw [Int.pow_succ, Int.pow_succ, Int.mul_emod, ih, Int.emod_emod_of_dvd _ (Int.dvd_refl m), ← Int.mul_emod]
theorem sq_pow (b : Int) (n : Nat) : (b * b) ^ n = b ^ (n + n) := by
  induction n with
  | zero => rw [Int.pow_zero, Nat.add_zero, Int.pow_zero]
  | succ n ih => rw [Int.pow_succ, ih, show n + 1 + (n + 1) = n + n + 1 + 1 from by omega, Int.pow_succ, Int.pow_succ, Int.mul_assoc]
theorem prod_le {a b : Int} (ha : 0 ≤ a ∧ a ≤ 1000000) (hb : 0 ≤ b ∧ b ≤ 1000000) : 0 ≤ a * b ∧ a * b ≤ 1000000000000 := by
  have h1 : 0 ≤ a * b := Int.mul_nonneg ha.1 hb.1
  have h2 : a * b ≤ 1000000 * 1000000 := Int.mul_le_mul ha.2 hb.2 hb.1 (by omega)
  omega
theorem tmod_w {a m : Int} (ha : 0 ≤ a ∧ a ≤ 1000000000000) : Int.tmod (wrap64 a) m = a % m := by
  rw [wid (by omega) (by omega), Int.tmod_eq_emod_of_nonneg ha.1]
theorem around_n (b m : Int) (hm : 2 ≤ m ∧ m ≤ 1000000) (hb : 0 ≤ b) : impl_around.f b m = some (b % m) := by
  unfold impl_around.f
  have h2 := Int.emod_nonneg b (show m ≠ 0 by omega)
  have h3 := Int.emod_lt_of_pos b (show 0 < m by omega)
  rw [if_neg (by omega), Int.tmod_eq_emod_of_nonneg hb, tmod_w (by omega), Int.add_emod_right, Int.emod_emod_of_dvd _ (Int.dvd_refl m)]

/-- The power by one step after another. -/
theorem spow_l (m b : Int) (hm : 1 ≤ m ∧ m ≤ 1000000) (hb : 0 ≤ b ∧ b ≤ 1000000) : ∀ (e : Nat) (a : Int), e ≤ 1000000 → 0 ≤ a ∧ a < m → Ev (fun k => spec_l08Power.l0 k m b (e : Int) a) ((a * b ^ e) % m) := by
  intro e
  induction e with
  | zero =>
    intro a _ ha
    refine Ev.step (fun k => rfl) ?_
    simp only [spec_l08Power.l0]
    exact Ev.if_neg (by omega) (Ev.val (Ev.now _) (by rw [Int.pow_zero, Int.mul_one, Int.emod_eq_of_lt ha.1 ha.2]))
  | succ e ih =>
    intro a he ha
    have h1 := prod_le (a := a) (b := b) (by omega) hb
    have h2 := Int.emod_nonneg (a * b) (show m ≠ 0 by omega)
    have h3 := Int.emod_lt_of_pos (a * b) (show 0 < m by omega)
    have ew : wrap64 (((e + 1 : Nat) : Int) - 1) = (e : Int) := by rw [wid (by omega) (by omega)]; omega
    refine Ev.step (fun k => rfl) ?_
    simp only [spec_l08Power.l0, ew, tmod_w h1]
    refine Ev.if_pos (by omega) (Ev.if_neg (by omega) (Ev.val (ih _ (by omega) ⟨h2, h3⟩) ?_))
    rw [Int.pow_succ, Int.mul_comm (b ^ e) b, ← Int.mul_assoc, Int.mul_emod, Int.emod_emod_of_dvd _ (Int.dvd_refl m), ← Int.mul_emod]
theorem spow (m b : Int) (e : Nat) (hm : 2 ≤ m ∧ m ≤ 1000000) (hb : 0 ≤ b ∧ b ≤ 1000000) (he : e ≤ 1000000) : Ev (fun k => spec_l08Power.f k m b (e : Int)) (b ^ e % m) := by
  simp only [spec_l08Power.f]
  exact Ev.val (spow_l m b (by omega) hb e 1 he (by omega)) (by rw [Int.one_mul])
/-- The power by halves. -/
theorem ipow_l (m : Int) (hm : 2 ≤ m ∧ m ≤ 1000000) : ∀ (n e : Nat) (a b : Int), e ≤ n → e ≤ 1000000 → 0 ≤ a ∧ a < m → 0 ≤ b ∧ b < m → Ev (fun k => impl_power.l0 k b (e : Int) m a) ((a * b ^ e) % m) := by
  intro n
  have stop : ∀ (a b : Int), 0 ≤ a ∧ a < m → Ev (fun k => impl_power.l0 k b ((0 : Nat) : Int) m a) ((a * b ^ 0) % m) := by
    intro a b ha
    refine Ev.step (fun k => rfl) ?_
    simp only [impl_power.l0]
    exact Ev.if_neg (by omega) (Ev.val (Ev.now _) (by rw [Int.pow_zero, Int.mul_one, Int.emod_eq_of_lt ha.1 ha.2]))
  induction n with
  | zero =>
    intro e a b h _ ha _
    obtain rfl : e = 0 := by omega
    exact stop a b ha
  | succ n ih =>
    intro e a b h he ha hb
    by_cases z : e = 0
    · subst z; exact stop a b ha
    · have h1 := prod_le (a := b) (b := b) (by omega) (by omega)
      have h2 := prod_le (a := a) (b := b) (by omega) (by omega)
      have b1 := Int.emod_nonneg (b * b) (show m ≠ 0 by omega)
      have b2 := Int.emod_lt_of_pos (b * b) (show 0 < m by omega)
      have a1 := Int.emod_nonneg (a * b) (show m ≠ 0 by omega)
      have a2 := Int.emod_lt_of_pos (a * b) (show 0 < m by omega)
      have he1 : (e : Int) > 0 := by omega
      have he2 : e / 2 ≤ n := by omega
      have he3 : e / 2 ≤ 1000000 := by omega
      have hm0 : ¬ m = 0 := by omega
      have hev : ¬ e % 2 = 1 → e / 2 + e / 2 = e := by omega
      have hod : e % 2 = 1 → e = (e / 2 + e / 2).succ := by omega
      have e1 : Int.tmod (e : Int) 2 = ((e % 2 : Nat) : Int) := by rw [Int.tmod_eq_emod_of_nonneg (by omega)]; rfl
      have e2 : wrap64 (Int.tdiv (e : Int) 2) = ((e / 2 : Nat) : Int) := by rw [Int.tdiv_eq_ediv_of_nonneg (by omega), wid (by omega) (by omega)]; rfl
      refine Ev.step (fun k => rfl) ?_
      simp only [impl_power.l0, tmod_w h1, tmod_w h2, e1, e2]
      refine Ev.if_pos he1 ?_
      have key : ∀ (c : Int), (c * (b * b % m) ^ (e / 2)) % m = (c * b ^ (e / 2 + e / 2)) % m := by
        intro c
        rw [Int.mul_emod, pow_mod, ← Int.mul_emod, sq_pow]
      by_cases o : e % 2 = 1
      · have p : b ^ e = b ^ (e / 2 + e / 2) * b := by rw [← Int.pow_succ, ← hod o]
        refine Ev.if_pos (by rw [o]; rfl) (Ev.if_neg hm0 (Ev.val (ih (e / 2) _ _ he2 he3 ⟨a1, a2⟩ ⟨b1, b2⟩) ?_))
        rw [key, p, Int.mul_emod, Int.emod_emod_of_dvd _ (Int.dvd_refl m), ← Int.mul_emod, Int.mul_assoc, Int.mul_comm b]
      · refine Ev.if_neg (fun q => o (Int.ofNat.inj q)) (Ev.if_neg hm0 (Ev.val (ih (e / 2) _ _ he2 he3 ha ⟨b1, b2⟩) ?_))
        rw [key, hev o]
theorem ipow (m b : Int) (e : Nat) (hm : 2 ≤ m ∧ m ≤ 1000000) (hb : 0 ≤ b) (he : e ≤ 1000000) : Ev (fun k => impl_power.f k b (e : Int) m) (b ^ e % m) := by
  simp only [impl_power.f, around_n b m hm hb, Option.bind_some]
  have h2 := Int.emod_nonneg b (show m ≠ 0 by omega)
  have h3 := Int.emod_lt_of_pos b (show 0 < m by omega)
  have h1 : (1 : Int) % m = 1 := Int.emod_eq_of_lt (by omega) (by omega)
  refine Ev.if_neg (by omega) ?_
  rw [h1]
  exact Ev.val (ipow_l m hm e e 1 (b % m) (by omega) he (by omega) ⟨h2, h3⟩) (by rw [Int.one_mul, pow_mod])
/-- The e-th powers of 0.. p-1 by p. -/
def pows (p : Int) (e : Nat) : List Int := (List.range p.toNat).map fun (x : Nat) => (x : Int) ^ e % p
theorem pows_len (p : Int) (e : Nat) : (pows p e).length = p.toNat := by simp [pows]
theorem pows_at (p : Int) (e x : Nat) (h : x < (pows p e).length) : (pows p e)[x] = (x : Int) ^ e % p := by simp [pows]
theorem pows_bnd (p : Int) (e : Nat) (hp : 2 ≤ p) : ∀ t ∈ pows p e, 0 ≤ t ∧ t < p := by
  intro t ht
  simp only [pows, List.mem_map] at ht
  obtain ⟨x, _, rfl⟩ := ht
  exact ⟨Int.emod_nonneg _ (by omega), Int.emod_lt_of_pos _ (by omega)⟩
/-- The counts: each number of the list tells one cell. -/
def cntL (p a : Int) : List Int → List Int → List Int
  | [], c => c
  | t :: ts, c => cntL p a ts (c.set ((a * t) % p).toNat (wrap64 (rd c ((a * t) % p) + 1)))
theorem cntL_len (p a : Int) : ∀ (ts c : List Int), (cntL p a ts c).length = c.length := by
  intro ts
  induction ts with
  | nil => intro c; rfl
  | cons t ts ih => intro c; simp only [cntL]; rw [ih, List.length_set]
theorem drop_cons {l : List Int} {i : Nat} (h : i < l.length) : l.drop i = rd l (i : Int) :: l.drop (i + 1) := by
  rw [List.drop_eq_getElem_cons h, rd_get, List.getD_eq_getElem?_getD, List.getElem?_eq_getElem h, Option.getD_some]
theorem rd_pows (p : Int) (e x : Nat) (h : x < p.toNat) : rd (pows p e) (x : Int) = (x : Int) ^ e % p := by
  have h2 : x < (pows p e).length := by rw [pows_len]; exact h
  rw [rd_get, List.getD_eq_getElem?_getD, List.getElem?_eq_getElem h2, Option.getD_some, pows_at]
theorem powersOf_l (p : Int) (e : Nat) (hp : 2 ≤ p ∧ p ≤ 1000000) (he : e ≤ 1000000) : ∀ (d x : Nat) (xs : List Int), x + d = p.toNat → xs.length ≤ x → Ev (fun k => impl_powersOf.l0 k p (e : Int) xs p (x : Int)) (xs ++ (pows p e).drop x) := by
  intro d
  induction d with
  | zero =>
    intro x xs h h2
    refine Ev.step (fun k => rfl) ?_
    simp only [impl_powersOf.l0]
    exact Ev.if_neg (by omega) (Ev.val (Ev.now _) (by rw [List.drop_eq_nil_of_le (by rw [pows_len]; omega), List.append_nil]))
  | succ d ih =>
    intro x xs h h2
    have ew : wrap64 ((x : Int) + 1) = ((x + 1 : Nat) : Int) := by rw [wid (by omega) (by omega)]; omega
    refine Ev.step (fun k => rfl) ?_
    simp only [impl_powersOf.l0, ew]
    refine Ev.if_pos (by omega) (Ev.bind (ipow p (x : Int) e hp (by omega) he) (Ev.if_pos (by omega) (Ev.val (ih (x + 1) (xs ++ [(x : Int) ^ e % p]) (by omega) (by simp; omega)) ?_)))
    rw [drop_cons (l := pows p e) (i := x) (by rw [pows_len]; omega), rd_pows p e x (by omega)]
    simp
theorem powersOf_ev (p : Int) (e : Nat) (hp : 2 ≤ p ∧ p ≤ 1000000) (he : e ≤ 1000000) : Ev (fun k => impl_powersOf.f k p (e : Int)) (pows p e) := by
  simp only [impl_powersOf.f]
  exact Ev.val (powersOf_l p e hp he p.toNat 0 [] (by omega) (by simp)) (by simp)
theorem vals_spec_l (p a : Int) (e : Nat) (hp : 2 ≤ p ∧ p ≤ 1000000) (ha : 0 ≤ a ∧ a ≤ 1000000) (he : e ≤ 1000000) : ∀ (d x : Nat) (c : List Int), x + d = p.toNat → c.length = p.toNat → Ev (fun k => spec_l08Values.l0 k p a (e : Int) c (x : Int)) (cntL p a ((pows p e).drop x) c) := by
  intro d
  induction d with
  | zero =>
    intro x c h h2
    refine Ev.step (fun k => rfl) ?_
    simp only [spec_l08Values.l0]
    exact Ev.if_neg (by omega) (Ev.val (Ev.now _) (by rw [List.drop_eq_nil_of_le (by rw [pows_len]; omega)]; rfl))
  | succ d ih =>
    intro x c h h2
    have ew : wrap64 ((x : Int) + 1) = ((x + 1 : Nat) : Int) := by rw [wid (by omega) (by omega)]; omega
    have b1 := Int.emod_nonneg ((x : Int) ^ e) (show p ≠ 0 by omega)
    have b2 := Int.emod_lt_of_pos ((x : Int) ^ e) (show 0 < p by omega)
    rw [drop_cons (by rw [pows_len]; omega), rd_pows p e x (by omega)]
    have hs := spow p (x : Int) e hp (by omega) he
    generalize (x : Int) ^ e % p = t at hs b1 b2
    have c1 := Int.emod_nonneg (a * t) (show p ≠ 0 by omega)
    have c2 := Int.emod_lt_of_pos (a * t) (show 0 < p by omega)
    refine Ev.step (fun k => rfl) ?_
    simp only [spec_l08Values.l0, ew]
    refine Ev.if_pos (by omega) (Ev.bind hs (Ev.if_neg (by omega) ?_))
    rw [tmod_w (prod_le ha (by omega))]
    refine Ev.if_pos c1 (Ev.if_pos (by omega) ?_)
    exact ih (x + 1) _ (by omega) (by rw [List.length_set]; exact h2)
/-- The counts of the values a x^e, x from s on. -/
def cntF (p a : Int) (e s : Nat) : List Int := cntL p a ((pows p e).drop s) (List.replicate p.toNat 0)
theorem cntF_len (p a : Int) (e s : Nat) : (cntF p a e s).length = p.toNat := by simp [cntF, cntL_len]
theorem vals_spec (p a : Int) (e : Nat) (hp : 2 ≤ p ∧ p ≤ 1000000) (ha : 0 ≤ a ∧ a ≤ 1000000) (he : e ≤ 1000000) : Ev (fun k => spec_l08Values.f k p a (e : Int)) (cntF p a e 0) := by
  simp only [spec_l08Values.f]
  exact Ev.if_pos (by omega) (Ev.if_pos (by omega) (vals_spec_l p a e hp ha he p.toNat 0 _ (by omega) (by simp)))
theorem vals_impl_l (p a : Int) (hp : 2 ≤ p ∧ p ≤ 1000000) (ha : 0 ≤ a ∧ a ≤ 1000000) (y : List Int) (hy : ∀ t ∈ y, 0 ≤ t ∧ t < p) (hl : y.length ≤ 1048576) : ∀ (d i : Nat) (c : List Int), y.length - i ≤ d → i ≤ y.length → c.length = p.toNat → Ev (fun k => impl_valueCounts.l0 k p a c y (y.length : Int) (i : Int)) (cntL p a (y.drop i) c) := by
  intro d
  induction d with
  | zero =>
    intro i c h h2 h3
    refine Ev.step (fun k => rfl) ?_
    simp only [impl_valueCounts.l0]
    exact Ev.if_neg (by omega) (Ev.val (Ev.now _) (by rw [List.drop_eq_nil_of_le (by omega)]; rfl))
  | succ d ih =>
    intro i c h h2 h3
    refine Ev.step (fun k => rfl) ?_
    by_cases g : i < y.length
    · have ew : wrap64 ((i : Int) + 1) = ((i + 1 : Nat) : Int) := by rw [wid (by omega) (by omega)]; omega
      have hm : rd y (i : Int) ∈ y := by
        rw [rd_get, List.getD_eq_getElem?_getD, List.getElem?_eq_getElem g, Option.getD_some]
        exact List.getElem_mem g
      obtain ⟨b1, b2⟩ := hy _ hm
      rw [drop_cons g]
      simp only [impl_valueCounts.l0, ew]
      generalize rd y (i : Int) = t at b1 b2
      have c1 := Int.emod_nonneg (a * t) (show p ≠ 0 by omega)
      have c2 := Int.emod_lt_of_pos (a * t) (show 0 < p by omega)
      refine Ev.if_pos (by omega) (Ev.if_pos (by omega) (Ev.if_pos (by omega) (Ev.if_neg (by omega) ?_)))
      rw [tmod_w (prod_le ha (by omega))]
      refine Ev.if_pos c1 (Ev.if_pos (by omega) ?_)
      exact ih (i + 1) _ (by omega) (by omega) (by rw [List.length_set]; exact h3)
    · simp only [impl_valueCounts.l0]
      exact Ev.if_neg (by omega) (Ev.val (Ev.now _) (by rw [List.drop_eq_nil_of_le (by omega)]; rfl))
theorem vals_impl (p a : Int) (e s : Nat) (hp : 2 ≤ p ∧ p ≤ 1000000) (ha : 0 ≤ a ∧ a ≤ 1000000) (he : e ≤ 1000000) (hs : s ≤ 1) : Ev (fun k => impl_valueCounts.f k p a (e : Int) (s : Int)) (cntF p a e s) := by
  simp only [impl_valueCounts.f]
  refine Ev.if_pos (by omega) (Ev.if_pos (by omega) (Ev.bind (powersOf_ev p e hp he) (Ev.if_pos (by omega) (Ev.if_pos (by rw [pows_len]; omega) ?_))))
  simp only [Option.bind_some]
  refine Ev.val (vals_impl_l p a hp ha ((pows p e).drop s) (fun t ht => pows_bnd p e hp.1 t (List.mem_of_mem_drop ht)) (by rw [List.length_drop, pows_len]; omega) _ 0 _ (Nat.le_refl _) (by omega) (by simp)) ?_
  rfl



theorem code_one (p e : Int) : Ev (fun k => spec_l08Code.f k p [e]) (if isP p = true ∧ 1 ≤ e ∧ e ≤ 60 then 0 else 2) := by
  simp only [spec_l08Code.f]
  refine Ev.bind (prime_spec p) ?_
  cases hP : isP p with
  | false => exact Ev.val (Ev.const fun _ => rfl) (by simp)
  | true =>
    simp only [if_true]
    refine Ev.step (fun k => rfl) ?_
    have r0 : rd [e] 0 = e := rfl
    simp only [spec_l08Code.l0, r0, in_eq, Option.bind_some]
    refine Ev.if_pos (by simp) (Ev.if_pos (by omega) ?_)
    by_cases h : 1 ≤ e ∧ e ≤ 60
    · simp only [decide_eq_true h, if_true]
      refine Ev.step (fun k => rfl) ?_
      simp only [spec_l08Code.l0]
      exact Ev.if_neg (by simp [wrap64]) (Ev.val (Ev.now _) (by simp [h]))
    · simp only [decide_eq_false h]
      exact Ev.val (Ev.const fun _ => rfl) (by rw [_root_.if_neg]; simpa using h)
def btw (a b x : Int) : Bool := decide (a ≤ x ∧ x ≤ b)
/-- The value of a polynomial, from its n lowest numbers on. -/
def hor (p x : Int) (l : List Int) : Nat → Int → Int
  | 0, v => v
  | n + 1, v => hor p x l n ((v * x + rd l (n : Int)) % p)
theorem hor_b (p x : Int) (hp : 2 ≤ p) (l : List Int) : ∀ (n : Nat) (v : Int), 0 ≤ v ∧ v < p → 0 ≤ hor p x l n v ∧ hor p x l n v < p := by
  intro n
  induction n with
  | zero => intro v h; exact h
  | succ n ih => intro v h; exact ih _ ⟨Int.emod_nonneg _ (by omega), Int.emod_lt_of_pos _ (by omega)⟩
theorem rd_in (p : Int) (l : List Int) (hl : l.all (btw 0 (p - 1)) = true) (n : Nat) (h : n < l.length) : 0 ≤ rd l (n : Int) ∧ rd l (n : Int) ≤ p - 1 := by
  have e : rd l (n : Int) = l[n] := by rw [rd_get, List.getD_eq_getElem?_getD, List.getElem?_eq_getElem h, Option.getD_some]
  rw [e]
  rw [List.all_eq_true] at hl
  have := hl _ (List.getElem_mem h)
  simpa [btw] using this
theorem step_eq (p x v c : Int) (hp : 2 ≤ p ∧ p ≤ 1000) (hx : 0 ≤ x ∧ x < p) (hv : 0 ≤ v ∧ v < p) (hc : 0 ≤ c ∧ c ≤ p - 1) :
    Int.tmod (wrap64 (wrap64 (v * x) + c)) p = (v * x + c) % p ∧ impl_around.f (wrap64 (wrap64 (v * x) + Int.tmod c p)) p = some ((v * x + c) % p) := by
  have h := prod_le (a := v) (b := x) (by omega) (by omega)
  have h1 : Int.tmod c p = c := Int.tmod_eq_of_lt hc.1 (by omega)
  have h2 : wrap64 (v * x) = v * x := wid (by omega) (by omega)
  have h3 : wrap64 (v * x + c) = v * x + c := wid (by omega) (by omega)
  rw [h1, h2, h3]
  exact ⟨Int.tmod_eq_emod_of_nonneg (by omega), around_n _ p (by omega) (by omega)⟩
theorem hor_spec (p x : Int) (hp : 2 ≤ p ∧ p ≤ 1000) (hx : 0 ≤ x ∧ x < p) (l : List Int) (hl : l.length ≤ 8) (ha : l.all (btw 0 (p - 1)) = true) (C : List Int) (hC : (C.length : Int) = p) (acc : Int) (r : Int × Int) :
    ∀ (n : Nat) (v : Int), n ≤ l.length → 0 ≤ v ∧ v < p → Ev (fun k => spec_PointsAbove.l1 k p l C (wrap64 (acc + rd C (hor p x l n v))) (wrap64 (x + 1))) r → Ev (fun k => spec_PointsAbove.l2 k p l C acc x v ((n : Int) - 1)) r := by
  intro n
  induction n with
  | zero =>
    intro v hn hv h
    refine Ev.step (fun k => rfl) ?_
    simp only [spec_PointsAbove.l2]
    exact Ev.if_neg (by omega) (Ev.if_pos hv.1 (Ev.if_pos (by omega) h))
  | succ n ih =>
    intro v hn hv h
    have hc := rd_in p l ha n (by omega)
    have hs := (step_eq p x v _ hp hx hv hc).1
    have e1 : ((n + 1 : Nat) : Int) - 1 = (n : Int) := by omega
    have e2 : wrap64 ((n : Int) - 1) = (n : Int) - 1 := wid (by omega) (by omega)
    refine Ev.step (fun k => rfl) ?_
    simp only [spec_PointsAbove.l2, e1, e2, hs]
    refine Ev.if_pos (by omega) (Ev.if_pos (by omega) (Ev.if_pos (by omega) (Ev.if_neg (by omega) ?_)))
    exact ih _ (by omega) ⟨Int.emod_nonneg _ (by omega), Int.emod_lt_of_pos _ (by omega)⟩ h
theorem hor_impl (p x : Int) (hp : 2 ≤ p ∧ p ≤ 1000) (hx : 0 ≤ x ∧ x < p) (l : List Int) (hl : l.length ≤ 8) (ha : l.all (btw 0 (p - 1)) = true) :
    ∀ (n : Nat) (v : Int), n ≤ l.length → 0 ≤ v ∧ v < p → Ev (fun k => impl_valueAt.l0 k l x p v ((n : Int) - 1)) (hor p x l n v) := by
  intro n
  induction n with
  | zero =>
    intro v hn hv
    refine Ev.step (fun k => rfl) ?_
    simp only [impl_valueAt.l0]
    exact Ev.if_neg (by omega) (Ev.now _)
  | succ n ih =>
    intro v hn hv
    have hc := rd_in p l ha n (by omega)
    have hs := (step_eq p x v _ hp hx hv hc).2
    have e1 : ((n + 1 : Nat) : Int) - 1 = (n : Int) := by omega
    have e2 : wrap64 ((n : Int) - 1) = (n : Int) - 1 := wid (by omega) (by omega)
    refine Ev.step (fun k => rfl) ?_
    simp only [impl_valueAt.l0, e1, e2, hs, Option.bind_some]
    refine Ev.if_pos (by omega) (Ev.if_pos (by omega) (Ev.if_pos (by omega) (Ev.if_neg (by omega) ?_)))
    exact ih _ (by omega) ⟨Int.emod_nonneg _ (by omega), Int.emod_lt_of_pos _ (by omega)⟩
theorem both_l (p : Int) (hp : 2 ≤ p ∧ p ≤ 1000) (l : List Int) (hl : l.length ≤ 8) (ha : l.all (btw 0 (p - 1)) = true) (C : List Int) (hC : (C.length : Int) = p) :
    ∀ (d : Nat) (x acc : Int), 0 ≤ x → x + d = p → ∃ r : Int × Int, Ev (fun k => spec_PointsAbove.l1 k p l C acc x) r ∧ Ev (fun k => impl_PointsAbove.l0 k l C acc p x p 0 0) r := by
  have e3 : wrap64 ((l.length : Int) - 1) = (l.length : Int) - 1 := wid (by omega) (by omega)
  intro d
  induction d with
  | zero =>
    intro x acc hx h
    refine ⟨(acc, 0), Ev.step (fun k => rfl) ?_, Ev.step (fun k => rfl) ?_⟩
    · simp only [spec_PointsAbove.l1]; exact Ev.if_neg (by omega) (Ev.now _)
    · simp only [impl_PointsAbove.l0]; exact Ev.if_neg (by omega) (Ev.now _)
  | succ d ih =>
    intro x acc hx h
    have hx2 : 0 ≤ x ∧ x < p := by omega
    have e1 : wrap64 (x + 1) = x + 1 := wid (by omega) (by omega)
    obtain ⟨r, s, t⟩ := ih (x + 1) (wrap64 (acc + rd C (hor p x l l.length 0))) (by omega) (by omega)
    have hb := hor_b p x hp.1 l l.length 0 (by omega)
    refine ⟨r, Ev.step (fun k => rfl) ?_, Ev.step (fun k => rfl) ?_⟩
    · simp only [spec_PointsAbove.l1, e3]
      refine Ev.if_pos (by omega) (hor_spec p x hp hx2 l hl ha C hC acc r l.length 0 (Nat.le_refl _) (by omega) ?_)
      rw [e1]; exact s
    · simp only [impl_PointsAbove.l0, impl_valueAt.f, e3, e1]
      exact Ev.if_pos (by omega) (Ev.bind (hor_impl p x hp hx2 l hl ha l.length 0 (Nat.le_refl _) (by omega)) (Ev.if_pos hb.1 (Ev.if_pos (by omega) t)))
theorem two_l (p e : Int) (l : List Int) (i : Int) : Ev (fun k => spec_PointsAbove.l0 k p e l 2 i) (0, 2) := by
  have hj : Ev (fun k => spec_PointsAbove.j3 k p e l 2 i false) (0, 2) := Ev.step (fun k => rfl) (Ev.const fun _ => rfl)
  refine Ev.step (fun k => rfl) ?_
  simp only [spec_PointsAbove.l0]
  by_cases g : i < (l.length : Int)
  · exact Ev.if_pos g hj
  · exact Ev.if_neg g hj
theorem scan_l (p e : Int) (hp : 2 ≤ p ∧ p ≤ 1000) (l : List Int) (hl : l.length ≤ 8) (r : Int × Int) (h1 : Ev (fun k => (spec_l08Values.f k p 1 e).bind fun t => spec_PointsAbove.l1 k p l t 0 0) r) : ∀ (d i : Nat), l.length - i ≤ d → i ≤ l.length →
    Ev (fun k => spec_PointsAbove.l0 k p e l 0 (i : Int)) (if (l.drop i).all (btw 0 (p - 1)) = true then r else (0, 2)) := by
  have fin : ∀ i : Nat, l.length ≤ i → Ev (fun k => spec_PointsAbove.l0 k p e l 0 (i : Int)) (if (l.drop i).all (btw 0 (p - 1)) = true then r else (0, 2)) := by
    intro i h
    refine Ev.step (fun k => rfl) ?_
    simp only [spec_PointsAbove.l0]
    refine Ev.if_neg (by omega) (Ev.step (fun k => rfl) ?_)
    simp only [spec_PointsAbove.j3]
    refine Ev.if_neg (by simp) (Ev.if_pos (by first | trivial | rfl) ?_)
    rw [List.drop_eq_nil_of_le (by omega)]
    exact h1
  intro d
  induction d with
  | zero => intro i h h2; exact fin i (by omega)
  | succ d ih =>
    intro i h h2
    by_cases g : i < l.length
    · have ew : wrap64 ((i : Int) + 1) = ((i + 1 : Nat) : Int) := by rw [wid (by omega) (by omega)]; omega
      have e2 : rd l (i : Int) = l[i] := by rw [rd_get, List.getD_eq_getElem?_getD, List.getElem?_eq_getElem g, Option.getD_some]
      have e3 : wrap64 (p - 1) = p - 1 := wid (by omega) (by omega)
      refine Ev.step (fun k => rfl) ?_
      simp only [spec_PointsAbove.l0]
      refine Ev.if_pos (by omega) (Ev.step (fun k => rfl) ?_)
      simp only [spec_PointsAbove.j3, ew, e2, e3, in_eq, Option.bind_some]
      refine Ev.if_pos (by simp) (Ev.if_pos (by omega) (Ev.if_pos (by omega) ?_))
      rw [List.drop_eq_getElem_cons g, List.all_cons]
      by_cases z : 0 ≤ l[i] ∧ l[i] ≤ p - 1
      · exact Ev.if_pos (by simpa using z) (Ev.val (ih (i + 1) (by omega) (by omega)) (by simp [btw, z]))
      · exact Ev.if_neg (by simpa using z) (Ev.val (two_l p e l _) (by simp [btw, z]))
    · exact fin i (by omega)
theorem scan_no (p e : Int) (hp : 2 ≤ p ∧ p ≤ 1000) (l : List Int) (hl : l.length ≤ 8) : ∀ (d i : Nat), l.length - i ≤ d → i ≤ l.length → (l.drop i).all (btw 0 (p - 1)) = false →
    Ev (fun k => spec_PointsAbove.l0 k p e l 0 (i : Int)) (0, 2) := by
  intro d
  induction d with
  | zero => intro i h h2 h3; rw [List.drop_eq_nil_of_le (by omega)] at h3; exact absurd h3 (by simp)
  | succ d ih =>
    intro i h h2 h3
    by_cases g : i < l.length
    · have ew : wrap64 ((i : Int) + 1) = ((i + 1 : Nat) : Int) := by rw [wid (by omega) (by omega)]; omega
      have e2 : rd l (i : Int) = l[i] := by rw [rd_get, List.getD_eq_getElem?_getD, List.getElem?_eq_getElem g, Option.getD_some]
      have e3 : wrap64 (p - 1) = p - 1 := wid (by omega) (by omega)
      refine Ev.step (fun k => rfl) ?_
      simp only [spec_PointsAbove.l0]
      refine Ev.if_pos (by omega) (Ev.step (fun k => rfl) ?_)
      simp only [spec_PointsAbove.j3, ew, e2, e3, in_eq, Option.bind_some]
      refine Ev.if_pos (by simp) (Ev.if_pos (by omega) (Ev.if_pos (by omega) ?_))
      rw [List.drop_eq_getElem_cons g, List.all_cons] at h3
      by_cases z : 0 ≤ l[i] ∧ l[i] ≤ p - 1
      · exact Ev.if_pos (by simpa using z) (ih (i + 1) (by omega) (by omega) (by simpa [btw, z] using h3))
      · exact Ev.if_neg (by simpa using z) (two_l p e l _)
    · rw [List.drop_eq_nil_of_le (by omega)] at h3; exact absurd h3 (by simp)
theorem FnExactPointsAbove : laws_FnExactPointsAbove.Pure := by
  intro p e l hp he _ _ _
  obtain ⟨b1, b2⟩ := wfb hp
  refine Ev.rounds (g := fun k => laws_FnExactPointsAbove.f k p e l) ?_
  simp only [laws_FnExactPointsAbove.f]
  by_cases c1 : (l.length : Int) > 1048576
  · exact Ev.if_pos c1 (Ev.now _)
  refine Ev.if_neg c1 ?_
  have t1 := toI l (by omega)
  obtain ⟨r, s, t⟩ : ∃ r : Int × Int, Ev (fun k => spec_PointsAbove.f k p e l) r ∧ Ev (fun k => impl_PointsAbove.f k p e l) r := by
    have hs := code_one p e
    have hi := prime_impl p b2
    have hij : Ev (fun k => impl_PointsAbove.j0 k e l true p 0 0) (0, 2) := Ev.step (fun k => rfl) (Ev.const fun _ => rfl)
    have hj1 : Ev (fun k => spec_PointsAbove.j1 k p e l 2) (0, 2) := by
      refine Ev.step (fun k => rfl) ?_
      simp only [spec_PointsAbove.j1]
      exact two_l p e l 0
    have hj0 : ∀ c, Ev (fun k => spec_PointsAbove.j0 k p e l c true) (0, 2) := by
      intro c
      refine Ev.step (fun k => rfl) ?_
      simp only [spec_PointsAbove.j0]
      exact Ev.if_pos (by first | trivial | rfl) hj1
    have hj2 : Ev (fun k => spec_PointsAbove.j0 k p e l 2 false) (0, 2) := by
      refine Ev.step (fun k => rfl) ?_
      simp only [spec_PointsAbove.j0]
      exact Ev.if_neg (by simp) hj1
    simp only [spec_PointsAbove.f, impl_PointsAbove.f, impl_isExponent.f, within_eq, Option.bind_some]
    cases hP : isP p with
    | false =>
      rw [hP] at hi
      rw [hP, _root_.if_neg (by simp)] at hs
      exact ⟨(0, 2), Ev.bind hs (Ev.if_neg (by omega) hj2), Ev.bind hi (Ev.if_neg (by simp) hij)⟩
    | true =>
      have hr := isP_range hP
      rw [hP] at hi
      by_cases h1 : 1 ≤ e ∧ e ≤ 60
      · rw [_root_.if_pos ⟨hP, h1⟩] at hs
        by_cases h2 : 1 ≤ (l.length : Int) ∧ (l.length : Int) ≤ 8
        · have hl : l.length ≤ 8 := by omega
          obtain ⟨m, rfl⟩ := Int.eq_ofNat_of_zero_le (show 0 ≤ e by omega)
          have ec : slices_ContainsFunc_int64_int64.f l p = some (!(l.all (btw 0 (p - 1)))) := by
            unfold slices_ContainsFunc_int64_int64.f
            have : slices_ContainsFunc_int64_int64.ok p = btw 0 (p - 1) := by
              funext x
              unfold slices_ContainsFunc_int64_int64.ok btw
              rw [wid (show -9223372036854775808 ≤ p - 1 by omega) (by omega)]
            rw [this]
          have hv := vals_spec p 1 m (by omega) (by omega) (by omega)
          have hw := vals_impl p 1 m 0 (by omega) (by omega) (by omega) (by omega)
          have hC : ((cntF p 1 m 0).length : Int) = p := by rw [cntF_len]; omega
          have scan : ∀ r : Int × Int, Ev (fun k => (spec_l08Values.f k p 1 (m : Int)).bind fun t => spec_PointsAbove.l1 k p l t 0 0) r → Ev (fun k => spec_PointsAbove.j0 k p (m : Int) l 0 false) (if l.all (btw 0 (p - 1)) = true then r else (0, 2)) := by
            intro r hr1
            refine Ev.step (fun k => rfl) ?_
            simp only [spec_PointsAbove.j0]
            refine Ev.if_neg (by simp) (Ev.step (fun k => rfl) ?_)
            simp only [spec_PointsAbove.j1]
            have := scan_l p (m : Int) (by omega) l hl r hr1 l.length 0 (by omega) (by omega)
            rw [List.drop_zero] at this
            exact this
          have start : ∀ r : Int × Int, Ev (fun k => spec_PointsAbove.j0 k p (m : Int) l 0 false) r → Ev (fun k => (spec_l08Code.f k p [(m : Int)]).bind fun t121 => (if t121 = 0 then (if (l.length : Int) < 1 then (spec_PointsAbove.j0 k p (m : Int) l t121 true) else (spec_PointsAbove.j0 k p (m : Int) l t121 (decide ((l.length : Int) > 8)))) else (spec_PointsAbove.j0 k p (m : Int) l t121 false))) r := by
            intro r h
            refine Ev.bind hs (Ev.if_pos rfl (Ev.if_neg (by omega) ?_))
            rw [decide_eq_false (show ¬ (l.length : Int) > 8 by omega)]
            exact h
          simp only [ec, Option.bind_some, decide_eq_true h1, decide_eq_true h2]
          cases ha : l.all (btw 0 (p - 1)) with
          | true =>
            obtain ⟨r, s, t⟩ := both_l p (by omega) l hl ha (cntF p 1 m 0) hC p.toNat 0 0 (by omega) (by omega)
            have := scan r (Ev.bind hv s)
            rw [ha, _root_.if_pos rfl] at this
            refine ⟨r, start r this, Ev.bind hi (Ev.if_pos rfl (Ev.if_pos (by first | trivial | rfl) (Ev.if_pos (by first | trivial | rfl) (Ev.step (fun k => rfl) ?_))))⟩
            simp only [impl_PointsAbove.j0]
            exact Ev.if_neg (by simp) (Ev.bind hw t)
          | false =>
            have s : Ev (fun k => spec_PointsAbove.j0 k p (m : Int) l 0 false) (0, 2) := by
              refine Ev.step (fun k => rfl) ?_
              simp only [spec_PointsAbove.j0]
              refine Ev.if_neg (by simp) (Ev.step (fun k => rfl) ?_)
              simp only [spec_PointsAbove.j1]
              exact scan_no p (m : Int) (by omega) l hl l.length 0 (by omega) (by omega) (by rw [List.drop_zero]; exact ha)
            exact ⟨(0, 2), start _ s, Ev.bind hi (Ev.if_pos rfl (Ev.if_pos (by first | trivial | rfl) (Ev.if_pos (by first | trivial | rfl) hij)))⟩
        · have hd : Ev (fun k => (spec_l08Code.f k p [e]).bind fun t121 => (if t121 = 0 then (if (l.length : Int) < 1 then (spec_PointsAbove.j0 k p e l t121 true) else (spec_PointsAbove.j0 k p e l t121 (decide ((l.length : Int) > 8)))) else (spec_PointsAbove.j0 k p e l t121 false))) (0, 2) := by
            refine Ev.bind hs (Ev.if_pos rfl ?_)
            by_cases g : (l.length : Int) < 1
            · exact Ev.if_pos g (hj0 _)
            · refine Ev.if_neg g ?_
              rw [decide_eq_true (show (l.length : Int) > 8 by omega)]
              exact hj0 _
          simp only [decide_eq_true h1, decide_eq_false h2]
          exact ⟨(0, 2), hd, Ev.bind hi (Ev.if_pos rfl (Ev.if_pos (by first | trivial | rfl) (Ev.if_neg (by simp) hij)))⟩
      · rw [_root_.if_neg (fun q => h1 q.2)] at hs
        simp only [decide_eq_false h1]
        exact ⟨(0, 2), Ev.bind hs (Ev.if_neg (by omega) hj2), Ev.bind hi (Ev.if_pos rfl (Ev.if_neg (by simp) hij))⟩
  refine Ev.bind t1 (Ev.bind s (Ev.bind t1 (Ev.bind t (Ev.if_pos rfl ?_))))
  simp only [bne_self_eq_false]
  refine Ev.step (fun k => rfl) ?_
  simp only [laws_FnExactPointsAbove.j0]
  refine Ev.if_neg (by simp) (Ev.bind t1 (Ev.bind (eqI l l (by omega)) ?_))
  simp only [decide_true]
  exact Ev.if_pos (by first | trivial | rfl) (Ev.now _)

end Go.Proofs.Ytgabpiaghpeakaa.Pure
