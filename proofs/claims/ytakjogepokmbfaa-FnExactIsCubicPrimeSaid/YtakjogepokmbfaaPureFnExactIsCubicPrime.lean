/- Whether a cubic number is prime, as the program and as the reference tell it, for every order and every list. No condition. -/
import Derived.Test.YtakjogepokmbfaaXFnExactIsCubicPrimex6
namespace Go.Proofs.Ytakjogepokmbfaa.Pure
open Go.RowKit Go.Proofs.Ytakjogepokmbfaa.XFnExactIsCubicPrime Go.Proofs.YtakjogepokmbfaaW.PrintWords Go.Proofs.YtakjogepokmbfaaW.PrintLast
set_option linter.unusedVariables false
set_option linter.unusedSimpArgs false

theorem wfb {a : Int} (h : (Lit.int .i64 a).wf = true) : -9223372036854775808 ≤ a ∧ a ≤ 9223372036854775807 := by
  simp only [Lit.wf, IntKind.min, IntKind.max, IntKind.signed, IntKind.bits, Bool.and_eq_true, decide_eq_true_eq, if_true] at h
  omega
theorem wid {a : Int} (h1 : -9223372036854775808 ≤ a) (h2 : a ≤ 9223372036854775807) : wrap64 a = a := by
  unfold wrap64; omega
theorem Ev.const {α : Type} {g : Nat → Option α} {r : α} (h : ∀ k, g k = some r) : Ev g r := ⟨0, fun k _ => h k⟩
theorem Ev.if_pos {α : Type} {c : Prop} [Decidable c] {f g : Nat → Option α} {r : α} (hc : c) (h : Ev f r) : Ev (fun k => if c then f k else g k) r :=
  Ev.congr (fun k => _root_.if_pos hc) h
theorem Ev.if_neg {α : Type} {c : Prop} [Decidable c] {f g : Nat → Option α} {r : α} (hc : ¬ c) (h : Ev g r) : Ev (fun k => if c then f k else g k) r :=
  Ev.congr (fun k => _root_.if_neg hc) h
theorem Ev.val {α : Type} {f : Nat → Option α} {r s : α} (h : Ev f r) (e : r = s) : Ev f s := e ▸ h
theorem within_eq (a b c : Int) : impl_within.f a b c = some (decide (b ≤ a ∧ a ≤ c)) := by
  unfold impl_within.f
  by_cases h : b ≤ a <;> simp [h]
theorem in_eq (a b c : Int) : spec_l01In.f a b c = some (decide (b ≤ a ∧ a ≤ c)) := by
  unfold spec_l01In.f
  by_cases h : b ≤ a <;> simp [h]


theorem rd_get (l : List Int) (i : Nat) : rd l (i : Int) = l.getD i 0 := by simp [rd]
theorem eqI_l (a b : List Int) (h : a.length = b.length) (ha : a.length ≤ 1048576) : ∀ (n i : Nat), i ≤ a.length → (∀ j, j < i → a[j]? = b[j]?) → a.length - i ≤ n → laws_eqInt64S.l0 (n + 1) a b (i : Int) = some (decide (a = b)) := by
  have fin : ∀ i : Nat, (∀ j, j < i → a[j]? = b[j]?) → a.length ≤ i → a = b := by
    intro i hj hi
    apply List.ext_getElem? fun j => ?_
    by_cases h' : j < a.length
    · exact hj j (by omega)
    · rw [List.getElem?_eq_none (by omega), List.getElem?_eq_none (by omega)]
  intro n
  induction n with
  | zero =>
    intro i hi hj hn
    rw [laws_eqInt64S.l0, if_neg (by omega), decide_eq_true (fin i hj (by omega))]
  | succ n ih =>
    intro i hi hj hn
    rw [laws_eqInt64S.l0]
    by_cases h' : i < a.length
    · rw [if_pos (by omega), if_pos (by omega), if_pos (by omega), rd_get, rd_get, wid (by omega) (by omega)]
      have ga : a[i]? = some (a.getD i 0) := by rw [List.getD_eq_getElem?_getD, List.getElem?_eq_getElem h']; rfl
      have gb : b[i]? = some (b.getD i 0) := by rw [List.getD_eq_getElem?_getD, List.getElem?_eq_getElem (by omega : i < b.length)]; rfl
      by_cases e : a.getD i 0 = b.getD i 0
      · rw [if_pos e]
        have := ih (i + 1) (by omega) (fun j hjlt => ?_) (by omega)
        · simpa using this
        · by_cases e' : j = i
          · rw [e', ga, gb, e]
          · exact hj j (by omega)
      · rw [if_neg e, decide_eq_false]
        intro e'
        exact e (by rw [e'])
    · rw [if_neg (by omega), decide_eq_true (fin i hj (by omega))]
/-- Two lists are held against each other. -/
theorem eqI (a b : List Int) (ha : a.length ≤ 1048576) : Ev (fun k => laws_eqInt64S.f k a b) (decide (a = b)) := by
  refine Ev.of (laws_eqInt64S.mono a b) (k := a.length + 1) ?_
  unfold laws_eqInt64S.f
  by_cases h : a.length = b.length
  · rw [if_pos (by omega)]
    exact eqI_l a b h ha a.length 0 (by omega) (fun j hj => absurd hj (by omega)) (by omega)
  · rw [if_neg (by omega), decide_eq_false]
    intro e
    exact h (by rw [e])

theorem toI_l (l : List Int) (hl : l.length ≤ 1048576) : ∀ (n i : Nat) (x : List Int), x.length = l.length → i ≤ l.length → (∀ j, j < i → x[j]? = l[j]?) → l.length - i ≤ n → laws_toInt64S.l0 (n + 1) l x (i : Int) = some l := by
  have fin : ∀ (i : Nat) (x : List Int), x.length = l.length → (∀ j, j < i → x[j]? = l[j]?) → l.length ≤ i → x = l := by
    intro i x hx hj hi
    apply List.ext_getElem? fun j => ?_
    by_cases h : j < l.length
    · exact hj j (by omega)
    · rw [List.getElem?_eq_none (by omega), List.getElem?_eq_none (by omega)]
  intro n
  induction n with
  | zero =>
    intro i x hx hi hj hn
    rw [laws_toInt64S.l0, if_neg (by omega), fin i x hx hj (by omega)]
  | succ n ih =>
    intro i x hx hi hj hn
    rw [laws_toInt64S.l0]
    by_cases h : i < l.length
    · rw [if_pos (by omega), if_pos (by omega), if_pos (by omega), wid (by omega) (by omega)]
      have := ih (i + 1) (x.set i (rd l (i : Int))) (by simpa using hx) (by omega) (fun j hjlt => ?_) (by omega)
      · simpa using this
      · by_cases e : j = i
        · subst e
          rw [List.getElem?_set_self (by omega), rd_get, List.getD_eq_getElem?_getD, List.getElem?_eq_getElem h]
          rfl
        · rw [List.getElem?_set_ne (fun e' => e e'.symm)]
          exact hj j (by omega)
    · rw [if_neg (by omega), fin i x hx hj (by omega)]
theorem toI (l : List Int) (hl : l.length ≤ 1048576) : Ev (fun k => laws_toInt64S.f k l) l := by
  refine Ev.of (laws_toInt64S.mono l) (k := l.length + 1) ?_
  unfold laws_toInt64S.f
  rw [if_pos (by omega), if_pos (by simp; omega)]
  exact toI_l l hl l.length 0 _ (by simp) (by omega) (fun j hj => absurd hj (by omega)) (by omega)
def small (m x : Int) : Bool := decide (-m ≤ x ∧ x ≤ m)
theorem areSmall_eq (l : List Int) (m : Int) (h0 : 0 ≤ m) (h1 : m ≤ 9223372036854775807) : impl_areSmall.f l m = some (l.all (small m)) := by
  unfold impl_areSmall.f
  rw [wid (by omega) (by omega)]
  rfl
def phiT (n : Int) : Int := [0, 1, 1, 2, 2, 4, 2, 6, 4, 6, 4, 10, 4, 12, 6, 8, 8].getD n.toNat 0
theorem phi_all : ∀ n : Nat, n < 17 → 1 ≤ n → spec_l01Phi.f 60 (n : Int) = some (phiT (n : Int)) ∧ impl_totient.f 60 (n : Int) = some (phiT (n : Int)) := by decide +kernel
theorem phi_spec (n : Int) (h : 1 ≤ n ∧ n ≤ 16) : Ev (fun k => spec_l01Phi.f k n) (phiT n) := by
  obtain ⟨m, rfl⟩ := Int.eq_ofNat_of_zero_le (show 0 ≤ n by omega)
  exact Ev.of (spec_l01Phi.mono _) (phi_all m (by omega) (by omega)).1
theorem phi_impl (n : Int) (h : 1 ≤ n ∧ n ≤ 16) : Ev (fun k => impl_totient.f k n) (phiT n) := by
  obtain ⟨m, rfl⟩ := Int.eq_ofNat_of_zero_le (show 0 ≤ n by omega)
  exact Ev.of (impl_totient.mono _) (phi_all m (by omega) (by omega)).2
theorem phiT_le (n : Int) (h : 1 ≤ n ∧ n ≤ 16) : 1 ≤ phiT n ∧ phiT n ≤ 12 := by
  obtain ⟨m, rfl⟩ := Int.eq_ofNat_of_zero_le (show 0 ≤ n by omega)
  have : ∀ m : Nat, m < 17 → 1 ≤ m → 1 ≤ phiT (m : Int) ∧ phiT (m : Int) ≤ 12 := by decide +kernel
  exact this m (by omega) (by omega)
/-- Is it a number? -/
def isCyc (n : Int) (l : List Int) : Bool := decide (1 ≤ n ∧ n ≤ 16) && (decide ((l.length : Int) = phiT n) && l.all (small 1000000000))
theorem fits_l (a : Int) (l : List Int) (hl : l.length ≤ 1048576) : ∀ (n i : Nat), i ≤ l.length → l.length - i ≤ n → spec_l01Fits.l0 (n + 1) (i : Int) a l = some ((l.drop i).all (small 1000000000)) := by
  intro n
  induction n with
  | zero =>
    intro i hi hn
    rw [spec_l01Fits.l0, if_neg (by omega), List.drop_eq_nil_of_le (by omega)]
    rfl
  | succ n ih =>
    intro i hi hn
    rw [spec_l01Fits.l0]
    by_cases h : i < l.length
    · rw [if_pos (by omega), if_pos (by omega), in_eq, rd_get]
      simp only [Option.bind_some]
      rw [List.drop_eq_getElem_cons h, List.all_cons, List.getD_eq_getElem?_getD, List.getElem?_eq_getElem h, Option.getD_some]
      by_cases e : -1000000000 ≤ l[i] ∧ l[i] ≤ 1000000000
      · rw [if_pos (by simpa using e), wid (by omega) (by omega)]
        have := ih (i + 1) (by omega) (by omega)
        rw [show ((i : Int) + 1) = ((i + 1 : Nat) : Int) from by omega, this]
        simp [small, e]
      · rw [if_neg (by simpa using e)]
        simp [small, e]
    · rw [if_neg (by omega), List.drop_eq_nil_of_le (by omega)]
      rfl
theorem fits_spec (a : Int) (l : List Int) (hl : l.length ≤ 1048576) : Ev (fun k => spec_l01Fits.f k a l) (l.all (small 1000000000)) := by
  refine Ev.of (spec_l01Fits.mono a l) (k := l.length + 1) ?_
  unfold spec_l01Fits.f
  have := fits_l a l hl l.length 0 (by omega) (by omega)
  simpa using this
theorem is_spec (n : Int) (l : List Int) (hl : l.length ≤ 1048576) : Ev (fun k => spec_l01Is.f k n l) (isCyc n l) := by
  simp only [spec_l01Is.f, in_eq, Option.bind_some]
  by_cases h : 1 ≤ n ∧ n ≤ 16
  · simp only [decide_eq_true h, if_true]
    refine Ev.bind (phi_spec n h) ?_
    by_cases e : (l.length : Int) = phiT n
    · simp only [if_pos e]
      refine Ev.bind (fits_spec n l hl) (Ev.val (Ev.now _) ?_)
      simp [isCyc, h, e]
    · simp only [if_neg e]
      exact Ev.val (Ev.now _) (by simp [isCyc, e])
  · simp only [decide_eq_false h]
    exact Ev.val (Ev.now _) (by simp [isCyc, h])
theorem is_impl (n : Int) (l : List Int) : Ev (fun k => impl_IsCyclo.f k n l) (isCyc n l) := by
  simp only [impl_IsCyclo.f, impl_isOrder.f, within_eq, Option.bind_some]
  by_cases h : 1 ≤ n ∧ n ≤ 16
  · simp only [decide_eq_true h, if_true]
    refine Ev.bind (phi_impl n h) ?_
    by_cases e : (l.length : Int) = phiT n
    · simp only [if_pos e]
      rw [areSmall_eq _ _ (by omega) (by omega)]
      exact Ev.val (Ev.now _) (by simp [isCyc, h, e])
    · simp only [if_neg e]
      exact Ev.val (Ev.now _) (by simp [isCyc, e])
  · simp only [decide_eq_false h]
    exact Ev.val (Ev.now _) (by simp [isCyc, h])
theorem sz_eq (n : Int) (l : List Int) (hm : l.length ≤ maxLen) (c : Int) (hc : 0 ≤ c) (hc2 : c ≤ 1048576) : laws_szCyclo.f n l c = some (if c < (l.length : Int) then -1 else c - l.length) := by
  unfold maxLen at hm
  unfold laws_szCyclo.f laws_szInt64S.f
  rw [wid (by omega) (by omega)]
  by_cases h : c < (l.length : Int)
  · rw [if_pos (by omega), if_pos h]; rfl
  · rw [if_neg (by omega), if_neg h, Option.bind_some, if_neg (by omega)]
theorem toC (n : Int) (l : List Int) (hl : l.length ≤ 1048576) : Ev (fun k => laws_toCyclo.f k n l) (n, l) := by
  simp only [laws_toCyclo.f]
  exact Ev.bind (toI l hl) (Ev.now _)
theorem eqC (n : Int) (l : List Int) (hl : l.length ≤ 1048576) (m : Int) (l' : List Int) : Ev (fun k => laws_eqCyclo.f k n l m l') (decide (n = m ∧ l = l')) := by
  simp only [laws_eqCyclo.f]
  by_cases h : n = m
  · simp only [if_pos h]
    refine Ev.bind (eqI l l' hl) ?_
    by_cases e : l = l'
    · exact Ev.val (Ev.const (fun _ => by rw [decide_eq_true e]; rfl)) (by simp [h, e])
    · exact Ev.val (Ev.const (fun _ => by rw [decide_eq_false e]; rfl)) (by simp [e])
  · simp only [if_neg h]
    exact Ev.val (Ev.now _) (by simp [h])
/-- Is it a cubic number? -/
def isCub (n : Int) (l : List Int) : Bool := decide (n = 3) && (isCyc n l && l.all (small 10000))
theorem two_of {l : List Int} (h : isCyc 3 l = true) : ∃ a b, l = [a, b] := by
  simp only [isCyc, Bool.and_eq_true, decide_eq_true_eq] at h
  have h2 : phiT 3 = 2 := by decide
  have h3 : l.length = 2 := by omega
  match l, h3 with
  | [a, b], _ => exact ⟨a, b, rfl⟩
theorem cub_spec (n : Int) (l : List Int) (hl : l.length ≤ 1048576) : Ev (fun k => spec_l09Is.f k n l) (isCub n l) := by
  simp only [spec_l09Is.f]
  by_cases h : n = 3
  · subst h
    simp only [if_true]
    refine Ev.bind (is_spec 3 l hl) ?_
    cases hc : isCyc 3 l with
    | false => exact Ev.val (Ev.const fun _ => rfl) (by simp [isCub, hc])
    | true =>
      obtain ⟨a, b, rfl⟩ := two_of hc
      simp only [if_true]
      refine Ev.const fun _ => ?_
      have ra : rd [a, b] 0 = a := rfl
      have rb : rd [a, b] 1 = b := rfl
      unfold spec_l09Fits.f
      rw [ra, rb, in_eq, in_eq]
      by_cases h1 : -10000 ≤ a ∧ a ≤ 10000 <;> by_cases h2 : -10000 ≤ b ∧ b ≤ 10000 <;> simp [isCub, hc, small, h1, h2]
  · simp only [if_neg h]
    exact Ev.val (Ev.now _) (by simp [isCub, h])
theorem cub_impl (n : Int) (l : List Int) : Ev (fun k => impl_IsCubicNumber.f k n l) (isCub n l) := by
  simp only [impl_IsCubicNumber.f]
  refine Ev.bind (is_impl n l) ?_
  cases hc : isCyc n l with
  | false => exact Ev.val (Ev.const fun _ => rfl) (by simp [isCub, hc])
  | true =>
    simp only [if_true]
    by_cases h : n = 3
    · simp only [if_pos h, areSmall_eq l 10000 (by omega) (by omega)]
      exact Ev.val (Ev.now _) (by subst h; simp [isCub, hc])
    · simp only [if_neg h]
      exact Ev.val (Ev.now _) (by simp [isCub, h])
theorem code_spec (n : Int) (l : List Int) (hl : l.length ≤ 1048576) : Ev (fun k => spec_l09Code.f k [⟨n, l⟩]) (if isCub n l = true then 0 else 1) := by
  simp only [spec_l09Code.f]
  refine Ev.step (fun k => rfl) ?_
  simp only [spec_l09Code.l0]
  refine Ev.if_pos (by simp) (Ev.if_pos (by omega) ?_)
  refine Ev.bind (a := isCub n l) (cub_spec n l hl) ?_
  cases isCub n l with
  | false => exact Ev.const fun _ => rfl
  | true =>
    simp only [if_true]
    refine Ev.step (fun k => rfl) ?_
    simp only [spec_l09Code.l0]
    exact Ev.if_neg (by simp [wrap64]) (Ev.now _)
theorem cubics_impl (n : Int) (l : List Int) : Ev (fun k => impl_cubicsOf.f k [⟨n, l⟩]) (if isCub n l = true then ([⟨rd l 0, rd l 1⟩], true) else ([], false)) := by
  simp only [impl_cubicsOf.f]
  refine Ev.step (fun k => rfl) ?_
  simp only [impl_cubicsOf.l0]
  refine Ev.if_pos (by simp) (Ev.if_pos (by omega) (Ev.if_pos (by simp) ?_))
  refine Ev.bind (a := isCub n l) (cub_impl n l) ?_
  cases hc : isCub n l with
  | false => exact Ev.const fun _ => rfl
  | true =>
    have h3 : n = 3 ∧ isCyc n l = true := by
      simp only [isCub, Bool.and_eq_true, decide_eq_true_eq] at hc
      exact ⟨hc.1, hc.2.1⟩
    obtain ⟨rfl, h4⟩ := h3
    obtain ⟨a, b, rfl⟩ := two_of h4
    simp only [if_true]
    refine Ev.if_pos (by simp [rd_T35]) (Ev.if_pos (by simp [rd_T35]) (Ev.if_pos (by simp) ?_))
    refine Ev.step (fun k => rfl) ?_
    simp only [impl_cubicsOf.l0]
    exact Ev.if_neg (by simp [wrap64]) (Ev.now _)
/-- Where both tell the same value and code, the law holds. -/
theorem law_tail0 (n : Int) (l : List Int) (h : l.length ≤ 1048576) : Ev (fun k => laws_FnExactIsCubicPrime.j0 k false n l n l) true := by
  refine Ev.step (fun k => rfl) ?_
  simp only [laws_FnExactIsCubicPrime.j0, Bool.false_eq_true, if_false]
  refine Ev.bind (toC n l h) ?_
  refine Ev.bind (eqC n l h n l) ?_
  exact Ev.const (fun _ => by simp)
theorem sq_le {d : Int} (h : 2 ≤ d) (h2 : d ≤ 17322) : 4 ≤ d * d ∧ d * d ≤ 300051684 := by
  have h3 : d * d ≤ 17322 * 17322 := Int.mul_le_mul h2 h2 (by omega) (by omega)
  have h4 : 2 * 2 ≤ d * d := Int.mul_le_mul h h (by omega) (by omega)
  omega
theorem root_le {d M : Int} (h : 2 ≤ d) (h2 : d * d ≤ M) (hM : M ≤ 300000000) : d ≤ 17320 := by
  by_cases e : d ≤ 17320
  · exact e
  · have : (17321 : Int) * 17321 ≤ d * d := Int.mul_le_mul (by omega) (by omega) (by omega) (by omega)
    omega
theorem div_lt {M d : Int} (hM : 1 ≤ M) (hd : 2 ≤ d) (h : Int.tmod M d = 0) : Int.tdiv M d = M / d ∧ 1 ≤ M / d ∧ 2 * (M / d) ≤ M ∧ M = d * (M / d) := by
  rw [Int.tmod_eq_emod_of_nonneg (by omega)] at h
  have e : d * (M / d) + M % d = M := Int.mul_ediv_add_emod M d
  have h0 : 0 ≤ M / d := Int.ediv_nonneg (by omega) (by omega)
  have h1 : 2 * (M / d) ≤ d * (M / d) := Int.mul_le_mul_of_nonneg_right hd h0
  refine ⟨Int.tdiv_eq_ediv_of_nonneg (by omega), ?_, by omega, by omega⟩
  by_cases z : M / d = 0
  · rw [z, h, Int.mul_zero] at e; omega
  · omega
theorem fac_l : ∀ n : Nat,
    (∀ (M d : Int) (xs : List Int), 1 ≤ M → M ≤ 300000000 → 2 ≤ d → d ≤ 17322 → 2 * (M + 20000 - d) + 1 ≤ n → xs.length ≤ d → ∃ t, Ev (fun k => impl_factorsOf.l0 k M xs d) (xs ++ t)) ∧
    (∀ (M d : Int) (xs : List Int), 1 ≤ M → M ≤ 300000000 → 2 ≤ d → d ≤ 17321 → 2 * (M + 20000 - d) ≤ n → xs.length ≤ d + 1 → ∃ t, Ev (fun k => impl_factorsOf.l1 k M xs d) (xs ++ t)) := by
  intro n
  induction n with
  | zero =>
    exact ⟨fun M d xs h1 h2 h3 h4 h5 => by omega, fun M d xs h1 h2 h3 h4 h5 => by omega⟩
  | succ n ih =>
    constructor
    · intro M d xs h1 h2 h3 h4 h5 h6
      obtain ⟨s1, s2⟩ := sq_le h3 h4
      by_cases c : d * d ≤ M
      · have hd := root_le h3 c h2
        by_cases e : Int.tmod M d = 0
        · obtain ⟨t, ht⟩ := ih.2 M d (xs ++ [d]) h1 h2 h3 (by omega) (by omega) (by simp; omega)
          refine ⟨[d] ++ t, Ev.step (fun k => rfl) ?_⟩
          simp only [impl_factorsOf.l0]
          rw [← List.append_assoc]
          refine Ev.if_pos (by rw [wid (by omega) (by omega)]; exact c) (Ev.if_neg (by omega) (Ev.if_pos e (Ev.if_pos (by omega) ?_)))
          refine Ev.step (fun k => rfl) ?_
          simp only [impl_factorsOf.j1]
          exact ht
        · obtain ⟨t, ht⟩ := ih.2 M d xs h1 h2 h3 (by omega) (by omega) (by omega)
          refine ⟨t, Ev.step (fun k => rfl) ?_⟩
          simp only [impl_factorsOf.l0]
          refine Ev.if_pos (by rw [wid (by omega) (by omega)]; exact c) (Ev.if_neg (by omega) (Ev.if_neg e ?_))
          refine Ev.step (fun k => rfl) ?_
          simp only [impl_factorsOf.j1]
          exact ht
      · by_cases g : M > 1
        · refine ⟨[M], Ev.step (fun k => rfl) ?_⟩
          simp only [impl_factorsOf.l0]
          exact Ev.if_neg (by rw [wid (by omega) (by omega)]; exact c) (Ev.if_pos g (Ev.if_pos (by omega) (Ev.now _)))
        · refine ⟨[], Ev.step (fun k => rfl) ?_⟩
          simp only [impl_factorsOf.l0]
          exact Ev.if_neg (by rw [wid (by omega) (by omega)]; exact c) (Ev.if_neg g (Ev.val (Ev.now _) (by simp)))
    · intro M d xs h1 h2 h3 h4 h5 h6
      by_cases e : Int.tmod M d = 0
      · obtain ⟨q1, q2, q3, q4⟩ := div_lt h1 h3 e
        obtain ⟨t, ht⟩ := ih.2 (M / d) d xs q2 (by omega) h3 h4 (by omega) h6
        refine ⟨t, Ev.step (fun k => rfl) ?_⟩
        simp only [impl_factorsOf.l1, q1, wid (show -9223372036854775808 ≤ M / d by omega) (by omega)]
        exact Ev.if_neg (by omega) (Ev.if_pos e ht)
      · obtain ⟨t, ht⟩ := ih.1 M (d + 1) xs h1 h2 (by omega) (by omega) (by omega) (by omega)
        refine ⟨t, Ev.step (fun k => rfl) ?_⟩
        simp only [impl_factorsOf.l1, wid (show -9223372036854775808 ≤ d + 1 by omega) (by omega)]
        exact Ev.if_neg (by omega) (Ev.if_neg e ht)
/-- A square of a factor: the list is that factor. -/
theorem fac_sq (q : Int) (h : 2 ≤ q) (hq : q ≤ 17321) : Ev (fun k => impl_factorsOf.l1 k (q * q) [q] q) [q] := by
  obtain ⟨s1, s2⟩ := sq_le h (show q ≤ 17322 by omega)
  refine Ev.step (fun k => rfl) ?_
  have e1 : Int.tmod (q * q) q = 0 := Int.mul_tmod_left q q
  have e2 : Int.tdiv (q * q) q = q := Int.mul_tdiv_cancel _ (by omega)
  have e3 : Int.tdiv q q = 1 := Int.tdiv_self (by omega)
  have e4 : Int.tmod 1 q = 1 := Int.tmod_eq_of_lt (by omega) (by omega)
  simp only [impl_factorsOf.l1, e1, e2]
  refine Ev.if_neg (by omega) (Ev.if_pos (by first | trivial | rfl) ?_)
  rw [wid (by omega) (by omega)]
  refine Ev.step (fun k => rfl) ?_
  simp only [impl_factorsOf.l1, e3, Int.tmod_self]
  refine Ev.if_neg (by omega) (Ev.if_pos (by first | trivial | rfl) ?_)
  refine Ev.step (fun k => rfl) ?_
  simp only [impl_factorsOf.l1, e4]
  have w1 : wrap64 1 = 1 := wid (by omega) (by omega)
  simp only [w1, e4]
  refine Ev.if_neg (by omega) (Ev.if_neg (by omega) ?_)
  rw [wid (by omega) (by omega)]
  refine Ev.step (fun k => rfl) ?_
  simp only [impl_factorsOf.l0]
  obtain ⟨s3, s4⟩ := sq_le (show 2 ≤ q + 1 by omega) (show q + 1 ≤ 17322 by omega)
  exact Ev.if_neg (by rw [wid (by omega) (by omega)]; omega) (Ev.if_neg (by omega) (Ev.now _))
theorem least_l (N : Int) (hN : 2 ≤ N) (hN2 : N ≤ 300000000) : ∀ (n : Nat) (d : Int), 17322 - d ≤ n → 2 ≤ d → d ≤ 17322 →
    (Ev (fun k => spec_l09Least.l0 k N d) N ∧ Ev (fun k => impl_factorsOf.l0 k N [] d) [N]) ∨
    (∃ (q : Int) (t : List Int), 2 ≤ q ∧ q ≤ 17320 ∧ q * q ≤ N ∧ Ev (fun k => spec_l09Least.l0 k N d) q ∧ Ev (fun k => impl_factorsOf.l0 k N [] d) (q :: t) ∧ (q * q = N → t = [])) := by
  intro n
  have stop : ∀ d : Int, 2 ≤ d → d ≤ 17322 → ¬ d * d ≤ N → (Ev (fun k => spec_l09Least.l0 k N d) N ∧ Ev (fun k => impl_factorsOf.l0 k N [] d) [N]) := by
    intro d h2 h3 c
    obtain ⟨s1, s2⟩ := sq_le h2 h3
    refine ⟨Ev.step (fun k => rfl) ?_, Ev.step (fun k => rfl) ?_⟩
    · simp only [spec_l09Least.l0]
      exact Ev.if_neg (by rw [wid (by omega) (by omega)]; exact c) (Ev.now _)
    · simp only [impl_factorsOf.l0]
      exact Ev.if_neg (by rw [wid (by omega) (by omega)]; exact c) (Ev.if_pos (by omega) (Ev.if_pos (by simp) (Ev.now _)))
  induction n with
  | zero =>
    intro d h1 h2 h3
    refine Or.inl (stop d h2 h3 ?_)
    intro c
    have := root_le h2 c hN2
    omega
  | succ n ih =>
    intro d h1 h2 h3
    by_cases c : d * d ≤ N
    · have hd := root_le h2 c hN2
      obtain ⟨s1, s2⟩ := sq_le h2 h3
      by_cases e : Int.tmod N d = 0
      · refine Or.inr ?_
        have hs : Ev (fun k => spec_l09Least.l0 k N d) d := by
          refine Ev.step (fun k => rfl) ?_
          simp only [spec_l09Least.l0]
          exact Ev.if_pos (by rw [wid (by omega) (by omega)]; exact c) (Ev.if_neg (by omega) (Ev.if_pos e (Ev.now _)))
        have hi : ∀ t, Ev (fun k => impl_factorsOf.l1 k N [d] d) (d :: t) → Ev (fun k => impl_factorsOf.l0 k N [] d) (d :: t) := by
          intro t ht
          refine Ev.step (fun k => rfl) ?_
          simp only [impl_factorsOf.l0]
          refine Ev.if_pos (by rw [wid (by omega) (by omega)]; exact c) (Ev.if_neg (by omega) (Ev.if_pos e (Ev.if_pos (by simp) ?_)))
          refine Ev.step (fun k => rfl) ?_
          simp only [impl_factorsOf.j1]
          exact ht
        by_cases g : d * d = N
        · exact ⟨d, [], h2, hd, c, hs, hi [] (by rw [← g]; exact fac_sq d h2 (by omega)), fun _ => rfl⟩
        · obtain ⟨t, ht⟩ := (fac_l (2 * (N + 20000 - d)).toNat).2 N d [d] (by omega) hN2 h2 (by omega) (by omega) (by simp; omega)
          exact ⟨d, t, h2, hd, c, hs, hi t ht, fun g' => absurd g' g⟩
      · have w : wrap64 (d + 1) = d + 1 := wid (by omega) (by omega)
        have up : ∀ r, Ev (fun k => spec_l09Least.l0 k N (d + 1)) r → Ev (fun k => spec_l09Least.l0 k N d) r := by
          intro r hr
          refine Ev.step (fun k => rfl) ?_
          simp only [spec_l09Least.l0, w]
          exact Ev.if_pos (by rw [wid (by omega) (by omega)]; exact c) (Ev.if_neg (by omega) (Ev.if_neg e hr))
        have ui : ∀ r, Ev (fun k => impl_factorsOf.l0 k N [] (d + 1)) r → Ev (fun k => impl_factorsOf.l0 k N [] d) r := by
          intro r hr
          refine Ev.step (fun k => rfl) ?_
          simp only [impl_factorsOf.l0]
          refine Ev.if_pos (by rw [wid (by omega) (by omega)]; exact c) (Ev.if_neg (by omega) (Ev.if_neg e ?_))
          refine Ev.step (fun k => rfl) ?_
          simp only [impl_factorsOf.j1]
          refine Ev.step (fun k => rfl) ?_
          simp only [impl_factorsOf.l1, w]
          exact Ev.if_neg (by omega) (Ev.if_neg e hr)
        rcases ih (d + 1) (by omega) (by omega) (by omega) with ⟨a, b⟩ | ⟨q, t, a1, a2, a3, a4, a5, a6⟩
        · exact Or.inl ⟨up _ a, ui _ b⟩
        · exact Or.inr ⟨q, t, a1, a2, a3, up _ a4, ui _ a5, a6⟩
    · exact Or.inl (stop d h2 h3 c)
theorem norm_le {a b : Int} (ha : -10000 ≤ a ∧ a ≤ 10000) (hb : -10000 ≤ b ∧ b ≤ 10000) : wrap64 ((wrap64 ((wrap64 (a * a)) - (wrap64 (a * b)))) + (wrap64 (b * b))) ≤ 300000000 := by
  have sq : ∀ x y : Int, -10000 ≤ x ∧ x ≤ 10000 → -10000 ≤ y ∧ y ≤ 10000 → -100000000 ≤ x * y ∧ x * y ≤ 100000000 := by
    intro x y hx hy
    have h : (x * y).natAbs ≤ 10000 * 10000 := by
      rw [Int.natAbs_mul]
      exact Nat.mul_le_mul (by omega) (by omega)
    omega
  have h1 := sq a a ha ha
  have h2 := sq a b ha hb
  have h3 := sq b b hb hb
  rw [wid (a := a * a) (by omega) (by omega), wid (a := a * b) (by omega) (by omega), wid (a := b * b) (by omega) (by omega), wid (a := a * a - a * b) (by omega) (by omega), wid (by omega) (by omega)]
  omega
theorem prime_both (a b : Int) (ha : -10000 ≤ a ∧ a ≤ 10000) (hb : -10000 ≤ b ∧ b ≤ 10000) : ∃ r, Ev (fun k => spec_l09Prime.f k 3 [a, b]) r ∧ Ev (fun k => impl_cubic_isPrime.f k a b) r := by
  have hN2 := norm_le ha hb
  have hs : spec_l09Norm.f 3 [a, b] = some (wrap64 ((wrap64 ((wrap64 (a * a)) - (wrap64 (a * b)))) + (wrap64 (b * b)))) := rfl
  have hi : impl_cubic_norm.f a b = some (wrap64 ((wrap64 ((wrap64 (a * a)) - (wrap64 (a * b)))) + (wrap64 (b * b)))) := rfl
  simp only [spec_l09Prime.f, impl_cubic_isPrime.f, hs, hi, Option.bind_some]
  generalize wrap64 ((wrap64 ((wrap64 (a * a)) - (wrap64 (a * b)))) + (wrap64 (b * b))) = N at hN2
  by_cases h : N < 2
  · exact ⟨false, Ev.if_pos h (Ev.now _), Ev.if_pos h (Ev.now _)⟩
  · rcases least_l N (by omega) hN2 17320 2 (by omega) (by omega) (by omega) with ⟨p, q⟩ | ⟨q, t, a1, a2, a3, a4, a5, a6⟩
    · refine ⟨true, Ev.if_neg h (Ev.bind p ?_), Ev.if_neg h (Ev.bind q ?_)⟩
      · exact Ev.if_pos rfl (Ev.now _)
      · exact Ev.if_pos rfl (Ev.if_pos (by simp) (Ev.if_pos rfl (Ev.now _)))
    · obtain ⟨s1, s2⟩ := sq_le a1 (show q ≤ 17322 by omega)
      have h22 : 2 * q ≤ q * q := Int.mul_le_mul_of_nonneg_right a1 (by omega)
      have w : wrap64 (q * q) = q * q := wid (by omega) (by omega)
      refine ⟨decide (Int.tmod q 3 = 2 ∧ q * q = N), Ev.if_neg h (Ev.bind a4 (Ev.if_neg (by omega) ?_)), Ev.if_neg h (Ev.bind a5 ?_)⟩
      · by_cases m : Int.tmod q 3 = 2
        · exact Ev.if_pos m (Ev.val (Ev.now _) (by rw [w]; by_cases z : q * q = N <;> simp [m, z]))
        · exact Ev.if_neg m (Ev.val (Ev.now _) (by simp [m]))
      · cases t with
        | nil =>
          have r0 : rd [q] 0 = q := rfl
          simp only [r0]
          refine Ev.if_pos rfl (Ev.if_pos (by simp) (Ev.if_neg (by omega) ?_))
          by_cases m : Int.tmod q 3 = 2
          · exact Ev.if_pos m (Ev.val (Ev.now _) (by rw [w]; by_cases z : q * q = N <;> simp [m, z]))
          · exact Ev.if_neg m (Ev.val (Ev.now _) (by simp [m]))
        | cons y ys =>
          have z : ¬ q * q = N := fun z => by have := a6 z; simp at this
          exact Ev.if_neg (by simp only [List.length_cons]; omega) (Ev.val (Ev.now _) (by simp [z]))
theorem FnExactIsCubicPrime : laws_FnExactIsCubicPrime.Pure := by
  intro n l hn hm hl
  refine Ev.rounds (g := fun k => laws_FnExactIsCubicPrime.f k n l) ?_
  simp only [laws_FnExactIsCubicPrime.f, sz_eq n l hm 1048576 (by omega) (by omega), Option.bind_some]
  by_cases h : l.length ≤ 1048576
  · simp only [if_neg (show ¬ (1048576 : Int) < (l.length : Int) by omega), if_neg (show ¬ (1048576 : Int) - (l.length : Int) < 0 by omega)]
    have hs := code_spec n l h
    have hi := cubics_impl n l
    obtain ⟨r, hr, hq⟩ : ∃ r : Bool × Int, Ev (fun k => spec_IsCubicPrime.f k n l) r ∧ Ev (fun k => impl_IsCubicPrime.f k n l) r := by
      simp only [spec_IsCubicPrime.f, impl_IsCubicPrime.f]
      cases hc : isCub n l with
      | false =>
        rw [hc] at hs hi
        exact ⟨(false, 1), Ev.bind hs (Ev.const fun _ => rfl), Ev.bind hi (Ev.const fun _ => rfl)⟩
      | true =>
        rw [hc] at hs hi
        have h3 : n = 3 ∧ isCyc n l = true ∧ l.all (small 10000) = true := by
          simp only [isCub, Bool.and_eq_true, decide_eq_true_eq] at hc
          exact ⟨hc.1, hc.2.1, hc.2.2⟩
        obtain ⟨rfl, h4, h5⟩ := h3
        obtain ⟨a, b, rfl⟩ := two_of h4
        have ha : -10000 ≤ a ∧ a ≤ 10000 := by simp [small] at h5; omega
        have hb : -10000 ≤ b ∧ b ≤ 10000 := by simp [small] at h5; omega
        obtain ⟨r, q1, q2⟩ := prime_both a b ha hb
        refine ⟨(r, 0), Ev.bind hs ?_, Ev.bind hi ?_⟩
        · exact Ev.if_pos rfl (Ev.bind q1 (Ev.now _))
        · exact Ev.if_pos rfl (Ev.if_pos (by simp) (Ev.bind q2 (Ev.now _)))
    refine Ev.bind (toC n l h) (Ev.bind hr (Ev.bind (toC n l h) (Ev.bind hq ?_)))
    simp only [bne_self_eq_false, Bool.false_eq_true, if_false]
    exact law_tail0 n l h
  · simp only [if_pos (show (1048576 : Int) < (l.length : Int) by omega)]
    exact Ev.const (fun _ => by simp)

end Go.Proofs.Ytakjogepokmbfaa.Pure
