/- The norm of a cubic number, as the program and as the reference tell it, for every order and every list. No condition. -/
import Derived.Test.YtakjogepokmbfaaXFnExactNormOfCubicx5
namespace Go.Proofs.Ytakjogepokmbfaa.Pure
open Go.RowKit Go.Proofs.Ytakjogepokmbfaa.XFnExactNormOfCubic Go.Proofs.YtakjogepokmbfaaW.PrintWords Go.Proofs.YtakjogepokmbfaaW.PrintLast
set_option linter.unusedVariables false
set_option linter.unusedSimpArgs false

theorem wfb {a : Int} (h : (Lit.int .i64 a).wf = true) : -9223372036854775808 ≤ a ∧ a ≤ 9223372036854775807 := by
  simp only [Lit.wf, IntKind.min, IntKind.max, IntKind.signed, IntKind.bits, Bool.and_eq_true, decide_eq_true_eq, if_true] at h
  omega
theorem wid {a : Int} (h1 : -9223372036854775808 ≤ a) (h2 : a ≤ 9223372036854775807) : wrap64 a = a := by
  unfold wrap64; omega
theorem Ev.const {α : Type} {g : Nat → Option α} {r : α} (h : ∀ k, g k = some r) : Ev g r := ⟨0, fun k _ => h k⟩
theorem Ev.if_pos {α : Type} {c : Prop} [Decidable c] {f g : Nat → Option α} {r : α} (hc : c) (h : Ev f r) : Ev (fun k => if c then f k else g k) r :=
  Ev.congr (fun k => _root_.if_pos hc) h
theorem Ev.if_neg {α : Type} {c : Prop} [Decidable c] {f g : Nat → Option α} {r : α} (hc : ¬ c) (h : Ev g r) : Ev (fun k => if c then f k else g k) r :=
  Ev.congr (fun k => _root_.if_neg hc) h
theorem Ev.val {α : Type} {f : Nat → Option α} {r s : α} (h : Ev f r) (e : r = s) : Ev f s := e ▸ h
theorem within_eq (a b c : Int) : impl_within.f a b c = some (decide (b ≤ a ∧ a ≤ c)) := by
  unfold impl_within.f
  by_cases h : b ≤ a <;> simp [h]
theorem in_eq (a b c : Int) : spec_l01In.f a b c = some (decide (b ≤ a ∧ a ≤ c)) := by
  unfold spec_l01In.f
  by_cases h : b ≤ a <;> simp [h]

theorem rd_get (l : List Int) (i : Nat) : rd l (i : Int) = l.getD i 0 := by simp [rd]
theorem eqI_l (a b : List Int) (h : a.length = b.length) (ha : a.length ≤ 1048576) : ∀ (n i : Nat), i ≤ a.length → (∀ j, j < i → a[j]? = b[j]?) → a.length - i ≤ n → laws_eqInt64S.l0 (n + 1) a b (i : Int) = some (decide (a = b)) := by
  have fin : ∀ i : Nat, (∀ j, j < i → a[j]? = b[j]?) → a.length ≤ i → a = b := by
    intro i hj hi
    apply List.ext_getElem? fun j => ?_
    by_cases h' : j < a.length
    · exact hj j (by omega)
    · rw [List.getElem?_eq_none (by omega), List.getElem?_eq_none (by omega)]
  intro n
  induction n with
  | zero =>
    intro i hi hj hn
    rw [laws_eqInt64S.l0, if_neg (by omega), decide_eq_true (fin i hj (by omega))]
  | succ n ih =>
    intro i hi hj hn
    rw [laws_eqInt64S.l0]
    by_cases h' : i < a.length
    · rw [if_pos (by omega), if_pos (by omega), if_pos (by omega), rd_get, rd_get, wid (by omega) (by omega)]
      have ga : a[i]? = some (a.getD i 0) := by rw [List.getD_eq_getElem?_getD, List.getElem?_eq_getElem h']; rfl
      have gb : b[i]? = some (b.getD i 0) := by rw [List.getD_eq_getElem?_getD, List.getElem?_eq_getElem (by omega : i < b.length)]; rfl
      by_cases e : a.getD i 0 = b.getD i 0
      · rw [if_pos e]
        have := ih (i + 1) (by omega) (fun j hjlt => ?_) (by omega)
        · simpa using this
        · by_cases e' : j = i
          · rw [e', ga, gb, e]
          · exact hj j (by omega)
      · rw [if_neg e, decide_eq_false]
        intro e'
        exact e (by rw [e'])
    · rw [if_neg (by omega), decide_eq_true (fin i hj (by omega))]
/-- Two lists are held against each other. -/
theorem eqI (a b : List Int) (ha : a.length ≤ 1048576) : Ev (fun k => laws_eqInt64S.f k a b) (decide (a = b)) := by
  refine Ev.of (laws_eqInt64S.mono a b) (k := a.length + 1) ?_
  unfold laws_eqInt64S.f
  by_cases h : a.length = b.length
  · rw [if_pos (by omega)]
    exact eqI_l a b h ha a.length 0 (by omega) (fun j hj => absurd hj (by omega)) (by omega)
  · rw [if_neg (by omega), decide_eq_false]
    intro e
    exact h (by rw [e])

theorem toI_l (l : List Int) (hl : l.length ≤ 1048576) : ∀ (n i : Nat) (x : List Int), x.length = l.length → i ≤ l.length → (∀ j, j < i → x[j]? = l[j]?) → l.length - i ≤ n → laws_toInt64S.l0 (n + 1) l x (i : Int) = some l := by
  have fin : ∀ (i : Nat) (x : List Int), x.length = l.length → (∀ j, j < i → x[j]? = l[j]?) → l.length ≤ i → x = l := by
    intro i x hx hj hi
    apply List.ext_getElem? fun j => ?_
    by_cases h : j < l.length
    · exact hj j (by omega)
    · rw [List.getElem?_eq_none (by omega), List.getElem?_eq_none (by omega)]
  intro n
  induction n with
  | zero =>
    intro i x hx hi hj hn
    rw [laws_toInt64S.l0, if_neg (by omega), fin i x hx hj (by omega)]
  | succ n ih =>
    intro i x hx hi hj hn
    rw [laws_toInt64S.l0]
    by_cases h : i < l.length
    · rw [if_pos (by omega), if_pos (by omega), if_pos (by omega), wid (by omega) (by omega)]
      have := ih (i + 1) (x.set i (rd l (i : Int))) (by simpa using hx) (by omega) (fun j hjlt => ?_) (by omega)
      · simpa using this
      · by_cases e : j = i
        · subst e
          rw [List.getElem?_set_self (by omega), rd_get, List.getD_eq_getElem?_getD, List.getElem?_eq_getElem h]
          rfl
        · rw [List.getElem?_set_ne (fun e' => e e'.symm)]
          exact hj j (by omega)
    · rw [if_neg (by omega), fin i x hx hj (by omega)]
theorem toI (l : List Int) (hl : l.length ≤ 1048576) : Ev (fun k => laws_toInt64S.f k l) l := by
  refine Ev.of (laws_toInt64S.mono l) (k := l.length + 1) ?_
  unfold laws_toInt64S.f
  rw [if_pos (by omega), if_pos (by simp; omega)]
  exact toI_l l hl l.length 0 _ (by simp) (by omega) (fun j hj => absurd hj (by omega)) (by omega)
def small (m x : Int) : Bool := decide (-m ≤ x ∧ x ≤ m)
theorem areSmall_eq (l : List Int) (m : Int) (h0 : 0 ≤ m) (h1 : m ≤ 9223372036854775807) : impl_areSmall.f l m = some (l.all (small m)) := by
  unfold impl_areSmall.f
  rw [wid (by omega) (by omega)]
  rfl
def phiT (n : Int) : Int := [0, 1, 1, 2, 2, 4, 2, 6, 4, 6, 4, 10, 4, 12, 6, 8, 8].getD n.toNat 0
theorem phi_all : ∀ n : Nat, n < 17 → 1 ≤ n → spec_l01Phi.f 60 (n : Int) = some (phiT (n : Int)) ∧ impl_totient.f 60 (n : Int) = some (phiT (n : Int)) := by decide +kernel
theorem phi_spec (n : Int) (h : 1 ≤ n ∧ n ≤ 16) : Ev (fun k => spec_l01Phi.f k n) (phiT n) := by
  obtain ⟨m, rfl⟩ := Int.eq_ofNat_of_zero_le (show 0 ≤ n by omega)
  exact Ev.of (spec_l01Phi.mono _) (phi_all m (by omega) (by omega)).1
theorem phi_impl (n : Int) (h : 1 ≤ n ∧ n ≤ 16) : Ev (fun k => impl_totient.f k n) (phiT n) := by
  obtain ⟨m, rfl⟩ := Int.eq_ofNat_of_zero_le (show 0 ≤ n by omega)
  exact Ev.of (impl_totient.mono _) (phi_all m (by omega) (by omega)).2
theorem phiT_le (n : Int) (h : 1 ≤ n ∧ n ≤ 16) : 1 ≤ phiT n ∧ phiT n ≤ 12 := by
  obtain ⟨m, rfl⟩ := Int.eq_ofNat_of_zero_le (show 0 ≤ n by omega)
  have : ∀ m : Nat, m < 17 → 1 ≤ m → 1 ≤ phiT (m : Int) ∧ phiT (m : Int) ≤ 12 := by decide +kernel
  exact this m (by omega) (by omega)
/-- Is it a number? -/
def isCyc (n : Int) (l : List Int) : Bool := decide (1 ≤ n ∧ n ≤ 16) && (decide ((l.length : Int) = phiT n) && l.all (small 1000000000))
theorem fits_l (a : Int) (l : List Int) (hl : l.length ≤ 1048576) : ∀ (n i : Nat), i ≤ l.length → l.length - i ≤ n → spec_l01Fits.l0 (n + 1) (i : Int) a l = some ((l.drop i).all (small 1000000000)) := by
  intro n
  induction n with
  | zero =>
    intro i hi hn
    rw [spec_l01Fits.l0, if_neg (by omega), List.drop_eq_nil_of_le (by omega)]
    rfl
  | succ n ih =>
    intro i hi hn
    rw [spec_l01Fits.l0]
    by_cases h : i < l.length
    · rw [if_pos (by omega), if_pos (by omega), in_eq, rd_get]
      simp only [Option.bind_some]
      rw [List.drop_eq_getElem_cons h, List.all_cons, List.getD_eq_getElem?_getD, List.getElem?_eq_getElem h, Option.getD_some]
      by_cases e : -1000000000 ≤ l[i] ∧ l[i] ≤ 1000000000
      · rw [if_pos (by simpa using e), wid (by omega) (by omega)]
        have := ih (i + 1) (by omega) (by omega)
        rw [show ((i : Int) + 1) = ((i + 1 : Nat) : Int) from by omega, this]
        simp [small, e]
      · rw [if_neg (by simpa using e)]
        simp [small, e]
    · rw [if_neg (by omega), List.drop_eq_nil_of_le (by omega)]
      rfl
theorem fits_spec (a : Int) (l : List Int) (hl : l.length ≤ 1048576) : Ev (fun k => spec_l01Fits.f k a l) (l.all (small 1000000000)) := by
  refine Ev.of (spec_l01Fits.mono a l) (k := l.length + 1) ?_
  unfold spec_l01Fits.f
  have := fits_l a l hl l.length 0 (by omega) (by omega)
  simpa using this
theorem is_spec (n : Int) (l : List Int) (hl : l.length ≤ 1048576) : Ev (fun k => spec_l01Is.f k n l) (isCyc n l) := by
  simp only [spec_l01Is.f, in_eq, Option.bind_some]
  by_cases h : 1 ≤ n ∧ n ≤ 16
  · simp only [decide_eq_true h, if_true]
    refine Ev.bind (phi_spec n h) ?_
    by_cases e : (l.length : Int) = phiT n
    · simp only [if_pos e]
      refine Ev.bind (fits_spec n l hl) (Ev.val (Ev.now _) ?_)
      simp [isCyc, h, e]
    · simp only [if_neg e]
      exact Ev.val (Ev.now _) (by simp [isCyc, e])
  · simp only [decide_eq_false h]
    exact Ev.val (Ev.now _) (by simp [isCyc, h])
theorem is_impl (n : Int) (l : List Int) : Ev (fun k => impl_IsCyclo.f k n l) (isCyc n l) := by
  simp only [impl_IsCyclo.f, impl_isOrder.f, within_eq, Option.bind_some]
  by_cases h : 1 ≤ n ∧ n ≤ 16
  · simp only [decide_eq_true h, if_true]
    refine Ev.bind (phi_impl n h) ?_
    by_cases e : (l.length : Int) = phiT n
    · simp only [if_pos e]
      rw [areSmall_eq _ _ (by omega) (by omega)]
      exact Ev.val (Ev.now _) (by simp [isCyc, h, e])
    · simp only [if_neg e]
      exact Ev.val (Ev.now _) (by simp [isCyc, e])
  · simp only [decide_eq_false h]
    exact Ev.val (Ev.now _) (by simp [isCyc, h])
theorem sz_eq (n : Int) (l : List Int) (hm : l.length ≤ maxLen) (c : Int) (hc : 0 ≤ c) (hc2 : c ≤ 1048576) : laws_szCyclo.f n l c = some (if c < (l.length : Int) then -1 else c - l.length) := by
  unfold maxLen at hm
  unfold laws_szCyclo.f laws_szInt64S.f
  rw [wid (by omega) (by omega)]
  by_cases h : c < (l.length : Int)
  · rw [if_pos (by omega), if_pos h]; rfl
  · rw [if_neg (by omega), if_neg h, Option.bind_some, if_neg (by omega)]
theorem toC (n : Int) (l : List Int) (hl : l.length ≤ 1048576) : Ev (fun k => laws_toCyclo.f k n l) (n, l) := by
  simp only [laws_toCyclo.f]
  exact Ev.bind (toI l hl) (Ev.now _)
theorem eqC (n : Int) (l : List Int) (hl : l.length ≤ 1048576) (m : Int) (l' : List Int) : Ev (fun k => laws_eqCyclo.f k n l m l') (decide (n = m ∧ l = l')) := by
  simp only [laws_eqCyclo.f]
  by_cases h : n = m
  · simp only [if_pos h]
    refine Ev.bind (eqI l l' hl) ?_
    by_cases e : l = l'
    · exact Ev.val (Ev.const (fun _ => by rw [decide_eq_true e]; rfl)) (by simp [h, e])
    · exact Ev.val (Ev.const (fun _ => by rw [decide_eq_false e]; rfl)) (by simp [e])
  · simp only [if_neg h]
    exact Ev.val (Ev.now _) (by simp [h])
/-- Is it a cubic number? -/
def isCub (n : Int) (l : List Int) : Bool := decide (n = 3) && (isCyc n l && l.all (small 10000))
theorem two_of {l : List Int} (h : isCyc 3 l = true) : ∃ a b, l = [a, b] := by
  simp only [isCyc, Bool.and_eq_true, decide_eq_true_eq] at h
  have h2 : phiT 3 = 2 := by decide
  have h3 : l.length = 2 := by omega
  match l, h3 with
  | [a, b], _ => exact ⟨a, b, rfl⟩
theorem cub_spec (n : Int) (l : List Int) (hl : l.length ≤ 1048576) : Ev (fun k => spec_l09Is.f k n l) (isCub n l) := by
  simp only [spec_l09Is.f]
  by_cases h : n = 3
  · subst h
    simp only [if_true]
    refine Ev.bind (is_spec 3 l hl) ?_
    cases hc : isCyc 3 l with
    | false => exact Ev.val (Ev.const fun _ => rfl) (by simp [isCub, hc])
    | true =>
      obtain ⟨a, b, rfl⟩ := two_of hc
      simp only [if_true]
      refine Ev.const fun _ => ?_
      have ra : rd [a, b] 0 = a := rfl
      have rb : rd [a, b] 1 = b := rfl
      unfold spec_l09Fits.f
      rw [ra, rb, in_eq, in_eq]
      by_cases h1 : -10000 ≤ a ∧ a ≤ 10000 <;> by_cases h2 : -10000 ≤ b ∧ b ≤ 10000 <;> simp [isCub, hc, small, h1, h2]
  · simp only [if_neg h]
    exact Ev.val (Ev.now _) (by simp [isCub, h])
theorem cub_impl (n : Int) (l : List Int) : Ev (fun k => impl_IsCubicNumber.f k n l) (isCub n l) := by
  simp only [impl_IsCubicNumber.f]
  refine Ev.bind (is_impl n l) ?_
  cases hc : isCyc n l with
  | false => exact Ev.val (Ev.const fun _ => rfl) (by simp [isCub, hc])
  | true =>
    simp only [if_true]
    by_cases h : n = 3
    · simp only [if_pos h, areSmall_eq l 10000 (by omega) (by omega)]
      exact Ev.val (Ev.now _) (by subst h; simp [isCub, hc])
    · simp only [if_neg h]
      exact Ev.val (Ev.now _) (by simp [isCub, h])
theorem code_spec (n : Int) (l : List Int) (hl : l.length ≤ 1048576) : Ev (fun k => spec_l09Code.f k [⟨n, l⟩]) (if isCub n l = true then 0 else 1) := by
  simp only [spec_l09Code.f]
  refine Ev.step (fun k => rfl) ?_
  simp only [spec_l09Code.l0]
  refine Ev.if_pos (by simp) (Ev.if_pos (by omega) ?_)
  refine Ev.bind (a := isCub n l) (cub_spec n l hl) ?_
  cases isCub n l with
  | false => exact Ev.const fun _ => rfl
  | true =>
    simp only [if_true]
    refine Ev.step (fun k => rfl) ?_
    simp only [spec_l09Code.l0]
    exact Ev.if_neg (by simp [wrap64]) (Ev.now _)
theorem cubics_impl (n : Int) (l : List Int) : Ev (fun k => impl_cubicsOf.f k [⟨n, l⟩]) (if isCub n l = true then ([⟨rd l 0, rd l 1⟩], true) else ([], false)) := by
  simp only [impl_cubicsOf.f]
  refine Ev.step (fun k => rfl) ?_
  simp only [impl_cubicsOf.l0]
  refine Ev.if_pos (by simp) (Ev.if_pos (by omega) (Ev.if_pos (by simp) ?_))
  refine Ev.bind (a := isCub n l) (cub_impl n l) ?_
  cases hc : isCub n l with
  | false => exact Ev.const fun _ => rfl
  | true =>
    have h3 : n = 3 ∧ isCyc n l = true := by
      simp only [isCub, Bool.and_eq_true, decide_eq_true_eq] at hc
      exact ⟨hc.1, hc.2.1⟩
    obtain ⟨rfl, h4⟩ := h3
    obtain ⟨a, b, rfl⟩ := two_of h4
    simp only [if_true]
    refine Ev.if_pos (by simp [rd_T35]) (Ev.if_pos (by simp [rd_T35]) (Ev.if_pos (by simp) ?_))
    refine Ev.step (fun k => rfl) ?_
    simp only [impl_cubicsOf.l0]
    exact Ev.if_neg (by simp [wrap64]) (Ev.now _)
/-- Where both tell the same value and code, the law holds. -/
theorem law_tail0 (n : Int) (l : List Int) (h : l.length ≤ 1048576) : Ev (fun k => laws_FnExactNormOfCubic.j0 k false n l n l) true := by
  refine Ev.step (fun k => rfl) ?_
  simp only [laws_FnExactNormOfCubic.j0, Bool.false_eq_true, if_false]
  refine Ev.bind (toC n l h) ?_
  refine Ev.bind (eqC n l h n l) ?_
  exact Ev.const (fun _ => by simp)
theorem FnExactNormOfCubic : laws_FnExactNormOfCubic.Pure := by
  intro n l hn hm hl
  refine Ev.rounds (g := fun k => laws_FnExactNormOfCubic.f k n l) ?_
  simp only [laws_FnExactNormOfCubic.f, sz_eq n l hm 1048576 (by omega) (by omega), Option.bind_some]
  by_cases h : l.length ≤ 1048576
  · simp only [if_neg (show ¬ (1048576 : Int) < (l.length : Int) by omega), if_neg (show ¬ (1048576 : Int) - (l.length : Int) < 0 by omega)]
    have hs := code_spec n l h
    have hi := cubics_impl n l
    obtain ⟨r, hr, hq⟩ : ∃ r : Int × Int, Ev (fun k => spec_NormOfCubic.f k n l) r ∧ Ev (fun k => impl_NormOfCubic.f k n l) r := by
      simp only [spec_NormOfCubic.f, impl_NormOfCubic.f]
      cases hc : isCub n l with
      | false =>
        rw [hc] at hs hi
        exact ⟨(0, 1), Ev.bind hs (Ev.const fun _ => rfl), Ev.bind hi (Ev.const fun _ => rfl)⟩
      | true =>
        rw [hc] at hs hi
        have h3 : n = 3 ∧ isCyc n l = true := by
          simp only [isCub, Bool.and_eq_true, decide_eq_true_eq] at hc
          exact ⟨hc.1, hc.2.1⟩
        obtain ⟨rfl, h4⟩ := h3
        obtain ⟨a, b, rfl⟩ := two_of h4
        exact ⟨(wrap64 ((wrap64 ((wrap64 (a * a)) - (wrap64 (a * b)))) + (wrap64 (b * b))), 0), Ev.bind hs (Ev.const fun _ => rfl), Ev.bind hi (Ev.const fun _ => rfl)⟩
    refine Ev.bind (toC n l h) (Ev.bind hr (Ev.bind (toC n l h) (Ev.bind hq ?_)))
    refine Ev.if_pos rfl ?_
    simp only [bne_self_eq_false]
    exact law_tail0 n l h
  · simp only [if_pos (show (1048576 : Int) < (l.length : Int) by omega)]
    exact Ev.const (fun _ => by simp)

end Go.Proofs.Ytakjogepokmbfaa.Pure
