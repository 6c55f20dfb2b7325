/- Two numbers together, as the program and as the reference tell it, for all arguments. No condition. -/
import Derived.Test.YtakjogepokmbfaaXFnExactAddCyclosx7
namespace Go.Proofs.Ytakjogepokmbfaa.Pure
open Go.RowKit Go.Proofs.Ytakjogepokmbfaa.XFnExactAddCyclos Go.Proofs.YtakjogepokmbfaaW.PrintWords Go.Proofs.YtakjogepokmbfaaW.PrintLast
set_option linter.unusedVariables false
set_option linter.unusedSimpArgs false

theorem wfb {a : Int} (h : (Lit.int .i64 a).wf = true) : -9223372036854775808 ≤ a ∧ a ≤ 9223372036854775807 := by
  simp only [Lit.wf, IntKind.min, IntKind.max, IntKind.signed, IntKind.bits, Bool.and_eq_true, decide_eq_true_eq, if_true] at h
  omega
theorem wid {a : Int} (h1 : -9223372036854775808 ≤ a) (h2 : a ≤ 9223372036854775807) : wrap64 a = a := by
  unfold wrap64; omega
theorem Ev.const {α : Type} {g : Nat → Option α} {r : α} (h : ∀ k, g k = some r) : Ev g r := ⟨0, fun k _ => h k⟩
theorem Ev.if_pos {α : Type} {c : Prop} [Decidable c] {f g : Nat → Option α} {r : α} (hc : c) (h : Ev f r) : Ev (fun k => if c then f k else g k) r :=
  Ev.congr (fun k => _root_.if_pos hc) h
theorem Ev.if_neg {α : Type} {c : Prop} [Decidable c] {f g : Nat → Option α} {r : α} (hc : ¬ c) (h : Ev g r) : Ev (fun k => if c then f k else g k) r :=
  Ev.congr (fun k => _root_.if_neg hc) h
theorem Ev.val {α : Type} {f : Nat → Option α} {r s : α} (h : Ev f r) (e : r = s) : Ev f s := e ▸ h
theorem within_eq (a b c : Int) : impl_within.f a b c = some (decide (b ≤ a ∧ a ≤ c)) := by
  unfold impl_within.f
  by_cases h : b ≤ a <;> simp [h]
theorem in_eq (a b c : Int) : spec_l01In.f a b c = some (decide (b ≤ a ∧ a ≤ c)) := by
  unfold spec_l01In.f
  by_cases h : b ≤ a <;> simp [h]


theorem rd_get (l : List Int) (i : Nat) : rd l (i : Int) = l.getD i 0 := by simp [rd]
theorem eqI_l (a b : List Int) (h : a.length = b.length) (ha : a.length ≤ 1048576) : ∀ (n i : Nat), i ≤ a.length → (∀ j, j < i → a[j]? = b[j]?) → a.length - i ≤ n → laws_eqInt64S.l0 (n + 1) a b (i : Int) = some (decide (a = b)) := by
  have fin : ∀ i : Nat, (∀ j, j < i → a[j]? = b[j]?) → a.length ≤ i → a = b := by
    intro i hj hi
    apply List.ext_getElem? fun j => ?_
    by_cases h' : j < a.length
    · exact hj j (by omega)
    · rw [List.getElem?_eq_none (by omega), List.getElem?_eq_none (by omega)]
  intro n
  induction n with
  | zero =>
    intro i hi hj hn
    rw [laws_eqInt64S.l0, if_neg (by omega), decide_eq_true (fin i hj (by omega))]
  | succ n ih =>
    intro i hi hj hn
    rw [laws_eqInt64S.l0]
    by_cases h' : i < a.length
    · rw [if_pos (by omega), if_pos (by omega), if_pos (by omega), rd_get, rd_get, wid (by omega) (by omega)]
      have ga : a[i]? = some (a.getD i 0) := by rw [List.getD_eq_getElem?_getD, List.getElem?_eq_getElem h']; rfl
      have gb : b[i]? = some (b.getD i 0) := by rw [List.getD_eq_getElem?_getD, List.getElem?_eq_getElem (by omega : i < b.length)]; rfl
      by_cases e : a.getD i 0 = b.getD i 0
      · rw [if_pos e]
        have := ih (i + 1) (by omega) (fun j hjlt => ?_) (by omega)
        · simpa using this
        · by_cases e' : j = i
          · rw [e', ga, gb, e]
          · exact hj j (by omega)
      · rw [if_neg e, decide_eq_false]
        intro e'
        exact e (by rw [e'])
    · rw [if_neg (by omega), decide_eq_true (fin i hj (by omega))]
/-- Two lists are held against each other. -/
theorem eqI (a b : List Int) (ha : a.length ≤ 1048576) : Ev (fun k => laws_eqInt64S.f k a b) (decide (a = b)) := by
  refine Ev.of (laws_eqInt64S.mono a b) (k := a.length + 1) ?_
  unfold laws_eqInt64S.f
  by_cases h : a.length = b.length
  · rw [if_pos (by omega)]
    exact eqI_l a b h ha a.length 0 (by omega) (fun j hj => absurd hj (by omega)) (by omega)
  · rw [if_neg (by omega), decide_eq_false]
    intro e
    exact h (by rw [e])

theorem toI_l (l : List Int) (hl : l.length ≤ 1048576) : ∀ (n i : Nat) (x : List Int), x.length = l.length → i ≤ l.length → (∀ j, j < i → x[j]? = l[j]?) → l.length - i ≤ n → laws_toInt64S.l0 (n + 1) l x (i : Int) = some l := by
  have fin : ∀ (i : Nat) (x : List Int), x.length = l.length → (∀ j, j < i → x[j]? = l[j]?) → l.length ≤ i → x = l := by
    intro i x hx hj hi
    apply List.ext_getElem? fun j => ?_
    by_cases h : j < l.length
    · exact hj j (by omega)
    · rw [List.getElem?_eq_none (by omega), List.getElem?_eq_none (by omega)]
  intro n
  induction n with
  | zero =>
    intro i x hx hi hj hn
    rw [laws_toInt64S.l0, if_neg (by omega), fin i x hx hj (by omega)]
  | succ n ih =>
    intro i x hx hi hj hn
    rw [laws_toInt64S.l0]
    by_cases h : i < l.length
    · rw [if_pos (by omega), if_pos (by omega), if_pos (by omega), wid (by omega) (by omega)]
      have := ih (i + 1) (x.set i (rd l (i : Int))) (by simpa using hx) (by omega) (fun j hjlt => ?_) (by omega)
      · simpa using this
      · by_cases e : j = i
        · subst e
          rw [List.getElem?_set_self (by omega), rd_get, List.getD_eq_getElem?_getD, List.getElem?_eq_getElem h]
          rfl
        · rw [List.getElem?_set_ne (fun e' => e e'.symm)]
          exact hj j (by omega)
    · rw [if_neg (by omega), fin i x hx hj (by omega)]
theorem toI (l : List Int) (hl : l.length ≤ 1048576) : Ev (fun k => laws_toInt64S.f k l) l := by
  refine Ev.of (laws_toInt64S.mono l) (k := l.length + 1) ?_
  unfold laws_toInt64S.f
  rw [if_pos (by omega), if_pos (by simp; omega)]
  exact toI_l l hl l.length 0 _ (by simp) (by omega) (fun j hj => absurd hj (by omega)) (by omega)
def small (m x : Int) : Bool := decide (-m ≤ x ∧ x ≤ m)
theorem areSmall_eq (l : List Int) (m : Int) (h0 : 0 ≤ m) (h1 : m ≤ 9223372036854775807) : impl_areSmall.f l m = some (l.all (small m)) := by
  unfold impl_areSmall.f
  rw [wid (by omega) (by omega)]
  rfl
def phiT (n : Int) : Int := [0, 1, 1, 2, 2, 4, 2, 6, 4, 6, 4, 10, 4, 12, 6, 8, 8].getD n.toNat 0
theorem phis_all : ∀ n : Nat, n < 17 → 1 ≤ n → spec_l01Phi.f 60 (n : Int) = some (phiT (n : Int)) := by decide +kernel
theorem phi_spec (n : Int) (h : 1 ≤ n ∧ n ≤ 16) : Ev (fun k => spec_l01Phi.f k n) (phiT n) := by
  obtain ⟨m, rfl⟩ := Int.eq_ofNat_of_zero_le (show 0 ≤ n by omega)
  exact Ev.of (spec_l01Phi.mono _) (phis_all m (by omega) (by omega))
theorem phiT_le (n : Int) (h : 1 ≤ n ∧ n ≤ 16) : 1 ≤ phiT n ∧ phiT n ≤ 12 := by
  obtain ⟨m, rfl⟩ := Int.eq_ofNat_of_zero_le (show 0 ≤ n by omega)
  have : ∀ m : Nat, m < 17 → 1 ≤ m → 1 ≤ phiT (m : Int) ∧ phiT (m : Int) ≤ 12 := by decide +kernel
  exact this m (by omega) (by omega)
theorem fits_l (a : Int) (l : List Int) (hl : l.length ≤ 1048576) : ∀ (n i : Nat), i ≤ l.length → l.length - i ≤ n → spec_l01Fits.l0 (n + 1) (i : Int) a l = some ((l.drop i).all (small 1000000000)) := by
  intro n
  induction n with
  | zero =>
    intro i hi hn
    rw [spec_l01Fits.l0, if_neg (by omega), List.drop_eq_nil_of_le (by omega)]
    rfl
  | succ n ih =>
    intro i hi hn
    rw [spec_l01Fits.l0]
    by_cases h : i < l.length
    · rw [if_pos (by omega), if_pos (by omega), in_eq, rd_get]
      simp only [Option.bind_some]
      rw [List.drop_eq_getElem_cons h, List.all_cons, List.getD_eq_getElem?_getD, List.getElem?_eq_getElem h, Option.getD_some]
      by_cases e : -1000000000 ≤ l[i] ∧ l[i] ≤ 1000000000
      · rw [if_pos (by simpa using e), wid (by omega) (by omega)]
        have := ih (i + 1) (by omega) (by omega)
        rw [show ((i : Int) + 1) = ((i + 1 : Nat) : Int) from by omega, this]
        simp [small, e]
      · rw [if_neg (by simpa using e)]
        simp [small, e]
    · rw [if_neg (by omega), List.drop_eq_nil_of_le (by omega)]
      rfl
theorem fits_spec (a : Int) (l : List Int) (hl : l.length ≤ 1048576) : Ev (fun k => spec_l01Fits.f k a l) (l.all (small 1000000000)) := by
  refine Ev.of (spec_l01Fits.mono a l) (k := l.length + 1) ?_
  unfold spec_l01Fits.f
  have := fits_l a l hl l.length 0 (by omega) (by omega)
  simpa using this
theorem eqC (n : Int) (l : List Int) (hl : l.length ≤ 1048576) (m : Int) (l' : List Int) : Ev (fun k => laws_eqCyclo.f k n l m l') (decide (n = m ∧ l = l')) := by
  simp only [laws_eqCyclo.f]
  by_cases h : n = m
  · simp only [if_pos h]
    refine Ev.bind (eqI l l' hl) ?_
    by_cases e : l = l'
    · exact Ev.val (Ev.const (fun _ => by rw [decide_eq_true e]; rfl)) (by simp [h, e])
    · exact Ev.val (Ev.const (fun _ => by rw [decide_eq_false e]; rfl)) (by simp [e])
  · simp only [if_neg h]
    exact Ev.val (Ev.now _) (by simp [h])
theorem phii_all : ∀ n : Nat, n < 17 → 1 ≤ n → impl_totient.f 60 (n : Int) = some (phiT (n : Int)) := by decide +kernel
theorem phi_impl (n : Int) (h : 1 ≤ n ∧ n ≤ 16) : Ev (fun k => impl_totient.f k n) (phiT n) := by
  obtain ⟨m, rfl⟩ := Int.eq_ofNat_of_zero_le (show 0 ≤ n by omega)
  exact Ev.of (impl_totient.mono _) (phii_all m (by omega) (by omega))
/-- Is it a number? -/
def isCyc (n : Int) (l : List Int) : Bool := decide (1 ≤ n ∧ n ≤ 16) && (decide ((l.length : Int) = phiT n) && l.all (small 1000000000))
theorem is_spec (n : Int) (l : List Int) (hl : l.length ≤ 1048576) : Ev (fun k => spec_l01Is.f k n l) (isCyc n l) := by
  simp only [spec_l01Is.f, in_eq, Option.bind_some]
  by_cases h : 1 ≤ n ∧ n ≤ 16
  · simp only [decide_eq_true h, if_true]
    refine Ev.bind (phi_spec n h) ?_
    by_cases e : (l.length : Int) = phiT n
    · simp only [if_pos e]
      refine Ev.bind (fits_spec n l hl) (Ev.val (Ev.now _) ?_)
      simp [isCyc, h, e]
    · simp only [if_neg e]
      exact Ev.val (Ev.now _) (by simp [isCyc, e])
  · simp only [decide_eq_false h]
    exact Ev.val (Ev.now _) (by simp [isCyc, h])
theorem is_impl (n : Int) (l : List Int) : Ev (fun k => impl_IsCyclo.f k n l) (isCyc n l) := by
  simp only [impl_IsCyclo.f, impl_isOrder.f, within_eq, Option.bind_some]
  by_cases h : 1 ≤ n ∧ n ≤ 16
  · simp only [decide_eq_true h, if_true]
    refine Ev.bind (phi_impl n h) ?_
    by_cases e : (l.length : Int) = phiT n
    · simp only [if_pos e]
      rw [areSmall_eq _ _ (by omega) (by omega)]
      exact Ev.val (Ev.now _) (by simp [isCyc, h, e])
    · simp only [if_neg e]
      exact Ev.val (Ev.now _) (by simp [isCyc, e])
  · simp only [decide_eq_false h]
    exact Ev.val (Ev.now _) (by simp [isCyc, h])
theorem sz_eq (n : Int) (l : List Int) (hm : l.length ≤ maxLen) (c : Int) (hc : 0 ≤ c) (hc2 : c ≤ 1048576) : laws_szCyclo.f n l c = some (if c < (l.length : Int) then -1 else c - l.length) := by
  unfold maxLen at hm
  unfold laws_szCyclo.f laws_szInt64S.f
  rw [wid (by omega) (by omega)]
  by_cases h : c < (l.length : Int)
  · rw [if_pos (by omega), if_pos h]; rfl
  · rw [if_neg (by omega), if_neg h, Option.bind_some, if_neg (by omega)]
theorem toC (n : Int) (l : List Int) (hl : l.length ≤ 1048576) : Ev (fun k => laws_toCyclo.f k n l) (n, l) := by
  simp only [laws_toCyclo.f]
  exact Ev.bind (toI l hl) (Ev.now _)


/-- What a list of n cells holds once it is marked from 1 on. -/
def marks (n : Nat) : List Int := (List.range n).map fun (j : Nat) => (j : Int) + 1
theorem marks_at (n i : Nat) (h : i < n) : (marks n)[i]? = some ((i : Int) + 1) := by
  simp [marks, h]
theorem markI_l (m : Nat) (hm : m ≤ 1048576) : ∀ (n i : Nat) (x : List Int), x.length = m → i ≤ m → (∀ j, j < i → x[j]? = some ((j : Int) + 1)) → m - i ≤ n → laws_markInt64S.l0 (n + 1) x ((i : Int) + 1) (i : Int) = some ((m : Int) + 1, marks m) := by
  have fin : ∀ (i : Nat) (x : List Int), x.length = m → (∀ j, j < i → x[j]? = some ((j : Int) + 1)) → m ≤ i → x = marks m := by
    intro i x hx hj hi
    apply List.ext_getElem? fun j => ?_
    by_cases h : j < m
    · rw [hj j (by omega), marks_at m j h]
    · rw [List.getElem?_eq_none (by omega), List.getElem?_eq_none (by simp [marks]; omega)]
  intro n
  induction n with
  | zero =>
    intro i x hx hi hj hn
    rw [laws_markInt64S.l0, if_neg (by omega), fin i x hx hj (by omega), show i = m from by omega]
  | succ n ih =>
    intro i x hx hi hj hn
    rw [laws_markInt64S.l0]
    by_cases h : i < m
    · rw [if_pos (by omega), if_pos (by omega), wid (by omega) (by omega), wid (by omega) (by omega)]
      have := ih (i + 1) (x.set i ((i : Int) + 1)) (by simpa using hx) (by omega) (fun j hjlt => ?_) (by omega)
      · simpa using this
      · by_cases e : j = i
        · subst e
          rw [List.getElem?_set_self (by omega)]
        · rw [List.getElem?_set_ne (fun e' => e e'.symm)]
          exact hj j (by omega)
    · rw [if_neg (by omega), fin i x hx hj (by omega), show i = m from by omega]
theorem markI (l : List Int) (hl : l.length ≤ 1048576) : Ev (fun k => laws_markInt64S.f k l 1) ((l.length : Int) + 1, marks l.length) := by
  refine Ev.of (laws_markInt64S.mono l 1) (k := l.length + 1) ?_
  unfold laws_markInt64S.f
  have := markI_l l.length hl l.length 0 l rfl (by omega) (fun j hj => absurd hj (by omega)) (by omega)
  simpa using this
theorem heldI_l (m : Nat) (hm : m ≤ 1048576) : ∀ (n i : Nat), i ≤ m → m - i ≤ n → laws_heldInt64S.l0 (n + 1) (marks m) ((i : Int) + 1) (i : Int) = some ((m : Int) + 1) := by
  have hlen : (marks m).length = m := by simp [marks]
  intro n
  induction n with
  | zero =>
    intro i hi hn
    rw [laws_heldInt64S.l0, if_neg (by omega), show i = m from by omega]
  | succ n ih =>
    intro i hi hn
    rw [laws_heldInt64S.l0]
    by_cases h : i < m
    · have hr : rd (marks m) (i : Int) = (i : Int) + 1 := by
        simp [rd, List.getD_eq_getElem?_getD, marks_at m i h]
      rw [if_pos (by omega), if_pos (by omega), if_pos hr, wid (by omega) (by omega), wid (by omega) (by omega)]
      have := ih (i + 1) (by omega) (by omega)
      simpa using this
    · rw [if_neg (by omega), show i = m from by omega]
theorem heldI (l : List Int) (hl : l.length ≤ 1048576) : Ev (fun k => laws_heldInt64S.f k (marks l.length) 1) ((l.length : Int) + 1) := by
  refine Ev.of (laws_heldInt64S.mono _ 1) (k := l.length + 1) ?_
  unfold laws_heldInt64S.f
  have := heldI_l l.length hl l.length 0 (by omega) (by omega)
  simpa using this
theorem markC (n : Int) (l : List Int) (hl : l.length ≤ 1048576) : Ev (fun k => laws_markCyclo.f k n l 1) ((l.length : Int) + 1, marks l.length) := by
  simp only [laws_markCyclo.f]
  exact Ev.bind (markI l hl) (Ev.now _)
theorem heldC (n : Int) (l : List Int) (hl : l.length ≤ 1048576) : Ev (fun k => laws_heldCyclo.f k n (marks l.length) 1) ((l.length : Int) + 1) := by
  simp only [laws_heldCyclo.f]
  exact Ev.bind (heldI l hl) (Ev.if_neg (by omega) (Ev.now _))
theorem told_both (n : Int) (l : List Int) (hl : l.length ≤ 1000) : ∃ (m : Int) (l' : List Int) (c : Int), l'.length ≤ 1000 ∧ Ev (fun k => spec_l01Told.f k n l) (m, l', c) ∧ impl_cycloOf.f n l = some (m, l', c) := by
  have hf := fits_spec n l (by omega)
  simp only [spec_l01Told.f, impl_cycloOf.f]
  rw [areSmall_eq _ _ (by omega) (by omega), Option.bind_some]
  cases h : l.all (small 1000000000) with
  | false =>
    rw [h] at hf
    exact ⟨0, [], 3, by simp, Ev.bind hf (Ev.const fun _ => rfl), rfl⟩
  | true =>
    rw [h] at hf
    exact ⟨n, l, 0, hl, Ev.bind hf (Ev.const fun _ => rfl), rfl⟩
/-- The code for two numbers. -/
def codeT (n : Int) (x : List Int) (m : Int) (y : List Int) : Int := if isCyc n x = true ∧ isCyc m y = true then (if n = m then 0 else 2) else 1
theorem like_ev (n : Int) (x : List Int) (m : Int) (y : List Int) (hx : x.length ≤ 1048576) (hy : y.length ≤ 1048576) : Ev (fun k => spec_l01Like.f k n x m y) (codeT n x m y) := by
  have hj : ∀ b : Bool, Ev (fun k => spec_l01Like.j0 k b n x m y) (if b = true then 1 else if n = m then 0 else 2) := by
    intro b
    refine Ev.step (fun k => rfl) ?_
    simp only [spec_l01Like.j0]
    cases b with
    | true => exact Ev.const fun _ => rfl
    | false =>
      refine Ev.if_neg (by simp) ?_
      by_cases z : n = m
      · exact Ev.if_pos z (Ev.val (Ev.now _) (by simp [z]))
      · exact Ev.if_neg z (Ev.val (Ev.now _) (by simp [z]))
  simp only [spec_l01Like.f]
  refine Ev.bind (is_spec n x hx) ?_
  cases h1 : isCyc n x with
  | false => exact Ev.if_neg (by simp) (Ev.val (hj true) (by simp [codeT, h1]))
  | true =>
    refine Ev.if_pos rfl (Ev.bind (is_spec m y hy) (Ev.val (hj _) ?_))
    cases h2 : isCyc m y <;> simp [codeT, h1, h2]
theorem two_ev (n : Int) (x : List Int) (m : Int) (y : List Int) : Ev (fun k => impl_twoCode.f k n x m y) (codeT n x m y) := by
  have hj : ∀ b : Bool, Ev (fun k => impl_twoCode.j0 k b n x m y) (if b = true then 1 else if n = m then 0 else 2) := by
    intro b
    refine Ev.step (fun k => rfl) ?_
    simp only [impl_twoCode.j0]
    cases b with
    | true => exact Ev.const fun _ => rfl
    | false =>
      refine Ev.if_neg (by simp) ?_
      by_cases z : n = m
      · exact Ev.if_pos z (Ev.val (Ev.now _) (by simp [z]))
      · exact Ev.if_neg z (Ev.val (Ev.now _) (by simp [z]))
  simp only [impl_twoCode.f]
  refine Ev.bind (is_impl n x) ?_
  cases h1 : isCyc n x with
  | false => exact Ev.if_neg (by simp) (Ev.val (hj true) (by simp [codeT, h1]))
  | true =>
    refine Ev.if_pos rfl (Ev.bind (is_impl m y) (Ev.val (hj _) ?_))
    cases h2 : isCyc m y <;> simp [codeT, h1, h2]
theorem codeT_0 {n : Int} {x : List Int} {m : Int} {y : List Int} (h : codeT n x m y = 0) : isCyc n x = true ∧ isCyc m y = true ∧ n = m := by
  unfold codeT at h
  by_cases z : isCyc n x = true ∧ isCyc m y = true
  · rw [if_pos z] at h
    by_cases e : n = m
    · exact ⟨z.1, z.2, e⟩
    · rw [if_neg e] at h; omega
  · rw [if_neg z] at h; omega
theorem mark2_l (m : Nat) (hm : m ≤ 1048576) : ∀ (d i : Nat) (x : List Int) (a : Int), x.length = m → m - i ≤ d → i ≤ m → 0 ≤ a → a ≤ 2000000 + i → ∃ L : List Int, Ev (fun k => laws_markInt64S.l0 k x a (i : Int)) (a + (m - i : Nat), L) := by
  intro d
  have fin : ∀ (i : Nat) (x : List Int) (a : Int), x.length = m → i = m → ∃ L : List Int, Ev (fun k => laws_markInt64S.l0 k x a (i : Int)) (a + (m - i : Nat), L) := by
    intro i x a hx hi
    refine ⟨x, Ev.step (fun k => rfl) ?_⟩
    simp only [laws_markInt64S.l0]
    exact Ev.if_neg (by omega) (Ev.val (Ev.now _) (by rw [hi, Nat.sub_self]; simp))
  induction d with
  | zero => intro i x a hx h h2 h3 h4; exact fin i x a hx (by omega)
  | succ d ih =>
    intro i x a hx h h2 h3 h4
    by_cases g : i < m
    · have ew : wrap64 ((i : Int) + 1) = ((i + 1 : Nat) : Int) := by rw [wid (by omega) (by omega)]; omega
      have ea : wrap64 (a + 1) = a + 1 := wid (by omega) (by omega)
      obtain ⟨L, hL⟩ := ih (i + 1) (x.set i a) (a + 1) (by rw [List.length_set]; exact hx) (by omega) (by omega) (by omega) (by omega)
      refine ⟨L, Ev.step (fun k => rfl) ?_⟩
      simp only [laws_markInt64S.l0, ew, ea, Int.toNat_natCast]
      refine Ev.if_pos (by omega) (Ev.if_pos (by omega) (Ev.val hL ?_))
      have : m - i = (m - (i + 1)) + 1 := by omega
      rw [this]
      simp only [Prod.mk.injEq, and_true]
      omega
    · exact fin i x a hx (by omega)
theorem mark2 (n : Int) (l : List Int) (hl : l.length ≤ 1048576) (a : Int) (h : 0 ≤ a ∧ a ≤ 2000000) : ∃ L : List Int, Ev (fun k => laws_markCyclo.f k n l a) (a + l.length, L) := by
  obtain ⟨L, hL⟩ := mark2_l l.length hl l.length 0 l a rfl (by omega) (by omega) h.1 (by omega)
  refine ⟨L, ?_⟩
  simp only [laws_markCyclo.f, laws_markInt64S.f]
  rw [Nat.sub_zero] at hL
  exact Ev.bind hL (Ev.now _)
theorem own_eq (l : List Int) (h : l.length ≤ 1000) : spec_l01Own.f l = some l := by
  unfold spec_l01Own.f
  rw [Option.bind_some, if_pos (by simp; omega), List.nil_append]
theorem plus_l (a n : Int) (m : Int) (x y : List Int) (hy : y.length ≤ 1000) : ∀ (d i : Nat) (c : List Int), c.length = y.length → y.length - i ≤ d → i ≤ y.length → ∃ c' : List Int, c'.length = y.length ∧ Ev (fun k => spec_l01Plus.l0 k a (i : Int) m y n c) (n, c') ∧
    ∀ r : Int × List Int × Int, impl_cycloOf.f n c' = some r → Ev (fun k => impl_AddCyclos.l0 k a c y (y.length : Int) (i : Int) n x) r := by
  intro d
  have fin : ∀ (i : Nat) (c : List Int), c.length = y.length → i = y.length → ∃ c' : List Int, c'.length = y.length ∧ Ev (fun k => spec_l01Plus.l0 k a (i : Int) m y n c) (n, c') ∧
      ∀ r : Int × List Int × Int, impl_cycloOf.f n c' = some r → Ev (fun k => impl_AddCyclos.l0 k a c y (y.length : Int) (i : Int) n x) r := by
    intro i c hc hi
    refine ⟨c, hc, Ev.step (fun k => rfl) ?_, fun r hr => Ev.step (fun k => rfl) ?_⟩
    · simp only [spec_l01Plus.l0]; exact Ev.if_neg (by omega) (Ev.now _)
    · simp only [impl_AddCyclos.l0, hr, Option.bind_some]; exact Ev.if_neg (by omega) (Ev.now _)
  induction d with
  | zero => intro i c hc h h2; exact fin i c hc (by omega)
  | succ d ih =>
    intro i c hc h h2
    by_cases g : i < y.length
    · have ew : wrap64 ((i : Int) + 1) = ((i + 1 : Nat) : Int) := by rw [wid (by omega) (by omega)]; omega
      obtain ⟨c', h1, h2, h3⟩ := ih (i + 1) (c.set i (wrap64 (rd c (i : Int) + wrap64 (a * rd y (i : Int))))) (by rw [List.length_set]; exact hc) (by omega) (by omega)
      refine ⟨c', h1, Ev.step (fun k => rfl) ?_, fun r hr => Ev.step (fun k => rfl) ?_⟩
      · simp only [spec_l01Plus.l0, ew, Int.toNat_natCast]
        exact Ev.if_pos (by omega) (Ev.if_pos (by omega) (Ev.if_pos (by omega) h2))
      · simp only [impl_AddCyclos.l0, ew, Int.toNat_natCast]
        exact Ev.if_pos (by omega) (Ev.if_pos (by omega) (Ev.if_pos (by omega) (Ev.if_pos (by omega) (h3 r hr))))
    · exact fin i c hc (by omega)
theorem clone_eq (l : List Int) (h : l.length ≤ 1000) : slices_Clone_int64_int64.f l = some l := by
  unfold slices_Clone_int64_int64.f
  rw [if_pos (by omega)]
theorem both (n : Int) (x : List Int) (m : Int) (y : List Int) (a : Int) (hx : x.length ≤ 1048576) (hy : y.length ≤ 1048576) : ∃ (M : Int) (l : List Int) (c : Int), l.length ≤ 1000 ∧ Ev (fun k => spec_AddCyclos.f k n x m y a) (M, l, c) ∧ Ev (fun k => impl_AddCyclos.f k n x m y a) (M, l, c) := by
  have h1 := like_ev n x m y hx hy
  have h2 := two_ev n x m y
  have hj : ∀ c : Int, ¬ c = 0 → Ev (fun k => spec_AddCyclos.j1 k a c n x m y) (0, [], c) := by
    intro c hc
    refine Ev.step (fun k => rfl) ?_
    simp only [spec_AddCyclos.j1]
    exact Ev.if_neg hc (Ev.now _)
  simp only [spec_AddCyclos.f, impl_AddCyclos.f, in_eq, within_eq, Option.bind_some]
  by_cases hc : codeT n x m y = 0
  · rw [hc] at h1 h2
    obtain ⟨c1, c2, rfl⟩ := codeT_0 hc
    by_cases z : -1000 ≤ a ∧ a ≤ 1000
    · simp only [isCyc, Bool.and_eq_true, decide_eq_true_eq] at c1 c2
      obtain ⟨n1, hlx, _⟩ := c1
      obtain ⟨_, hly, _⟩ := c2
      have hp := phiT_le n n1
      have hx2 : x.length ≤ 1000 := by omega
      have hy2 : y.length ≤ 1000 := by omega
      obtain ⟨c', g1, g2, g3⟩ := plus_l a n n x y hy2 y.length 0 x (by omega) (by omega) (by omega)
      obtain ⟨M, l', c, t1, t2, t3⟩ := told_both n c' (by omega)
      refine ⟨M, l', c, t1, Ev.bind h1 (Ev.if_pos rfl ?_), Ev.bind h2 (Ev.if_pos rfl ?_)⟩
      · rw [decide_eq_true z]
        refine Ev.step (fun k => rfl) ?_
        simp only [spec_AddCyclos.j0]
        refine Ev.if_neg (by simp) (Ev.step (fun k => rfl) ?_)
        simp only [spec_AddCyclos.j1, spec_l01Plus.f, own_eq x hx2, Option.bind_some]
        exact Ev.if_pos (by first | trivial | rfl) (Ev.bind g2 (Ev.bind t2 (Ev.now _)))
      · simp only [clone_eq x hx2, Option.bind_some]
        exact Ev.if_pos (by simpa using z) (g3 _ t3)
    · refine ⟨0, [], 2, by simp, Ev.bind h1 (Ev.if_pos rfl ?_), Ev.bind h2 (Ev.if_pos rfl (Ev.if_neg (by simpa using z) (Ev.now _)))⟩
      rw [decide_eq_false z]
      refine Ev.step (fun k => rfl) ?_
      simp only [spec_AddCyclos.j0]
      exact Ev.if_pos (by first | trivial | rfl) (hj 2 (by omega))
  · refine ⟨0, [], codeT n x m y, by simp, Ev.bind h1 (Ev.if_neg hc (Ev.step (fun k => rfl) ?_)), Ev.bind h2 (Ev.if_neg hc (Ev.now _))⟩
    simp only [spec_AddCyclos.j0]
    exact Ev.if_neg (by simp) (hj _ hc)
theorem FnExactAddCyclos : laws_FnExactAddCyclos.Pure := by
  intro n x m y a hn hm hv hn2 hm2 hv2 ha
  refine Ev.rounds (g := fun k => laws_FnExactAddCyclos.f k n x m y a) ?_
  by_cases hx : x.length ≤ 1048576
  · simp only [laws_FnExactAddCyclos.f, sz_eq n x (by unfold maxLen; omega) 1048576 (by omega) (by omega), if_neg (show ¬ (1048576 : Int) < (x.length : Int) by omega), Option.bind_some]
    refine Ev.if_neg (by omega) ?_
    rw [sz_eq m y hm2 _ (by omega) (by omega)]
    by_cases hy : y.length ≤ 1048576 - x.length
    · rw [if_neg (by omega)]; simp only [Option.bind_some]
      have hy2 : y.length ≤ 1048576 := by omega
      obtain ⟨M, l, c, hl, s, t⟩ := both n x m y a hx hy2
      have hl2 : l.length ≤ 1048576 := by omega
      obtain ⟨L, hL⟩ := mark2 m y hy2 ((x.length : Int) + 1) (by omega)
      have tx := toC n x hx
      have ty := toC m y hy2
      refine Ev.if_neg (by omega) (Ev.bind tx (Ev.bind ty (Ev.bind s (Ev.bind tx (Ev.bind ty (Ev.bind t (Ev.bind (eqC M l hl2 M l) ?_)))))))
      simp only [and_self, decide_true, bne_self_eq_false]
      refine Ev.if_pos (by first | trivial | rfl) (Ev.step (fun k => rfl) ?_)
      simp only [laws_FnExactAddCyclos.j0]
      refine Ev.if_neg (by simp) (Ev.bind tx (Ev.bind (eqC n x hx n x) (Ev.if_pos (by simp) (Ev.bind ty (Ev.bind (eqC m y hy2 m y) (Ev.if_pos (by simp) ?_))))))
      refine Ev.bind (markC n x hx) (Ev.bind hL (Ev.if_neg (by omega) (Ev.bind (eqC M l hl2 M l) (Ev.if_pos (by simp) ?_))))
      simp only [bne_self_eq_false]
      refine Ev.step (fun k => rfl) ?_
      simp only [laws_FnExactAddCyclos.j1]
      refine Ev.if_neg (by simp) (Ev.bind (markC M l hl2) (Ev.bind (heldC M l hl2) (Ev.if_neg (by omega) (Ev.if_pos rfl (Ev.bind tx (Ev.bind ty (Ev.bind t (Ev.bind (eqC M l hl2 M l) (Ev.if_pos (by simp) ?_)))))))))
      simp only [bne_self_eq_false]
      refine Ev.step (fun k => rfl) ?_
      simp only [laws_FnExactAddCyclos.j2]
      exact Ev.if_neg (by simp) (Ev.bind (heldC M l hl2) (Ev.if_neg (by omega) (Ev.if_pos rfl (Ev.now _))))
    · rw [if_pos (by omega)]; simp only [Option.bind_some]
      exact Ev.if_pos (by omega) (Ev.now _)
  · simp only [laws_FnExactAddCyclos.f, sz_eq n x hm 1048576 (by omega) (by omega), if_pos (show (1048576 : Int) < (x.length : Int) by omega), Option.bind_some]
    exact Ev.const fun _ => rfl

end Go.Proofs.Ytakjogepokmbfaa.Pure
