/- Whether x is a Gauss number, as the program and as the reference tell it, for every order, every prime and every list of rows. No condition. -/
import Derived.Test.YtpeokcbjbjjmpaaXFnExactIsGaussx5
namespace Go.Proofs.Ytpeokcbjbjjmpaa.Pure
open Go.RowKit Go.Proofs.Ytpeokcbjbjjmpaa.XFnExactIsGauss Go.Proofs.YtpeokcbjbjjmpaaW.PrintWords Go.Proofs.YtpeokcbjbjjmpaaW.PrintLast
set_option linter.unusedVariables false
set_option linter.unusedSimpArgs false

theorem wfb {a : Int} (h : (Lit.int .i64 a).wf = true) : -9223372036854775808 ≤ a ∧ a ≤ 9223372036854775807 := by
  simp only [Lit.wf, IntKind.min, IntKind.max, IntKind.signed, IntKind.bits, Bool.and_eq_true, decide_eq_true_eq, if_true] at h
  omega
theorem wid {a : Int} (h1 : -9223372036854775808 ≤ a) (h2 : a ≤ 9223372036854775807) : wrap64 a = a := by
  unfold wrap64; omega
theorem Ev.const {α : Type} {g : Nat → Option α} {r : α} (h : ∀ k, g k = some r) : Ev g r := ⟨0, fun k _ => h k⟩
theorem Ev.if_pos {α : Type} {c : Prop} [Decidable c] {f g : Nat → Option α} {r : α} (hc : c) (h : Ev f r) : Ev (fun k => if c then f k else g k) r :=
  Ev.congr (fun k => _root_.if_pos hc) h
theorem Ev.if_neg {α : Type} {c : Prop} [Decidable c] {f g : Nat → Option α} {r : α} (hc : ¬ c) (h : Ev g r) : Ev (fun k => if c then f k else g k) r :=
  Ev.congr (fun k => _root_.if_neg hc) h
theorem Ev.val {α : Type} {f : Nat → Option α} {r s : α} (h : Ev f r) (e : r = s) : Ev f s := e ▸ h
theorem within_eq (a b c : Int) : impl_within.f a b c = some (decide (b ≤ a ∧ a ≤ c)) := by
  unfold impl_within.f
  by_cases h : b ≤ a <;> simp [h]
theorem in_eq (a b c : Int) : spec_l01In.f a b c = some (decide (b ≤ a ∧ a ≤ c)) := by
  unfold spec_l01In.f
  by_cases h : b ≤ a <;> simp [h]
def isP (p : Int) : Bool := [3, 5, 7, 11, 13, 17, 19, 23, 29, 31, 37, 41, 43, 47, 53, 59, 61].contains p
theorem isP_range {p : Int} (h : isP p = true) : 3 ≤ p ∧ p ≤ 61 := by
  simp [isP] at h; omega
theorem isP_out {p : Int} (h : ¬ (3 ≤ p ∧ p ≤ 61)) : isP p = false := by
  cases e : isP p with
  | false => rfl
  | true => exact absurd (isP_range e) h
theorem prime_in : ∀ n : Nat, n < 62 → 3 ≤ n → impl_isPrime.f 10 (n : Int) = some (isP (n : Int)) ∧ spec_l03Prime.f 10 (n : Int) = some (isP (n : Int)) := by decide +kernel
theorem prime_out_l (p : Int) (hp : 62 ≤ p) (hp2 : p ≤ 9223372036854775807) : ∀ (n : Nat) (d : Int), 2 ≤ d → d ≤ p → p - d ≤ n → impl_isPrime.l0 (n + 1) p d = some false := by
  have hw : impl_within.f p 3 61 = some false := by rw [within_eq, decide_eq_false (by omega)]
  intro n
  induction n with
  | zero =>
    intro d h1 h2 h3
    obtain rfl : d = p := by omega
    simp only [impl_isPrime.l0]
    split
    · rw [if_neg (by omega), if_pos (Int.tmod_self)]
    · rw [hw]; rfl
  | succ n ih =>
    intro d h1 h2 h3
    rw [impl_isPrime.l0]
    split
    · rw [if_neg (by omega)]
      by_cases e : Int.tmod p d = 0
      · rw [if_pos e]
      · rw [if_neg e]
        have hd : d ≠ p := fun e' => e (by rw [e']; exact Int.tmod_self)
        rw [wid (by omega) (by omega)]
        exact ih (d + 1) (by omega) (by omega) (by omega)
    · rw [hw]; rfl
theorem prime_impl (p : Int) (hp : p ≤ 9223372036854775807) : Ev (fun k => impl_isPrime.f k p) (isP p) := by
  by_cases h : 3 ≤ p ∧ p ≤ 61
  · obtain ⟨n, rfl⟩ := Int.eq_ofNat_of_zero_le (show 0 ≤ p by omega)
    exact Ev.of (impl_isPrime.mono _) (prime_in n (by omega) (by omega)).1
  · rw [isP_out h]
    by_cases h2 : p < 3
    · refine ⟨1, fun k hk => ?_⟩
      obtain ⟨k, rfl⟩ : ∃ m, k = m + 1 := ⟨k - 1, by omega⟩
      show impl_isPrime.f (k + 1) p = some false
      unfold impl_isPrime.f
      rw [impl_isPrime.l0, if_neg (by rw [wid (by omega) (by omega)]; omega), within_eq, decide_eq_false (by omega)]
      rfl
    · refine Ev.of (impl_isPrime.mono _) (k := (p - 2).toNat + 1) ?_
      exact prime_out_l p (by omega) hp _ 2 (by omega) (by omega) (by omega)
theorem prime_spec (p : Int) : Ev (fun k => spec_l03Prime.f k p) (isP p) := by
  by_cases h : 3 ≤ p ∧ p ≤ 61
  · obtain ⟨n, rfl⟩ := Int.eq_ofNat_of_zero_le (show 0 ≤ p by omega)
    exact Ev.of (spec_l03Prime.mono _) (prime_in n (by omega) (by omega)).2
  · rw [isP_out h]
    refine Ev.const (fun k => ?_)
    unfold spec_l03Prime.f
    rw [in_eq, decide_eq_false h]
    rfl


theorem rd_get (l : List Int) (i : Nat) : rd l (i : Int) = l.getD i 0 := by simp [rd]
theorem eqI_l (a b : List Int) (h : a.length = b.length) (ha : a.length ≤ 1048576) : ∀ (n i : Nat), i ≤ a.length → (∀ j, j < i → a[j]? = b[j]?) → a.length - i ≤ n → laws_eqInt64S.l0 (n + 1) a b (i : Int) = some (decide (a = b)) := by
  have fin : ∀ i : Nat, (∀ j, j < i → a[j]? = b[j]?) → a.length ≤ i → a = b := by
    intro i hj hi
    apply List.ext_getElem? fun j => ?_
    by_cases h' : j < a.length
    · exact hj j (by omega)
    · rw [List.getElem?_eq_none (by omega), List.getElem?_eq_none (by omega)]
  intro n
  induction n with
  | zero =>
    intro i hi hj hn
    rw [laws_eqInt64S.l0, if_neg (by omega), decide_eq_true (fin i hj (by omega))]
  | succ n ih =>
    intro i hi hj hn
    rw [laws_eqInt64S.l0]
    by_cases h' : i < a.length
    · rw [if_pos (by omega), if_pos (by omega), if_pos (by omega), rd_get, rd_get, wid (by omega) (by omega)]
      have ga : a[i]? = some (a.getD i 0) := by rw [List.getD_eq_getElem?_getD, List.getElem?_eq_getElem h']; rfl
      have gb : b[i]? = some (b.getD i 0) := by rw [List.getD_eq_getElem?_getD, List.getElem?_eq_getElem (by omega : i < b.length)]; rfl
      by_cases e : a.getD i 0 = b.getD i 0
      · rw [if_pos e]
        have := ih (i + 1) (by omega) (fun j hjlt => ?_) (by omega)
        · simpa using this
        · by_cases e' : j = i
          · rw [e', ga, gb, e]
          · exact hj j (by omega)
      · rw [if_neg e, decide_eq_false]
        intro e'
        exact e (by rw [e'])
    · rw [if_neg (by omega), decide_eq_true (fin i hj (by omega))]
/-- Two lists are held against each other. -/
theorem eqI (a b : List Int) (ha : a.length ≤ 1048576) : Ev (fun k => laws_eqInt64S.f k a b) (decide (a = b)) := by
  refine Ev.of (laws_eqInt64S.mono a b) (k := a.length + 1) ?_
  unfold laws_eqInt64S.f
  by_cases h : a.length = b.length
  · rw [if_pos (by omega)]
    exact eqI_l a b h ha a.length 0 (by omega) (fun j hj => absurd hj (by omega)) (by omega)
  · rw [if_neg (by omega), decide_eq_false]
    intro e
    exact h (by rw [e])

theorem toI_l (l : List Int) (hl : l.length ≤ 1048576) : ∀ (n i : Nat) (x : List Int), x.length = l.length → i ≤ l.length → (∀ j, j < i → x[j]? = l[j]?) → l.length - i ≤ n → laws_toInt64S.l0 (n + 1) l x (i : Int) = some l := by
  have fin : ∀ (i : Nat) (x : List Int), x.length = l.length → (∀ j, j < i → x[j]? = l[j]?) → l.length ≤ i → x = l := by
    intro i x hx hj hi
    apply List.ext_getElem? fun j => ?_
    by_cases h : j < l.length
    · exact hj j (by omega)
    · rw [List.getElem?_eq_none (by omega), List.getElem?_eq_none (by omega)]
  intro n
  induction n with
  | zero =>
    intro i x hx hi hj hn
    rw [laws_toInt64S.l0, if_neg (by omega), fin i x hx hj (by omega)]
  | succ n ih =>
    intro i x hx hi hj hn
    rw [laws_toInt64S.l0]
    by_cases h : i < l.length
    · rw [if_pos (by omega), if_pos (by omega), if_pos (by omega), wid (by omega) (by omega)]
      have := ih (i + 1) (x.set i (rd l (i : Int))) (by simpa using hx) (by omega) (fun j hjlt => ?_) (by omega)
      · simpa using this
      · by_cases e : j = i
        · subst e
          rw [List.getElem?_set_self (by omega), rd_get, List.getD_eq_getElem?_getD, List.getElem?_eq_getElem h]
          rfl
        · rw [List.getElem?_set_ne (fun e' => e e'.symm)]
          exact hj j (by omega)
    · rw [if_neg (by omega), fin i x hx hj (by omega)]
theorem toI (l : List Int) (hl : l.length ≤ 1048576) : Ev (fun k => laws_toInt64S.f k l) l := by
  refine Ev.of (laws_toInt64S.mono l) (k := l.length + 1) ?_
  unfold laws_toInt64S.f
  rw [if_pos (by omega), if_pos (by simp; omega)]
  exact toI_l l hl l.length 0 _ (by simp) (by omega) (fun j hj => absurd hj (by omega)) (by omega)
def small (m x : Int) : Bool := decide (-m ≤ x ∧ x ≤ m)
theorem areSmall_eq (l : List Int) (m : Int) (h0 : 0 ≤ m) (h1 : m ≤ 9223372036854775807) : impl_areSmall.f l m = some (l.all (small m)) := by
  unfold impl_areSmall.f
  rw [wid (by omega) (by omega)]
  rfl
def phiT (n : Int) : Int := [0, 1, 1, 2, 2, 4, 2, 6, 4, 6, 4, 10, 4, 12, 6, 8, 8].getD n.toNat 0
theorem phis_all : ∀ n : Nat, n < 17 → 1 ≤ n → spec_l01Phi.f 60 (n : Int) = some (phiT (n : Int)) := by decide +kernel
theorem phi_spec (n : Int) (h : 1 ≤ n ∧ n ≤ 16) : Ev (fun k => spec_l01Phi.f k n) (phiT n) := by
  obtain ⟨m, rfl⟩ := Int.eq_ofNat_of_zero_le (show 0 ≤ n by omega)
  exact Ev.of (spec_l01Phi.mono _) (phis_all m (by omega) (by omega))
theorem phii_all : ∀ n : Nat, n < 17 → 1 ≤ n → impl_totient.f 60 (n : Int) = some (phiT (n : Int)) := by decide +kernel
theorem phi_impl (n : Int) (h : 1 ≤ n ∧ n ≤ 16) : Ev (fun k => impl_totient.f k n) (phiT n) := by
  obtain ⟨m, rfl⟩ := Int.eq_ofNat_of_zero_le (show 0 ≤ n by omega)
  exact Ev.of (impl_totient.mono _) (phii_all m (by omega) (by omega))
theorem phiT_le (n : Int) (h : 1 ≤ n ∧ n ≤ 16) : 1 ≤ phiT n ∧ phiT n ≤ 12 := by
  obtain ⟨m, rfl⟩ := Int.eq_ofNat_of_zero_le (show 0 ≤ n by omega)
  have : ∀ m : Nat, m < 17 → 1 ≤ m → 1 ≤ phiT (m : Int) ∧ phiT (m : Int) ≤ 12 := by decide +kernel
  exact this m (by omega) (by omega)
theorem rdL (l : List (List Int)) (i : Nat) (h : i < l.length) : rd_L1 l (i : Int) = l[i] := by
  unfold rd_L1
  rw [Int.toNat_natCast, List.getD_eq_getElem?_getD, List.getElem?_eq_getElem h, Option.getD_some]
/-- Rows that can be taken over. -/
def fits2 (l : List (List Int)) : Prop := ∀ x ∈ l, x.length ≤ 1048576
theorem sz_row (r : List Int) (hr : r.length ≤ maxLen) (c : Int) (hc : 0 ≤ c) (hc2 : c ≤ 1048576) : laws_szInt64S.f r c = some (if c < (r.length : Int) then -1 else c - r.length) := by
  unfold maxLen at hr
  unfold laws_szInt64S.f
  rw [wid (by omega) (by omega)]
  by_cases h : c < (r.length : Int)
  · rw [if_pos (by omega), if_pos h]
  · rw [if_neg (by omega), if_neg h]
theorem sz_l (l : List (List Int)) (hl : l.length ≤ 1048576) (hr : ∀ x ∈ l, x.length ≤ maxLen) : ∀ (d i : Nat) (c : Int), l.length - i ≤ d → i ≤ l.length → 0 ≤ c → c ≤ 1048576 →
    ∃ t : Int, Ev (fun k => laws_szInt64SS.l0 k l c (i : Int)) t ∧ (t < 0 ∨ ∀ j, i ≤ j → (h : j < l.length) → l[j].length ≤ 1048576) := by
  intro d
  have fin : ∀ (i : Nat) (c : Int), l.length ≤ i → ∃ t : Int, Ev (fun k => laws_szInt64SS.l0 k l c (i : Int)) t ∧ (t < 0 ∨ ∀ j, i ≤ j → (h : j < l.length) → l[j].length ≤ 1048576) := by
    intro i c h
    refine ⟨c, Ev.step (fun k => rfl) ?_, .inr (fun j h1 h2 => absurd h2 (by omega))⟩
    simp only [laws_szInt64SS.l0]
    exact Ev.if_neg (by omega) (Ev.now _)
  induction d with
  | zero => intro i c h h2 h3 h4; exact fin i c (by omega)
  | succ d ih =>
    intro i c h h2 h3 h4
    by_cases g : i < l.length
    · have ew : wrap64 ((i : Int) + 1) = ((i + 1 : Nat) : Int) := by rw [wid (by omega) (by omega)]; omega
      have hz := sz_row l[i] (hr _ (List.getElem_mem g)) c h3 h4
      by_cases z : c < (l[i].length : Int)
      · rw [if_pos z] at hz
        refine ⟨-1, Ev.step (fun k => rfl) ?_, .inl (by omega)⟩
        simp only [laws_szInt64SS.l0, rdL l i g, hz, Option.bind_some]
        exact Ev.if_pos (by omega) (Ev.if_pos (by omega) (Ev.if_pos (by omega) (Ev.now _)))
      · rw [if_neg z] at hz
        obtain ⟨t, e1, e2⟩ := ih (i + 1) (c - l[i].length) (by omega) (by omega) (by omega) (by omega)
        refine ⟨t, Ev.step (fun k => rfl) ?_, ?_⟩
        · simp only [laws_szInt64SS.l0, rdL l i g, hz, Option.bind_some, ew]
          exact Ev.if_pos (by omega) (Ev.if_pos (by omega) (Ev.if_neg (by omega) e1))
        · rcases e2 with e2 | e2
          · exact .inl e2
          · refine .inr (fun j h5 h6 => ?_)
            by_cases q : j = i
            · subst q; omega
            · exact e2 j (by omega) h6
    · exact fin i c (by omega)
theorem sz_ev (p n : Int) (l : List (List Int)) (hl : l.length ≤ maxLen) (hr : ∀ x ∈ l, x.length ≤ maxLen) : ∃ t : Int, Ev (fun k => laws_szGauss.f k p n l 1048576) t ∧ (t < 0 ∨ (l.length ≤ 1048576 ∧ fits2 l)) := by
  unfold maxLen at hl
  have ew : wrap64 (1048576 - (l.length : Int)) = 1048576 - l.length := wid (by omega) (by omega)
  by_cases z : l.length ≤ 1048576
  · obtain ⟨t, e1, e2⟩ := sz_l l z hr l.length 0 (1048576 - l.length) (by omega) (by omega) (by omega) (by omega)
    by_cases y : t < 0
    · refine ⟨-1, ?_, .inl (by omega)⟩
      simp only [laws_szGauss.f, laws_szInt64SS.f, ew]
      exact Ev.bind (Ev.if_neg (by omega) e1) (Ev.if_pos y (Ev.now _))
    · refine ⟨t, ?_, .inr ⟨z, fun x hx => ?_⟩⟩
      · simp only [laws_szGauss.f, laws_szInt64SS.f, ew]
        exact Ev.bind (Ev.if_neg (by omega) e1) (Ev.if_neg y (Ev.now _))
      · rcases e2 with e2 | e2
        · exact absurd e2 y
        · obtain ⟨j, hj, rfl⟩ := List.getElem_of_mem hx
          exact e2 j (by omega) hj
  · refine ⟨-1, ?_, .inl (by omega)⟩
    simp only [laws_szGauss.f, laws_szInt64SS.f, ew]
    exact Ev.bind (Ev.if_pos (by omega) (Ev.now _)) (Ev.if_pos (by omega) (Ev.now _))
theorem toSS_l (l : List (List Int)) (hl : l.length ≤ 1048576) (hf : fits2 l) : ∀ (d i : Nat) (x : List (List Int)), x.length = l.length → l.length - i ≤ d → i ≤ l.length → (∀ j, j < i → x[j]? = l[j]?) → Ev (fun k => laws_toInt64SS.l0 k l x (i : Int)) l := by
  have fin : ∀ (i : Nat) (x : List (List Int)), x.length = l.length → (∀ j, j < i → x[j]? = l[j]?) → l.length ≤ i → Ev (fun k => laws_toInt64SS.l0 k l x (i : Int)) l := by
    intro i x hx hj hi
    have e : x = l := by
      apply List.ext_getElem? fun j => ?_
      by_cases h : j < l.length
      · exact hj j (by omega)
      · rw [List.getElem?_eq_none (by omega), List.getElem?_eq_none (by omega)]
    refine Ev.step (fun k => rfl) ?_
    simp only [laws_toInt64SS.l0]
    exact Ev.if_neg (by omega) (Ev.val (Ev.now _) e)
  intro d
  induction d with
  | zero => intro i x hx h h2 hj; exact fin i x hx hj (by omega)
  | succ d ih =>
    intro i x hx h h2 hj
    by_cases g : i < l.length
    · have ew : wrap64 ((i : Int) + 1) = ((i + 1 : Nat) : Int) := by rw [wid (by omega) (by omega)]; omega
      have t1 := toI l[i] (hf _ (List.getElem_mem g))
      refine Ev.step (fun k => rfl) ?_
      simp only [laws_toInt64SS.l0, rdL l i g, ew, Int.toNat_natCast]
      refine Ev.if_pos (by omega) (Ev.if_pos (by omega) (Ev.bind t1 (Ev.if_pos (by omega) ?_)))
      refine ih (i + 1) (x.set i l[i]) (by rw [List.length_set]; exact hx) (by omega) (by omega) (fun j hjl => ?_)
      by_cases e : j = i
      · subst e
        rw [List.getElem?_set_self (by omega), List.getElem?_eq_getElem g]
      · rw [List.getElem?_set_ne (fun e' => e e'.symm)]
        exact hj j (by omega)
    · exact fin i x hx hj (by omega)
theorem toG (p n : Int) (l : List (List Int)) (hl : l.length ≤ 1048576) (hf : fits2 l) : Ev (fun k => laws_toGauss.f k p n l) (p, n, l) := by
  simp only [laws_toGauss.f, laws_toInt64SS.f]
  refine Ev.bind (Ev.if_pos (by omega) (Ev.if_pos (by omega) ?_)) (Ev.now _)
  exact toSS_l l hl hf l.length 0 _ (by simp) (by omega) (by omega) (fun j hj => absurd hj (by omega))
theorem eqSS_l (l : List (List Int)) (hl : l.length ≤ 1048576) (hf : fits2 l) : ∀ (d i : Nat), l.length - i ≤ d → i ≤ l.length → Ev (fun k => laws_eqInt64SS.l0 k l l (i : Int)) true := by
  intro d
  have fin : ∀ i : Nat, l.length ≤ i → Ev (fun k => laws_eqInt64SS.l0 k l l (i : Int)) true := by
    intro i h
    refine Ev.step (fun k => rfl) ?_
    simp only [laws_eqInt64SS.l0]
    exact Ev.if_neg (by omega) (Ev.now _)
  induction d with
  | zero => intro i h h2; exact fin i (by omega)
  | succ d ih =>
    intro i h h2
    by_cases g : i < l.length
    · have ew : wrap64 ((i : Int) + 1) = ((i + 1 : Nat) : Int) := by rw [wid (by omega) (by omega)]; omega
      refine Ev.step (fun k => rfl) ?_
      simp only [laws_eqInt64SS.l0, rdL l i g, ew]
      refine Ev.if_pos (by omega) (Ev.if_pos (by omega) (Ev.if_pos (by omega) (Ev.bind (eqI l[i] l[i] (hf _ (List.getElem_mem g))) ?_)))
      rw [decide_eq_true rfl]
      exact Ev.if_pos rfl (ih (i + 1) (by omega) (by omega))
    · exact fin i (by omega)
theorem eqG (p n : Int) (l : List (List Int)) (hl : l.length ≤ 1048576) (hf : fits2 l) : Ev (fun k => laws_eqGauss.f k p n l p n l) true := by
  simp only [laws_eqGauss.f, laws_eqInt64SS.f]
  refine Ev.if_pos (by first | trivial | rfl) (Ev.if_pos (by first | trivial | rfl) (Ev.bind (Ev.if_pos (by first | trivial | rfl) (eqSS_l l hl hf l.length 0 (by omega) (by omega))) ?_))
  exact Ev.if_pos rfl (Ev.now _)
def zer (x : Int) : Bool := decide (x = 0)
/-- What the reference asks of a number in row i. -/
def okc (i : Nat) (x : Int) : Bool := small 1000000000 x && (decide (¬ i = 0) || zer x)
def rowOk (m : Int) (r : List Int) : Bool := decide ((r.length : Int) = m) && r.all (small 1000000000)
def specB (m : Int) : Nat → List (List Int) → Bool
  | _, [] => true
  | i, r :: rs => decide ((r.length : Int) = m) && (r.all (okc i) && specB m (i + 1) rs)
theorem spec_row (m p n : Int) (l : List (List Int)) (hl : l.length ≤ 1048576) (i : Nat) (hi : i < l.length) (hm : (l[i].length : Int) = m) (hm2 : m ≤ 1000) (b : Bool) (hb : Ev (fun k => spec_l05Is.l0 k m ((i + 1 : Nat) : Int) p n l) b) :
    ∀ (d j : Nat), l[i].length - j ≤ d → j ≤ l[i].length → Ev (fun k => spec_l05Is.l1 k m (i : Int) (j : Int) p n l) ((l[i].drop j).all (okc i) && b) := by
  have ei : wrap64 ((i : Int) + 1) = ((i + 1 : Nat) : Int) := by rw [wid (by omega) (by omega)]; omega
  have fin : ∀ j : Nat, l[i].length ≤ j → Ev (fun k => spec_l05Is.l1 k m (i : Int) (j : Int) p n l) ((l[i].drop j).all (okc i) && b) := by
    intro j h
    refine Ev.step (fun k => rfl) ?_
    simp only [spec_l05Is.l1, ei]
    exact Ev.if_neg (by omega) (Ev.val hb (by rw [List.drop_eq_nil_of_le (by omega)]; rfl))
  intro d
  induction d with
  | zero => intro j h h2; exact fin j (by omega)
  | succ d ih =>
    intro j h h2
    by_cases g : j < l[i].length
    · have ew : wrap64 ((j : Int) + 1) = ((j + 1 : Nat) : Int) := by rw [wid (by omega) (by omega)]; omega
      have e2 : rd l[i] (j : Int) = l[i][j] := by rw [rd_get, List.getD_eq_getElem?_getD, List.getElem?_eq_getElem g, Option.getD_some]
      refine Ev.step (fun k => rfl) ?_
      simp only [spec_l05Is.l1, rdL l i hi, ew, in_eq, Option.bind_some, e2]
      refine Ev.if_pos (by omega) (Ev.if_pos (by omega) (Ev.if_pos (by omega) (Ev.if_pos (by omega) (Ev.if_pos (by omega) ?_))))
      rw [List.drop_eq_getElem_cons g, List.all_cons]
      by_cases z : -1000000000 ≤ l[i][j] ∧ l[i][j] ≤ 1000000000
      · have zs : small 1000000000 l[i][j] = true := decide_eq_true z
        refine Ev.if_pos (by simpa using z) ?_
        by_cases y : i = 0
        · subst y
          have r0 : rd_L1 l 0 = l[0] := rdL l 0 hi
          simp only [r0, show rd l[0] (j : Int) = l[0][j] from e2]
          refine Ev.if_pos (by omega) (Ev.if_pos (by omega) (Ev.if_pos (by omega) ?_))
          by_cases x : l[0][j] = 0
          · exact Ev.if_pos x (Ev.val (ih (j + 1) (by omega) (by omega)) (by simp [okc, zer, zs, x, small]))
          · exact Ev.if_neg x (Ev.val (Ev.now _) (by simp [okc, zer, x]))
        · exact Ev.if_neg (by omega) (Ev.val (ih (j + 1) (by omega) (by omega)) (by simp [okc, zs, y]))
      · exact Ev.if_neg (by simpa using z) (Ev.val (Ev.now _) (by simp [okc, small, z]))
    · exact fin j (by omega)
theorem spec_rows (m p n : Int) (l : List (List Int)) (hl : l.length ≤ 1048576) (hm2 : m ≤ 1000) : ∀ (d i : Nat), l.length - i ≤ d → i ≤ l.length → Ev (fun k => spec_l05Is.l0 k m (i : Int) p n l) (specB m i (l.drop i)) := by
  have fin : ∀ i : Nat, l.length ≤ i → Ev (fun k => spec_l05Is.l0 k m (i : Int) p n l) (specB m i (l.drop i)) := by
    intro i h
    refine Ev.step (fun k => rfl) ?_
    simp only [spec_l05Is.l0]
    exact Ev.if_neg (by omega) (Ev.val (Ev.now _) (by rw [List.drop_eq_nil_of_le (by omega)]; rfl))
  intro d
  induction d with
  | zero => intro i h h2; exact fin i (by omega)
  | succ d ih =>
    intro i h h2
    by_cases g : i < l.length
    · have hb := ih (i + 1) (by omega) (by omega)
      refine Ev.step (fun k => rfl) ?_
      simp only [spec_l05Is.l0, rdL l i g]
      refine Ev.if_pos (by omega) (Ev.if_pos (by omega) ?_)
      rw [List.drop_eq_getElem_cons g]
      by_cases z : (l[i].length : Int) = m
      · refine Ev.if_pos z (Ev.val (spec_row m p n l hl i g z hm2 _ hb l[i].length 0 (by omega) (by omega)) ?_)
        simp [specB, z]
      · exact Ev.if_neg z (Ev.val (Ev.now _) (by simp [specB, z]))
    · exact fin i (by omega)
theorem impl_rows (m p n : Int) (l : List (List Int)) (hl : l.length ≤ 1048576) (h0 : 0 < l.length) : ∀ (d i : Nat), l.length - i ≤ d → i ≤ l.length → Ev (fun k => impl_IsGauss.l0 k m l (l.length : Int) (i : Int) p n l) ((l.drop i).all (rowOk m) && l[0].all zer) := by
  have r0 : rd_L1 l 0 = l[0] := rdL l 0 h0
  have ez : impl_isZero.f l[0] = some (l[0].all zer) := by
    unfold impl_isZero.f
    rw [areSmall_eq _ 0 (by omega) (by omega), Option.bind_some]
    congr 2
    funext x
    unfold small zer
    rw [decide_eq_decide]
    omega
  have fin : ∀ i : Nat, l.length ≤ i → Ev (fun k => impl_IsGauss.l0 k m l (l.length : Int) (i : Int) p n l) ((l.drop i).all (rowOk m) && l[0].all zer) := by
    intro i h
    refine Ev.step (fun k => rfl) ?_
    simp only [impl_IsGauss.l0, r0, ez, Option.bind_some]
    exact Ev.if_neg (by omega) (Ev.if_pos (by omega) (Ev.val (Ev.now _) (by rw [List.drop_eq_nil_of_le (by omega)]; rfl)))
  intro d
  induction d with
  | zero => intro i h h2; exact fin i (by omega)
  | succ d ih =>
    intro i h h2
    by_cases g : i < l.length
    · have ew : wrap64 ((i : Int) + 1) = ((i + 1 : Nat) : Int) := by rw [wid (by omega) (by omega)]; omega
      have hb := ih (i + 1) (by omega) (by omega)
      have ea := areSmall_eq l[i] 1000000000 (by omega) (by omega)
      refine Ev.step (fun k => rfl) ?_
      simp only [impl_IsGauss.l0, rdL l i g, ea, ew, Option.bind_some]
      refine Ev.if_pos (by omega) (Ev.if_pos (by omega) (Ev.if_pos (by omega) ?_))
      rw [List.drop_eq_getElem_cons g, List.all_cons]
      by_cases z : (l[i].length : Int) = m
      · refine Ev.if_pos z ?_
        cases y : l[i].all (small 1000000000) with
        | true => exact Ev.if_pos rfl (Ev.val hb (by simp [rowOk, z, y]))
        | false => exact Ev.if_neg (by simp) (Ev.val (Ev.now _) (by simp [rowOk, y]))
      · exact Ev.if_neg z (Ev.val (Ev.now _) (by simp [rowOk, z]))
    · exact fin i (by omega)
theorem specB_pos (m : Int) : ∀ (l : List (List Int)) (i : Nat), specB m (i + 1) l = l.all (rowOk m) := by
  intro l
  induction l with
  | nil => intro i; rfl
  | cons r rs ih =>
    intro i
    simp only [specB, List.all_cons, ih]
    have : okc (i + 1) = small 1000000000 := by funext x; simp [okc]
    rw [this, rowOk, Bool.and_assoc]
theorem all2 (f g : Int → Bool) : ∀ r : List Int, r.all (fun x => f x && g x) = (r.all f && r.all g) := by
  intro r
  induction r with
  | nil => rfl
  | cons x xs ih =>
    simp only [List.all_cons, ih]
    cases f x <;> cases g x <;> cases xs.all f <;> cases xs.all g <;> rfl
theorem specB_eq (m : Int) (l : List (List Int)) (h0 : 0 < l.length) : specB m 0 l = (l.all (rowOk m) && l[0].all zer) := by
  cases l with
  | nil => simp at h0
  | cons r rs =>
    simp only [specB, specB_pos, List.all_cons, List.getElem_cons_zero]
    have : okc 0 = fun x => small 1000000000 x && zer x := by funext x; simp [okc]
    rw [this, all2, rowOk]
    cases decide ((r.length : Int) = m) <;> cases r.all (small 1000000000) <;> cases r.all zer <;> cases rs.all (rowOk m) <;> rfl
theorem both (p n : Int) (l : List (List Int)) (hp : p ≤ 9223372036854775807) (hl : l.length ≤ 1048576) : ∃ b : Bool, Ev (fun k => spec_IsGauss.f k p n l) b ∧ Ev (fun k => impl_IsGauss.f k p n l) b := by
  have hs := prime_spec p
  have hi := prime_impl p hp
  have js : Ev (fun k => spec_l05Is.j0 k true p n l) false := Ev.step (fun k => rfl) (Ev.const fun _ => rfl)
  have ji : Ev (fun k => impl_IsGauss.j0 k true p n l) false := Ev.step (fun k => rfl) (Ev.const fun _ => rfl)
  suffices h : ∃ b : Bool, Ev (fun k => spec_l05Is.f k p n l) b ∧ Ev (fun k => impl_IsGauss.f k p n l) b by
    obtain ⟨b, s, t⟩ := h
    simp only [spec_IsGauss.f]
    exact ⟨b, Ev.bind s (Ev.now _), t⟩
  simp only [spec_l05Is.f, impl_IsGauss.f, impl_isOrder.f, in_eq, within_eq, Option.bind_some]
  cases hP : isP p with
  | false =>
    rw [hP] at hs hi
    exact ⟨false, Ev.bind hs (Ev.if_neg (by simp) js), Ev.bind hi (Ev.if_neg (by simp) ji)⟩
  | true =>
    have hr := isP_range hP
    rw [hP] at hs hi
    by_cases z : 1 ≤ n ∧ n ≤ 16
    · rw [decide_eq_true z]
      by_cases y : (l.length : Int) = p
      · have e : ((l.length : Int) != p) = false := by simp [y]
        rw [e]
        have h0 : 0 < l.length := by omega
        have hph := phiT_le n z
        have s1 := spec_rows (phiT n) p n l hl (by omega) l.length 0 (by omega) (by omega)
        have t1 := impl_rows (phiT n) p n l hl h0 l.length 0 (by omega) (by omega)
        rw [List.drop_zero, specB_eq _ l h0] at s1
        rw [List.drop_zero] at t1
        refine ⟨l.all (rowOk (phiT n)) && l[0].all zer, Ev.bind hs (Ev.if_pos rfl (Ev.if_pos rfl (Ev.step (fun k => rfl) ?_))), Ev.bind hi (Ev.if_pos rfl (Ev.if_pos rfl (Ev.step (fun k => rfl) ?_)))⟩
        · simp only [spec_l05Is.j0]
          exact Ev.if_neg (by simp) (Ev.bind (phi_spec n z) s1)
        · simp only [impl_IsGauss.j0]
          exact Ev.if_neg (by simp) (Ev.bind (phi_impl n z) t1)
      · have e : ((l.length : Int) != p) = true := by simp [y]
        rw [e]
        exact ⟨false, Ev.bind hs (Ev.if_pos rfl (Ev.if_pos rfl js)), Ev.bind hi (Ev.if_pos rfl (Ev.if_pos rfl ji))⟩
    · rw [decide_eq_false z]
      exact ⟨false, Ev.bind hs (Ev.if_pos rfl (Ev.if_neg (by simp) js)), Ev.bind hi (Ev.if_pos rfl (Ev.if_neg (by simp) ji))⟩
theorem FnExactIsGauss : laws_FnExactIsGauss.Pure := by
  intro p n l hp hn hl hr
  obtain ⟨b1, b2⟩ := wfb hp
  refine Ev.rounds (g := fun k => laws_FnExactIsGauss.f k p n l) ?_
  obtain ⟨t, e1, e2⟩ := sz_ev p n l hl (fun x hx => (hr x hx).1)
  simp only [laws_FnExactIsGauss.f]
  by_cases z : t < 0
  · exact Ev.bind e1 (Ev.if_pos z (Ev.now _))
  · rcases e2 with e2 | ⟨e2, e3⟩
    · exact absurd e2 z
    obtain ⟨b, s, i⟩ := both p n l b2 e2
    have tg := toG p n l e2 e3
    refine Ev.bind e1 (Ev.if_neg z (Ev.bind tg (Ev.bind s (Ev.bind tg (Ev.bind i ?_)))))
    simp only [bne_self_eq_false]
    exact Ev.if_neg (by simp) (Ev.bind tg (Ev.bind (eqG p n l e2 e3) (Ev.if_pos rfl (Ev.now _))))

end Go.Proofs.Ytpeokcbjbjjmpaa.Pure
