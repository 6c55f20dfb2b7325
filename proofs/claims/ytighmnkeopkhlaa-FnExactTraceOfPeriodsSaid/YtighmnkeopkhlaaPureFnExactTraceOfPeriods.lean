/- The trace of a sum of periods, as the program and as the reference tell it, for all arguments. No condition. -/
import Derived.Test.YtighmnkeopkhlaaXFnExactTraceOfPeriodsx4
namespace Go.Proofs.Ytighmnkeopkhlaa.Pure
open Go.RowKit Go.Proofs.Ytighmnkeopkhlaa.XFnExactTraceOfPeriods Go.Proofs.YtighmnkeopkhlaaW.PrintWords Go.Proofs.YtighmnkeopkhlaaW.PrintLast
set_option linter.unusedVariables false
set_option linter.unusedSimpArgs false

theorem wfb {a : Int} (h : (Lit.int .i64 a).wf = true) : -9223372036854775808 ≤ a ∧ a ≤ 9223372036854775807 := by
  simp only [Lit.wf, IntKind.min, IntKind.max, IntKind.signed, IntKind.bits, Bool.and_eq_true, decide_eq_true_eq, if_true] at h
  omega
theorem wid {a : Int} (h1 : -9223372036854775808 ≤ a) (h2 : a ≤ 9223372036854775807) : wrap64 a = a := by
  unfold wrap64; omega
theorem Ev.const {α : Type} {g : Nat → Option α} {r : α} (h : ∀ k, g k = some r) : Ev g r := ⟨0, fun k _ => h k⟩
theorem Ev.if_pos {α : Type} {c : Prop} [Decidable c] {f g : Nat → Option α} {r : α} (hc : c) (h : Ev f r) : Ev (fun k => if c then f k else g k) r :=
  Ev.congr (fun k => _root_.if_pos hc) h
theorem Ev.if_neg {α : Type} {c : Prop} [Decidable c] {f g : Nat → Option α} {r : α} (hc : ¬ c) (h : Ev g r) : Ev (fun k => if c then f k else g k) r :=
  Ev.congr (fun k => _root_.if_neg hc) h
theorem Ev.val {α : Type} {f : Nat → Option α} {r s : α} (h : Ev f r) (e : r = s) : Ev f s := e ▸ h
theorem within_eq (a b c : Int) : impl_within.f a b c = some (decide (b ≤ a ∧ a ≤ c)) := by
  unfold impl_within.f
  by_cases h : b ≤ a <;> simp [h]
theorem in_eq (a b c : Int) : spec_l01In.f a b c = some (decide (b ≤ a ∧ a ≤ c)) := by
  unfold spec_l01In.f
  by_cases h : b ≤ a <;> simp [h]
def isP (p : Int) : Bool := [3, 5, 7, 11, 13, 17, 19, 23, 29, 31, 37, 41, 43, 47, 53, 59, 61].contains p
theorem isP_range {p : Int} (h : isP p = true) : 3 ≤ p ∧ p ≤ 61 := by
  simp [isP] at h; omega
theorem isP_out {p : Int} (h : ¬ (3 ≤ p ∧ p ≤ 61)) : isP p = false := by
  cases e : isP p with
  | false => rfl
  | true => exact absurd (isP_range e) h
theorem prime_in : ∀ n : Nat, n < 62 → 3 ≤ n → impl_isPrime.f 10 (n : Int) = some (isP (n : Int)) ∧ spec_l06Prime.f 10 (n : Int) = some (isP (n : Int)) := by decide +kernel
theorem prime_out_l (p : Int) (hp : 62 ≤ p) (hp2 : p ≤ 9223372036854775807) : ∀ (n : Nat) (d : Int), 2 ≤ d → d ≤ p → p - d ≤ n → impl_isPrime.l0 (n + 1) p d = some false := by
  have hw : impl_within.f p 3 61 = some false := by rw [within_eq, decide_eq_false (by omega)]
  intro n
  induction n with
  | zero =>
    intro d h1 h2 h3
    obtain rfl : d = p := by omega
    simp only [impl_isPrime.l0]
    split
    · rw [if_neg (by omega), if_pos (Int.tmod_self)]
    · rw [hw]; rfl
  | succ n ih =>
    intro d h1 h2 h3
    rw [impl_isPrime.l0]
    split
    · rw [if_neg (by omega)]
      by_cases e : Int.tmod p d = 0
      · rw [if_pos e]
      · rw [if_neg e]
        have hd : d ≠ p := fun e' => e (by rw [e']; exact Int.tmod_self)
        rw [wid (by omega) (by omega)]
        exact ih (d + 1) (by omega) (by omega) (by omega)
    · rw [hw]; rfl
theorem prime_impl (p : Int) (hp : p ≤ 9223372036854775807) : Ev (fun k => impl_isPrime.f k p) (isP p) := by
  by_cases h : 3 ≤ p ∧ p ≤ 61
  · obtain ⟨n, rfl⟩ := Int.eq_ofNat_of_zero_le (show 0 ≤ p by omega)
    exact Ev.of (impl_isPrime.mono _) (prime_in n (by omega) (by omega)).1
  · rw [isP_out h]
    by_cases h2 : p < 3
    · refine ⟨1, fun k hk => ?_⟩
      obtain ⟨k, rfl⟩ : ∃ m, k = m + 1 := ⟨k - 1, by omega⟩
      show impl_isPrime.f (k + 1) p = some false
      unfold impl_isPrime.f
      rw [impl_isPrime.l0, if_neg (by rw [wid (by omega) (by omega)]; omega), within_eq, decide_eq_false (by omega)]
      rfl
    · refine Ev.of (impl_isPrime.mono _) (k := (p - 2).toNat + 1) ?_
      exact prime_out_l p (by omega) hp _ 2 (by omega) (by omega) (by omega)
theorem prime_spec (p : Int) : Ev (fun k => spec_l06Prime.f k p) (isP p) := by
  by_cases h : 3 ≤ p ∧ p ≤ 61
  · obtain ⟨n, rfl⟩ := Int.eq_ofNat_of_zero_le (show 0 ≤ p by omega)
    exact Ev.of (spec_l06Prime.mono _) (prime_in n (by omega) (by omega)).2
  · rw [isP_out h]
    refine Ev.const (fun k => ?_)
    unfold spec_l06Prime.f
    rw [in_eq, decide_eq_false h]
    rfl

theorem rd_get (l : List Int) (i : Nat) : rd l (i : Int) = l.getD i 0 := by simp [rd]
/-- Are there such classes? -/
def okPE (p e : Int) : Bool := isP p && (decide (1 ≤ e ∧ e ≤ 12) && decide (Int.tmod (p - 1) e = 0))
set_option maxHeartbeats 20000000 in
theorem per_no (p e : Int) (hp : p ≤ 9223372036854775807) (h : okPE p e = false) : Ev (fun k => impl_periodsOf.f k p e) (0, 0, 0, [], false) := by
  have hj : Ev (fun k => impl_periodsOf.j0 k p e true) (0, 0, 0, [], false) := Ev.step (fun k => rfl) (Ev.const fun _ => rfl)
  have hi := prime_impl p hp
  simp only [impl_periodsOf.f, within_eq, Option.bind_some]
  cases hP : isP p with
  | false =>
    rw [hP] at hi
    exact Ev.bind hi (Ev.if_neg (by simp) hj)
  | true =>
    rw [hP] at hi
    have hr := isP_range hP
    refine Ev.bind hi (Ev.if_pos rfl ?_)
    by_cases he : 1 ≤ e ∧ e ≤ 12
    · refine Ev.if_pos (by simpa using he) (Ev.if_neg (by omega) ?_)
      rw [wid (by omega) (by omega)]
      have : ¬ Int.tmod (p - 1) e = 0 := fun z => by simp [okPE, hP, he, z] at h
      rw [show (Int.tmod (p - 1) e != 0) = true from by simpa using this]
      exact hj
    · exact Ev.if_neg (by simpa using he) hj
def btw (a b x : Int) : Bool := decide (a ≤ x ∧ x ≤ b)
theorem pcode_l (e : Int) (he : 1 ≤ e ∧ e ≤ 12) (l : List Int) (hl : l.length ≤ 1000) : ∀ (d i : Nat), l.length - i ≤ d → i ≤ l.length → Ev (fun k => spec_l06Code.l0 k e l (i : Int)) (if (l.drop i).all (btw 0 (e - 1)) = true then 0 else 2) := by
  intro d
  induction d with
  | zero =>
    intro i h h2
    refine Ev.step (fun k => rfl) ?_
    simp only [spec_l06Code.l0]
    exact Ev.if_neg (by omega) (Ev.val (Ev.now _) (by rw [List.drop_eq_nil_of_le (by omega)]; rfl))
  | succ d ih =>
    intro i h h2
    refine Ev.step (fun k => rfl) ?_
    by_cases g : i < l.length
    · have ew : wrap64 ((i : Int) + 1) = ((i + 1 : Nat) : Int) := by rw [wid (by omega) (by omega)]; omega
      have e2 : rd l (i : Int) = l[i] := by rw [rd_get, List.getD_eq_getElem?_getD, List.getElem?_eq_getElem g, Option.getD_some]
      simp only [spec_l06Code.l0, ew, in_eq, Option.bind_some, e2, wid (show -9223372036854775808 ≤ e - 1 by omega) (show e - 1 ≤ 9223372036854775807 by omega)]
      refine Ev.if_pos (by omega) (Ev.if_pos (by omega) ?_)
      rw [List.drop_eq_getElem_cons g, List.all_cons]
      by_cases z : 0 ≤ l[i] ∧ l[i] ≤ e - 1
      · exact Ev.if_pos (by simpa using z) (Ev.val (ih (i + 1) (by omega) (by omega)) (by simp [btw, z]))
      · exact Ev.if_neg (by simpa using z) (Ev.val (Ev.now _) (by simp [btw, z]))
    · simp only [spec_l06Code.l0]
      exact Ev.if_neg (by omega) (Ev.val (Ev.now _) (by rw [List.drop_eq_nil_of_le (by omega)]; rfl))
/-- The reference's code for a prime, a divisor and numbers less than it. -/
theorem pcode_ev (p e : Int) (l : List Int) (hl : l.length ≤ 1000) : Ev (fun k => spec_l06Code.f k p e l) (if (okPE p e && l.all (btw 0 (e - 1))) = true then 0 else 2) := by
  have hj : ∀ l, Ev (fun k => spec_l06Code.j0 k e l true) 2 := fun l => Ev.step (fun k => rfl) (Ev.const fun _ => rfl)
  have hs := prime_spec p
  simp only [spec_l06Code.f, in_eq, Option.bind_some]
  cases hP : isP p with
  | false =>
    rw [hP] at hs
    exact Ev.bind hs (Ev.if_neg (by simp) (Ev.val (hj _) (by simp [okPE, hP])))
  | true =>
    rw [hP] at hs
    have hr := isP_range hP
    refine Ev.bind hs (Ev.if_pos rfl ?_)
    by_cases he : 1 ≤ e ∧ e ≤ 12
    · refine Ev.if_pos (by simpa using he) (Ev.if_neg (by omega) ?_)
      rw [wid (by omega) (by omega)]
      by_cases z : Int.tmod (p - 1) e = 0
      · have hz : okPE p e = true := by simp [okPE, hP, he, z]
        rw [hz, Bool.true_and]
        simp only [z, bne_self_eq_false]
        refine Ev.step (fun k => rfl) ?_
        simp only [spec_l06Code.j0]
        refine Ev.if_neg (by simp) ?_
        have h := pcode_l e he l hl l.length 0 (by omega) (by omega)
        rw [List.drop_zero] at h
        exact h
      · have : (Int.tmod (p - 1) e != 0) = true := by simp [z]
        rw [this]
        exact Ev.val (hj _) (by simp [okPE, z])
    · exact Ev.if_neg (by simpa using he) (Ev.val (hj _) (by simp [okPE, he]))
theorem code0_ev (p e : Int) : Ev (fun k => spec_l06Code.f k p e []) (if okPE p e = true then 0 else 2) := Ev.val (pcode_ev p e [] (by simp)) (by simp)
theorem okPE_b {p e : Int} (h : okPE p e = true) : (3 ≤ p ∧ p ≤ 61) ∧ 1 ≤ e ∧ e ≤ 12 := by
  simp only [okPE, Bool.and_eq_true, decide_eq_true_eq] at h
  exact ⟨isP_range h.1, h.2.1⟩


theorem eqI_l (a b : List Int) (h : a.length = b.length) (ha : a.length ≤ 1048576) : ∀ (n i : Nat), i ≤ a.length → (∀ j, j < i → a[j]? = b[j]?) → a.length - i ≤ n → laws_eqInt64S.l0 (n + 1) a b (i : Int) = some (decide (a = b)) := by
  have fin : ∀ i : Nat, (∀ j, j < i → a[j]? = b[j]?) → a.length ≤ i → a = b := by
    intro i hj hi
    apply List.ext_getElem? fun j => ?_
    by_cases h' : j < a.length
    · exact hj j (by omega)
    · rw [List.getElem?_eq_none (by omega), List.getElem?_eq_none (by omega)]
  intro n
  induction n with
  | zero =>
    intro i hi hj hn
    rw [laws_eqInt64S.l0, if_neg (by omega), decide_eq_true (fin i hj (by omega))]
  | succ n ih =>
    intro i hi hj hn
    rw [laws_eqInt64S.l0]
    by_cases h' : i < a.length
    · rw [if_pos (by omega), if_pos (by omega), if_pos (by omega), rd_get, rd_get, wid (by omega) (by omega)]
      have ga : a[i]? = some (a.getD i 0) := by rw [List.getD_eq_getElem?_getD, List.getElem?_eq_getElem h']; rfl
      have gb : b[i]? = some (b.getD i 0) := by rw [List.getD_eq_getElem?_getD, List.getElem?_eq_getElem (by omega : i < b.length)]; rfl
      by_cases e : a.getD i 0 = b.getD i 0
      · rw [if_pos e]
        have := ih (i + 1) (by omega) (fun j hjlt => ?_) (by omega)
        · simpa using this
        · by_cases e' : j = i
          · rw [e', ga, gb, e]
          · exact hj j (by omega)
      · rw [if_neg e, decide_eq_false]
        intro e'
        exact e (by rw [e'])
    · rw [if_neg (by omega), decide_eq_true (fin i hj (by omega))]
/-- Two lists are held against each other. -/
theorem eqI (a b : List Int) (ha : a.length ≤ 1048576) : Ev (fun k => laws_eqInt64S.f k a b) (decide (a = b)) := by
  refine Ev.of (laws_eqInt64S.mono a b) (k := a.length + 1) ?_
  unfold laws_eqInt64S.f
  by_cases h : a.length = b.length
  · rw [if_pos (by omega)]
    exact eqI_l a b h ha a.length 0 (by omega) (fun j hj => absurd hj (by omega)) (by omega)
  · rw [if_neg (by omega), decide_eq_false]
    intro e
    exact h (by rw [e])

theorem toI_l (l : List Int) (hl : l.length ≤ 1048576) : ∀ (n i : Nat) (x : List Int), x.length = l.length → i ≤ l.length → (∀ j, j < i → x[j]? = l[j]?) → l.length - i ≤ n → laws_toInt64S.l0 (n + 1) l x (i : Int) = some l := by
  have fin : ∀ (i : Nat) (x : List Int), x.length = l.length → (∀ j, j < i → x[j]? = l[j]?) → l.length ≤ i → x = l := by
    intro i x hx hj hi
    apply List.ext_getElem? fun j => ?_
    by_cases h : j < l.length
    · exact hj j (by omega)
    · rw [List.getElem?_eq_none (by omega), List.getElem?_eq_none (by omega)]
  intro n
  induction n with
  | zero =>
    intro i x hx hi hj hn
    rw [laws_toInt64S.l0, if_neg (by omega), fin i x hx hj (by omega)]
  | succ n ih =>
    intro i x hx hi hj hn
    rw [laws_toInt64S.l0]
    by_cases h : i < l.length
    · rw [if_pos (by omega), if_pos (by omega), if_pos (by omega), wid (by omega) (by omega)]
      have := ih (i + 1) (x.set i (rd l (i : Int))) (by simpa using hx) (by omega) (fun j hjlt => ?_) (by omega)
      · simpa using this
      · by_cases e : j = i
        · subst e
          rw [List.getElem?_set_self (by omega), rd_get, List.getD_eq_getElem?_getD, List.getElem?_eq_getElem h]
          rfl
        · rw [List.getElem?_set_ne (fun e' => e e'.symm)]
          exact hj j (by omega)
    · rw [if_neg (by omega), fin i x hx hj (by omega)]
theorem toI (l : List Int) (hl : l.length ≤ 1048576) : Ev (fun k => laws_toInt64S.f k l) l := by
  refine Ev.of (laws_toInt64S.mono l) (k := l.length + 1) ?_
  unfold laws_toInt64S.f
  rw [if_pos (by omega), if_pos (by simp; omega)]
  exact toI_l l hl l.length 0 _ (by simp) (by omega) (fun j hj => absurd hj (by omega)) (by omega)
def small (m x : Int) : Bool := decide (-m ≤ x ∧ x ≤ m)
theorem areSmall_eq (l : List Int) (m : Int) (h0 : 0 ≤ m) (h1 : m ≤ 9223372036854775807) : impl_areSmall.f l m = some (l.all (small m)) := by
  unfold impl_areSmall.f
  rw [wid (by omega) (by omega)]
  rfl
def perYes (p e : Nat) : Bool :=
  match impl_periodsOf.f 500 (p : Int) (e : Int) with
  | some (_, _, _, _, true) => true
  | _ => false
set_option maxHeartbeats 20000000 in
theorem yes_all : ∀ p : Nat, p < 62 → isP (p : Int) = true → ∀ e : Nat, e < 13 → 1 ≤ e → Int.tmod ((p : Int) - 1) (e : Int) = 0 → perYes p e = true := by decide +kernel
theorem yes_ev (p e : Int) (h : okPE p e = true) : ∃ a b c l, Ev (fun k => impl_periodsOf.f k p e) (a, b, c, l, true) := by
  simp only [okPE, Bool.and_eq_true, decide_eq_true_eq] at h
  obtain ⟨hP, he, hm⟩ := h
  have hr := isP_range hP
  obtain ⟨q, rfl⟩ := Int.eq_ofNat_of_zero_le (show 0 ≤ p by omega)
  obtain ⟨f, rfl⟩ := Int.eq_ofNat_of_zero_le (show 0 ≤ e by omega)
  have hk := yes_all q (by omega) hP f (by omega) (by omega) hm
  unfold perYes at hk
  split at hk
  · rename_i a b c l h1
    exact ⟨a, b, c, l, Ev.of (impl_periodsOf.mono _ _) h1⟩
  · exact absurd hk (by simp)
theorem sum_l1 (e : Int) (l : List Int) (hl : l.length ≤ 1048576) : ∀ (d i : Nat), l.length - i ≤ d → i ≤ l.length → Ev (fun k => spec_l06Sum.l1 k e [l] 0 (i : Int)) (if (l.drop i).all (small 1000) = true then 0 else 2) := by
  have r0 : rd_L1 [l] 0 = l := rfl
  have fin : ∀ i : Nat, l.length ≤ i → Ev (fun k => spec_l06Sum.l1 k e [l] 0 (i : Int)) (if (l.drop i).all (small 1000) = true then 0 else 2) := by
    intro i h
    refine Ev.step (fun k => rfl) ?_
    simp only [spec_l06Sum.l1, r0]
    refine Ev.if_pos (by omega) (Ev.if_pos (by simp) (Ev.if_neg (by omega) (Ev.step (fun k => rfl) ?_)))
    simp only [spec_l06Sum.l0]
    exact Ev.if_neg (by simp [wrap64]) (Ev.val (Ev.now _) (by rw [List.drop_eq_nil_of_le (by omega)]; rfl))
  intro d
  induction d with
  | zero => intro i h h2; exact fin i (by omega)
  | succ d ih =>
    intro i h h2
    by_cases g : i < l.length
    · have ew : wrap64 ((i : Int) + 1) = ((i + 1 : Nat) : Int) := by rw [wid (by omega) (by omega)]; omega
      have e2 : rd l (i : Int) = l[i] := by rw [rd_get, List.getD_eq_getElem?_getD, List.getElem?_eq_getElem g, Option.getD_some]
      refine Ev.step (fun k => rfl) ?_
      simp only [spec_l06Sum.l1, r0, ew, in_eq, Option.bind_some, e2]
      refine Ev.if_pos (by omega) (Ev.if_pos (by simp) (Ev.if_pos (by omega) (Ev.if_pos (by omega) ?_)))
      rw [List.drop_eq_getElem_cons g, List.all_cons]
      by_cases z : -1000 ≤ l[i] ∧ l[i] ≤ 1000
      · exact Ev.if_pos (by simpa using z) (Ev.val (ih (i + 1) (by omega) (by omega)) (by simp [small, z]))
      · exact Ev.if_neg (by simpa using z) (Ev.val (Ev.now _) (by simp [small, z]))
    · exact fin i (by omega)
def okSum (p e : Int) (l : List Int) : Bool := okPE p e && (decide ((l.length : Int) = e) && l.all (small 1000))
theorem sum_ev (p e : Int) (l : List Int) (hl : l.length ≤ 1048576) : Ev (fun k => spec_l06Sum.f k p e [l]) (if okSum p e l = true then 0 else 2) := by
  have hc := code0_ev p e
  have r0 : rd_L1 [l] 0 = l := rfl
  simp only [spec_l06Sum.f]
  cases h : okPE p e with
  | false =>
    rw [h] at hc
    exact Ev.bind hc (Ev.if_neg (by simp) (Ev.val (Ev.now _) (by simp [okSum, h])))
  | true =>
    rw [h] at hc
    refine Ev.bind hc (Ev.if_pos rfl (Ev.step (fun k => rfl) ?_))
    simp only [spec_l06Sum.l0, r0]
    refine Ev.if_pos (by simp) (Ev.if_pos (by omega) ?_)
    by_cases z : (l.length : Int) = e
    · refine Ev.if_pos z (Ev.val (sum_l1 e l hl l.length 0 (by omega) (by omega)) ?_)
      rw [List.drop_zero]
      simp [okSum, h, z]
    · exact Ev.if_neg z (Ev.val (Ev.now _) (by simp [okSum, h, z]))
theorem isum_ev (e : Int) (l : List Int) : Ev (fun k => impl_isPeriodSum.f k e [l]) (decide ((l.length : Int) = e) && l.all (small 1000)) := by
  have r0 : rd_L1 [l] 0 = l := rfl
  simp only [impl_isPeriodSum.f]
  refine Ev.step (fun k => rfl) ?_
  simp only [impl_isPeriodSum.l0, r0]
  refine Ev.if_pos (by simp) (Ev.if_pos (by omega) (Ev.if_pos (by simp) ?_))
  by_cases z : (l.length : Int) = e
  · refine Ev.if_pos z ?_
    simp only [areSmall_eq l 1000 (by omega) (by omega), Option.bind_some]
    cases y : l.all (small 1000) with
    | false => exact Ev.if_neg (by simp) (Ev.val (Ev.now _) (by simp))
    | true =>
      refine Ev.if_pos rfl (Ev.step (fun k => rfl) ?_)
      simp only [impl_isPeriodSum.l0]
      exact Ev.if_neg (by simp [wrap64]) (Ev.val (Ev.now _) (by simp [z]))
  · exact Ev.if_neg z (Ev.val (Ev.now _) (by simp [z]))
theorem loops (l : List Int) (hl : l.length ≤ 1048576) : ∀ (d i : Nat) (acc : Int), l.length - i ≤ d → i ≤ l.length → ∃ r : Int × Int, Ev (fun k => spec_TraceOfPeriods.l0 k l acc (i : Int)) r ∧ Ev (fun k => impl_TraceOfPeriods.l0 k acc l (l.length : Int) (i : Int)) r := by
  intro d
  have fin : ∀ (i : Nat) (acc : Int), l.length ≤ i → ∃ r : Int × Int, Ev (fun k => spec_TraceOfPeriods.l0 k l acc (i : Int)) r ∧ Ev (fun k => impl_TraceOfPeriods.l0 k acc l (l.length : Int) (i : Int)) r := by
    intro i acc h
    refine ⟨(acc, 0), Ev.step (fun k => rfl) ?_, Ev.step (fun k => rfl) ?_⟩
    · simp only [spec_TraceOfPeriods.l0]; exact Ev.if_neg (by omega) (Ev.now _)
    · simp only [impl_TraceOfPeriods.l0]; exact Ev.if_neg (by omega) (Ev.now _)
  induction d with
  | zero => intro i acc h h2; exact fin i acc (by omega)
  | succ d ih =>
    intro i acc h h2
    by_cases g : i < l.length
    · have ew : wrap64 ((i : Int) + 1) = ((i + 1 : Nat) : Int) := by rw [wid (by omega) (by omega)]; omega
      obtain ⟨r, s, t⟩ := ih (i + 1) (wrap64 (acc - rd l (i : Int))) (by omega) (by omega)
      refine ⟨r, Ev.step (fun k => rfl) ?_, Ev.step (fun k => rfl) ?_⟩
      · simp only [spec_TraceOfPeriods.l0, ew]
        exact Ev.if_pos (by omega) (Ev.if_pos (by omega) s)
      · simp only [impl_TraceOfPeriods.l0, ew]
        exact Ev.if_pos (by omega) (Ev.if_pos (by omega) (Ev.if_pos (by omega) t))
    · exact fin i acc (by omega)
theorem FnExactTraceOfPeriods : laws_FnExactTraceOfPeriods.Pure := by
  intro p e l hp he _ _ _
  obtain ⟨b1, b2⟩ := wfb hp
  refine Ev.rounds (g := fun k => laws_FnExactTraceOfPeriods.f k p e l) ?_
  simp only [laws_FnExactTraceOfPeriods.f]
  by_cases c1 : (l.length : Int) > 1048576
  · exact Ev.if_pos c1 (Ev.now _)
  refine Ev.if_neg c1 ?_
  have t1 := toI l (by omega)
  obtain ⟨r, s, t⟩ : ∃ r : Int × Int, Ev (fun k => spec_TraceOfPeriods.f k p e l) r ∧ Ev (fun k => impl_TraceOfPeriods.f k p e l) r := by
    have hs := sum_ev p e l (by omega)
    have hi := isum_ev e l
    have hj : Ev (fun k => impl_TraceOfPeriods.j0 k l true) (0, 2) := Ev.step (fun k => rfl) (Ev.const fun _ => rfl)
    simp only [spec_TraceOfPeriods.f, impl_TraceOfPeriods.f]
    cases h : okPE p e with
    | false =>
      have hn := per_no p e b2 h
      simp only [okSum, h, Bool.false_and, Bool.false_eq_true, if_false] at hs
      exact ⟨(0, 2), Ev.bind hs (Ev.if_neg (by simp) (Ev.now _)), Ev.bind hn (Ev.if_neg (by simp) hj)⟩
    | true =>
      obtain ⟨a, b, c, q, hy⟩ := yes_ev p e h
      simp only [okSum, h, Bool.true_and] at hs
      cases z : (decide ((l.length : Int) = e) && l.all (small 1000)) with
      | false =>
        rw [z] at hs hi
        exact ⟨(0, 2), Ev.bind hs (Ev.if_neg (by simp) (Ev.now _)), Ev.bind hy (Ev.if_pos rfl (Ev.bind hi hj))⟩
      | true =>
        rw [z] at hs hi
        obtain ⟨r, s, t⟩ := loops l (by omega) l.length 0 0 (by omega) (by omega)
        refine ⟨r, Ev.bind hs (Ev.if_pos rfl s), Ev.bind hy (Ev.if_pos rfl (Ev.bind hi (Ev.step (fun k => rfl) ?_)))⟩
        simp only [impl_TraceOfPeriods.j0]
        exact Ev.if_neg (by simp) t
  refine Ev.bind t1 (Ev.bind s (Ev.bind t1 (Ev.bind t (Ev.if_pos rfl ?_))))
  simp only [bne_self_eq_false]
  refine Ev.step (fun k => rfl) ?_
  simp only [laws_FnExactTraceOfPeriods.j0]
  refine Ev.if_neg (by simp) (Ev.bind t1 (Ev.bind (eqI l l (by omega)) ?_))
  simp only [decide_true]
  exact Ev.if_pos (by first | trivial | rfl) (Ev.now _)

end Go.Proofs.Ytighmnkeopkhlaa.Pure
