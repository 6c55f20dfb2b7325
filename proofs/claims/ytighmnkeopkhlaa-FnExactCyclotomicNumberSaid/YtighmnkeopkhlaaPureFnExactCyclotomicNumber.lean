/- A cyclotomic number, as the program and as the reference tell it, for all arguments. No condition. -/
import Derived.Test.YtighmnkeopkhlaaXFnExactCyclotomicNumberx4
namespace Go.Proofs.Ytighmnkeopkhlaa.Pure
open Go.RowKit Go.Proofs.Ytighmnkeopkhlaa.XFnExactCyclotomicNumber Go.Proofs.YtighmnkeopkhlaaW.PrintWords Go.Proofs.YtighmnkeopkhlaaW.PrintLast
set_option linter.unusedVariables false
set_option linter.unusedSimpArgs false

theorem wfb {a : Int} (h : (Lit.int .i64 a).wf = true) : -9223372036854775808 ≤ a ∧ a ≤ 9223372036854775807 := by
  simp only [Lit.wf, IntKind.min, IntKind.max, IntKind.signed, IntKind.bits, Bool.and_eq_true, decide_eq_true_eq, if_true] at h
  omega
theorem wid {a : Int} (h1 : -9223372036854775808 ≤ a) (h2 : a ≤ 9223372036854775807) : wrap64 a = a := by
  unfold wrap64; omega
theorem Ev.const {α : Type} {g : Nat → Option α} {r : α} (h : ∀ k, g k = some r) : Ev g r := ⟨0, fun k _ => h k⟩
theorem Ev.if_pos {α : Type} {c : Prop} [Decidable c] {f g : Nat → Option α} {r : α} (hc : c) (h : Ev f r) : Ev (fun k => if c then f k else g k) r :=
  Ev.congr (fun k => _root_.if_pos hc) h
theorem Ev.if_neg {α : Type} {c : Prop} [Decidable c] {f g : Nat → Option α} {r : α} (hc : ¬ c) (h : Ev g r) : Ev (fun k => if c then f k else g k) r :=
  Ev.congr (fun k => _root_.if_neg hc) h
theorem Ev.val {α : Type} {f : Nat → Option α} {r s : α} (h : Ev f r) (e : r = s) : Ev f s := e ▸ h
theorem within_eq (a b c : Int) : impl_within.f a b c = some (decide (b ≤ a ∧ a ≤ c)) := by
  unfold impl_within.f
  by_cases h : b ≤ a <;> simp [h]
theorem in_eq (a b c : Int) : spec_l01In.f a b c = some (decide (b ≤ a ∧ a ≤ c)) := by
  unfold spec_l01In.f
  by_cases h : b ≤ a <;> simp [h]
def isP (p : Int) : Bool := [3, 5, 7, 11, 13, 17, 19, 23, 29, 31, 37, 41, 43, 47, 53, 59, 61].contains p
theorem isP_range {p : Int} (h : isP p = true) : 3 ≤ p ∧ p ≤ 61 := by
  simp [isP] at h; omega
theorem isP_out {p : Int} (h : ¬ (3 ≤ p ∧ p ≤ 61)) : isP p = false := by
  cases e : isP p with
  | false => rfl
  | true => exact absurd (isP_range e) h
theorem prime_in : ∀ n : Nat, n < 62 → 3 ≤ n → impl_isPrime.f 10 (n : Int) = some (isP (n : Int)) ∧ spec_l06Prime.f 10 (n : Int) = some (isP (n : Int)) := by decide +kernel
theorem prime_out_l (p : Int) (hp : 62 ≤ p) (hp2 : p ≤ 9223372036854775807) : ∀ (n : Nat) (d : Int), 2 ≤ d → d ≤ p → p - d ≤ n → impl_isPrime.l0 (n + 1) p d = some false := by
  have hw : impl_within.f p 3 61 = some false := by rw [within_eq, decide_eq_false (by omega)]
  intro n
  induction n with
  | zero =>
    intro d h1 h2 h3
    obtain rfl : d = p := by omega
    simp only [impl_isPrime.l0]
    split
    · rw [if_neg (by omega), if_pos (Int.tmod_self)]
    · rw [hw]; rfl
  | succ n ih =>
    intro d h1 h2 h3
    rw [impl_isPrime.l0]
    split
    · rw [if_neg (by omega)]
      by_cases e : Int.tmod p d = 0
      · rw [if_pos e]
      · rw [if_neg e]
        have hd : d ≠ p := fun e' => e (by rw [e']; exact Int.tmod_self)
        rw [wid (by omega) (by omega)]
        exact ih (d + 1) (by omega) (by omega) (by omega)
    · rw [hw]; rfl
theorem prime_impl (p : Int) (hp : p ≤ 9223372036854775807) : Ev (fun k => impl_isPrime.f k p) (isP p) := by
  by_cases h : 3 ≤ p ∧ p ≤ 61
  · obtain ⟨n, rfl⟩ := Int.eq_ofNat_of_zero_le (show 0 ≤ p by omega)
    exact Ev.of (impl_isPrime.mono _) (prime_in n (by omega) (by omega)).1
  · rw [isP_out h]
    by_cases h2 : p < 3
    · refine ⟨1, fun k hk => ?_⟩
      obtain ⟨k, rfl⟩ : ∃ m, k = m + 1 := ⟨k - 1, by omega⟩
      show impl_isPrime.f (k + 1) p = some false
      unfold impl_isPrime.f
      rw [impl_isPrime.l0, if_neg (by rw [wid (by omega) (by omega)]; omega), within_eq, decide_eq_false (by omega)]
      rfl
    · refine Ev.of (impl_isPrime.mono _) (k := (p - 2).toNat + 1) ?_
      exact prime_out_l p (by omega) hp _ 2 (by omega) (by omega) (by omega)
theorem prime_spec (p : Int) : Ev (fun k => spec_l06Prime.f k p) (isP p) := by
  by_cases h : 3 ≤ p ∧ p ≤ 61
  · obtain ⟨n, rfl⟩ := Int.eq_ofNat_of_zero_le (show 0 ≤ p by omega)
    exact Ev.of (spec_l06Prime.mono _) (prime_in n (by omega) (by omega)).2
  · rw [isP_out h]
    refine Ev.const (fun k => ?_)
    unfold spec_l06Prime.f
    rw [in_eq, decide_eq_false h]
    rfl

theorem rd_get (l : List Int) (i : Nat) : rd l (i : Int) = l.getD i 0 := by simp [rd]
/-- Are there such classes? -/
def okPE (p e : Int) : Bool := isP p && (decide (1 ≤ e ∧ e ≤ 12) && decide (Int.tmod (p - 1) e = 0))
def perOk (p e : Nat) : Bool :=
  match impl_periodsOf.f 500 (p : Int) (e : Int), spec_l06Indices.f 500 (p : Int) with
  | some (a, b, c, l, true), some t => decide (a = (p : Int)) && (decide (b = (e : Int)) && (decide (c = Int.tdiv ((p : Int) - 1) (e : Int)) && (decide (l.length = p) && (decide (t.length = p) &&
      ((List.range p).all fun x => x == 0 || decide (rd l (x : Int) = Int.tmod (rd t (x : Int)) (e : Int) ∧ 0 ≤ rd t (x : Int) ∧ rd t (x : Int) ≤ 60)) && decide (rd l 0 = -1)))))
  | _, _ => false
set_option maxHeartbeats 20000000 in
theorem per_all : ∀ p : Nat, p < 62 → isP (p : Int) = true → ∀ e : Nat, e < 13 → 1 ≤ e → Int.tmod ((p : Int) - 1) (e : Int) = 0 → perOk p e = true := by decide +kernel
theorem per_ev (p e : Int) (h : okPE p e = true) : ∃ l t : List Int, Ev (fun k => impl_periodsOf.f k p e) (p, e, Int.tdiv (p - 1) e, l, true) ∧ Ev (fun k => spec_l06Indices.f k p) t ∧ (l.length : Int) = p ∧ (t.length : Int) = p ∧ rd l 0 = -1 ∧
    ∀ x : Int, 1 ≤ x → x < p → rd l x = Int.tmod (rd t x) e ∧ 0 ≤ rd t x ∧ rd t x ≤ 60 := by
  simp only [okPE, Bool.and_eq_true, decide_eq_true_eq] at h
  obtain ⟨hP, he, hm⟩ := h
  have hr := isP_range hP
  obtain ⟨q, rfl⟩ := Int.eq_ofNat_of_zero_le (show 0 ≤ p by omega)
  obtain ⟨f, rfl⟩ := Int.eq_ofNat_of_zero_le (show 0 ≤ e by omega)
  have hk := per_all q (by omega) hP f (by omega) (by omega) hm
  unfold perOk at hk
  split at hk
  · rename_i a b c l t h1 h2
    simp only [Bool.and_eq_true, decide_eq_true_eq, List.all_eq_true, List.mem_range, Bool.or_eq_true, beq_iff_eq] at hk
    obtain ⟨rfl, rfl, rfl, hl, ⟨ht, hx⟩, h0⟩ := hk
    refine ⟨l, t, Ev.of (impl_periodsOf.mono _ _) h1, Ev.of (spec_l06Indices.mono _) h2, by omega, by omega, h0, fun x x1 x2 => ?_⟩
    obtain ⟨y, rfl⟩ := Int.eq_ofNat_of_zero_le (show 0 ≤ x by omega)
    rcases hx y (by omega) with h | h
    · omega
    · exact h
  · exact absurd hk (by simp)
theorem per_no (p e : Int) (hp : p ≤ 9223372036854775807) (h : okPE p e = false) : Ev (fun k => impl_periodsOf.f k p e) (0, 0, 0, [], false) := by
  have hj : Ev (fun k => impl_periodsOf.j0 k p e true) (0, 0, 0, [], false) := Ev.step (fun k => rfl) (Ev.const fun _ => rfl)
  have hi := prime_impl p hp
  simp only [impl_periodsOf.f, within_eq, Option.bind_some]
  cases hP : isP p with
  | false =>
    rw [hP] at hi
    exact Ev.bind hi (Ev.if_neg (by simp) hj)
  | true =>
    rw [hP] at hi
    have hr := isP_range hP
    refine Ev.bind hi (Ev.if_pos rfl ?_)
    by_cases he : 1 ≤ e ∧ e ≤ 12
    · refine Ev.if_pos (by simpa using he) (Ev.if_neg (by omega) ?_)
      rw [wid (by omega) (by omega)]
      have : ¬ Int.tmod (p - 1) e = 0 := fun z => by simp [okPE, hP, he, z] at h
      rw [show (Int.tmod (p - 1) e != 0) = true from by simpa using this]
      exact hj
    · exact Ev.if_neg (by simpa using he) hj
def btw (a b x : Int) : Bool := decide (a ≤ x ∧ x ≤ b)
theorem pcode_l (e : Int) (he : 1 ≤ e ∧ e ≤ 12) (l : List Int) (hl : l.length ≤ 1000) : ∀ (d i : Nat), l.length - i ≤ d → i ≤ l.length → Ev (fun k => spec_l06Code.l0 k e l (i : Int)) (if (l.drop i).all (btw 0 (e - 1)) = true then 0 else 2) := by
  intro d
  induction d with
  | zero =>
    intro i h h2
    refine Ev.step (fun k => rfl) ?_
    simp only [spec_l06Code.l0]
    exact Ev.if_neg (by omega) (Ev.val (Ev.now _) (by rw [List.drop_eq_nil_of_le (by omega)]; rfl))
  | succ d ih =>
    intro i h h2
    refine Ev.step (fun k => rfl) ?_
    by_cases g : i < l.length
    · have ew : wrap64 ((i : Int) + 1) = ((i + 1 : Nat) : Int) := by rw [wid (by omega) (by omega)]; omega
      have e2 : rd l (i : Int) = l[i] := by rw [rd_get, List.getD_eq_getElem?_getD, List.getElem?_eq_getElem g, Option.getD_some]
      simp only [spec_l06Code.l0, ew, in_eq, Option.bind_some, e2, wid (show -9223372036854775808 ≤ e - 1 by omega) (show e - 1 ≤ 9223372036854775807 by omega)]
      refine Ev.if_pos (by omega) (Ev.if_pos (by omega) ?_)
      rw [List.drop_eq_getElem_cons g, List.all_cons]
      by_cases z : 0 ≤ l[i] ∧ l[i] ≤ e - 1
      · exact Ev.if_pos (by simpa using z) (Ev.val (ih (i + 1) (by omega) (by omega)) (by simp [btw, z]))
      · exact Ev.if_neg (by simpa using z) (Ev.val (Ev.now _) (by simp [btw, z]))
    · simp only [spec_l06Code.l0]
      exact Ev.if_neg (by omega) (Ev.val (Ev.now _) (by rw [List.drop_eq_nil_of_le (by omega)]; rfl))
/-- The reference's code for a prime, a divisor and numbers less than it. -/
theorem pcode_ev (p e : Int) (l : List Int) (hl : l.length ≤ 1000) : Ev (fun k => spec_l06Code.f k p e l) (if (okPE p e && l.all (btw 0 (e - 1))) = true then 0 else 2) := by
  have hj : ∀ l, Ev (fun k => spec_l06Code.j0 k e l true) 2 := fun l => Ev.step (fun k => rfl) (Ev.const fun _ => rfl)
  have hs := prime_spec p
  simp only [spec_l06Code.f, in_eq, Option.bind_some]
  cases hP : isP p with
  | false =>
    rw [hP] at hs
    exact Ev.bind hs (Ev.if_neg (by simp) (Ev.val (hj _) (by simp [okPE, hP])))
  | true =>
    rw [hP] at hs
    have hr := isP_range hP
    refine Ev.bind hs (Ev.if_pos rfl ?_)
    by_cases he : 1 ≤ e ∧ e ≤ 12
    · refine Ev.if_pos (by simpa using he) (Ev.if_neg (by omega) ?_)
      rw [wid (by omega) (by omega)]
      by_cases z : Int.tmod (p - 1) e = 0
      · have hz : okPE p e = true := by simp [okPE, hP, he, z]
        rw [hz, Bool.true_and]
        simp only [z, bne_self_eq_false]
        refine Ev.step (fun k => rfl) ?_
        simp only [spec_l06Code.j0]
        refine Ev.if_neg (by simp) ?_
        have h := pcode_l e he l hl l.length 0 (by omega) (by omega)
        rw [List.drop_zero] at h
        exact h
      · have : (Int.tmod (p - 1) e != 0) = true := by simp [z]
        rw [this]
        exact Ev.val (hj _) (by simp [okPE, z])
    · exact Ev.if_neg (by simpa using he) (Ev.val (hj _) (by simp [okPE, he]))
theorem code0_ev (p e : Int) : Ev (fun k => spec_l06Code.f k p e []) (if okPE p e = true then 0 else 2) := Ev.val (pcode_ev p e [] (by simp)) (by simp)
theorem okPE_b {p e : Int} (h : okPE p e = true) : (3 ≤ p ∧ p ≤ 61) ∧ 1 ≤ e ∧ e ≤ 12 := by
  simp only [okPE, Bool.and_eq_true, decide_eq_true_eq] at h
  exact ⟨isP_range h.1, h.2.1⟩
def tabOk (p e : Nat) : Bool :=
  match impl_periodsOf.f 500 (p : Int) (e : Int), spec_l06Table.f 500 (p : Int) (e : Int) with
  | some (a, b, c, l, true), some t => (match impl_periods_table.f 500 a b c l with
    | some s => decide (s = t) && (decide (t.length = e) && t.all fun r => decide (r.length = e))
    | none => false)
  | _, _ => false
set_option maxHeartbeats 20000000 in
theorem tab_all : ∀ p : Nat, p < 62 → isP (p : Int) = true → ∀ e : Nat, e < 13 → 1 ≤ e → Int.tmod ((p : Int) - 1) (e : Int) = 0 → tabOk p e = true := by decide +kernel
theorem tab_ev (p e : Int) (h : okPE p e = true) : ∃ (c : Int) (l : List Int) (t : List (List Int)), Ev (fun k => impl_periodsOf.f k p e) (p, e, c, l, true) ∧ Ev (fun k => impl_periods_table.f k p e c l) t ∧ Ev (fun k => spec_l06Table.f k p e) t ∧ (t.length : Int) = e ∧ ∀ i : Int, 0 ≤ i → i < e → ((rd_L1 t i).length : Int) = e := by
  obtain ⟨l, _, hi, _⟩ := per_ev p e h
  simp only [okPE, Bool.and_eq_true, decide_eq_true_eq] at h
  obtain ⟨hP, he, hm⟩ := h
  have hr := isP_range hP
  obtain ⟨q, rfl⟩ := Int.eq_ofNat_of_zero_le (show 0 ≤ p by omega)
  obtain ⟨f, rfl⟩ := Int.eq_ofNat_of_zero_le (show 0 ≤ e by omega)
  have hk := tab_all q (by omega) hP f (by omega) (by omega) hm
  unfold tabOk at hk
  split at hk
  · rename_i a b c l' t h1 h2
    split at hk
    · rename_i s h3
      simp only [Bool.and_eq_true, decide_eq_true_eq, List.all_eq_true] at hk
      obtain ⟨rfl, hl, hx⟩ := hk
      have e1 : ((q : Int), (f : Int), Int.tdiv ((q : Int) - 1) (f : Int), l, true) = (a, b, c, l', true) := by
        have h4 := Ev.of (g := fun k => impl_periodsOf.f k (q : Int) (f : Int)) (impl_periodsOf.mono _ _) h1
        obtain ⟨K1, g1⟩ := hi
        obtain ⟨K2, g2⟩ := h4
        have a1 := g1 (K1 + K2) (by omega)
        have a2 := g2 (K1 + K2) (by omega)
        exact Option.some.inj (a1.symm.trans a2)
      simp only [Prod.mk.injEq] at e1
      obtain ⟨rfl, rfl, rfl, rfl, _⟩ := e1
      refine ⟨_, l, s, hi, Ev.of (impl_periods_table.mono _ _ _ _) h3, Ev.of (spec_l06Table.mono _ _) h2, by omega, fun i i1 i2 => ?_⟩
      obtain ⟨j, rfl⟩ := Int.eq_ofNat_of_zero_le i1
      have g : j < s.length := by omega
      have e2 : rd_L1 s (j : Int) = s[j] := by unfold rd_L1; rw [Int.toNat_natCast, List.getD_eq_getElem?_getD, List.getElem?_eq_getElem g]; rfl
      rw [e2, hx _ (List.getElem_mem g)]
    · exact absurd hk (by simp)
  · exact absurd hk (by simp)
theorem FnExactCyclotomicNumber : laws_FnExactCyclotomicNumber.Pure := by
  intro p e i j hp he hi hj
  obtain ⟨b1, b2⟩ := wfb hp
  have hc := pcode_ev p e [i, j] (by simp)
  refine Ev.rounds (g := fun k => laws_FnExactCyclotomicNumber.f k p e i j) ?_
  suffices h : ∃ r : Int × Int, Ev (fun k => spec_CyclotomicNumber.f k p e i j) r ∧ Ev (fun k => impl_CyclotomicNumber.f k p e i j) r by
    obtain ⟨r, s, t⟩ := h
    simp only [laws_FnExactCyclotomicNumber.f]
    exact Ev.bind s (Ev.bind t (Ev.const fun _ => by simp))
  simp only [spec_CyclotomicNumber.f, impl_CyclotomicNumber.f, within_eq, Option.bind_some]
  cases h : okPE p e with
  | false =>
    rw [h] at hc
    have hq := per_no p e b2 h
    exact ⟨(0, 2), Ev.bind hc (Ev.if_neg (by simp) (Ev.const fun _ => by simp)), Ev.bind hq (Ev.const fun _ => rfl)⟩
  | true =>
    rw [h] at hc
    obtain ⟨⟨p1, p2⟩, e1, e2⟩ := okPE_b h
    obtain ⟨c, l, t, hq, ht, hs, hl, hr⟩ := tab_ev p e h
    rw [wid (a := e - 1) (by omega) (by omega)]
    by_cases z : 0 ≤ i ∧ i ≤ e - 1
    · by_cases z2 : 0 ≤ j ∧ j ≤ e - 1
      · simp only [List.all_cons, List.all_nil, btw, decide_eq_true z, decide_eq_true z2, Bool.and_true, if_true] at hc
        have hri := hr i z.1 (by omega)
        refine ⟨(rd (rd_L1 t i) j, 0), Ev.bind hc (Ev.if_pos rfl (Ev.bind hs ?_)), Ev.bind hq (Ev.if_pos rfl (Ev.if_pos (by simpa using z) (Ev.if_pos (by simpa using z2) (Ev.bind ht ?_))))⟩
        · exact Ev.if_pos (by omega) (Ev.if_pos (by omega) (Ev.if_pos (by omega) (Ev.if_pos (by omega) (Ev.now _))))
        · exact Ev.if_pos (by omega) (Ev.if_pos (by omega) (Ev.if_pos (by omega) (Ev.if_pos (by omega) (Ev.now _))))
      · simp only [List.all_cons, List.all_nil, btw, decide_eq_true z, decide_eq_false z2, Bool.and_true, Bool.and_false, Bool.false_eq_true, if_false] at hc
        exact ⟨(0, 2), Ev.bind hc (Ev.if_neg (by simp) (Ev.now _)), Ev.bind hq (Ev.if_pos rfl (Ev.if_pos (by simpa using z) (Ev.if_neg (by simpa using z2) (Ev.now _))))⟩
    · simp only [List.all_cons, List.all_nil, btw, decide_eq_false z, Bool.false_and, Bool.and_false, Bool.false_eq_true, if_false] at hc
      exact ⟨(0, 2), Ev.bind hc (Ev.if_neg (by simp) (Ev.now _)), Ev.bind hq (Ev.if_pos rfl (Ev.if_neg (by simpa using z) (Ev.now _)))⟩

end Go.Proofs.Ytighmnkeopkhlaa.Pure
