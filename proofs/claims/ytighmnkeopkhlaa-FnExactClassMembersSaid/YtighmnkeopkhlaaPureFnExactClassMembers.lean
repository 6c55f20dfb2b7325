/- All numbers of a class by a prime, as the program and as the reference list them, for all arguments. No condition. -/
import Derived.Test.YtighmnkeopkhlaaXFnExactClassMembersx4
namespace Go.Proofs.Ytighmnkeopkhlaa.Pure
open Go.RowKit Go.Proofs.Ytighmnkeopkhlaa.XFnExactClassMembers Go.Proofs.YtighmnkeopkhlaaW.PrintWords Go.Proofs.YtighmnkeopkhlaaW.PrintLast
set_option linter.unusedVariables false
set_option linter.unusedSimpArgs false

theorem wfb {a : Int} (h : (Lit.int .i64 a).wf = true) : -9223372036854775808 ≤ a ∧ a ≤ 9223372036854775807 := by
  simp only [Lit.wf, IntKind.min, IntKind.max, IntKind.signed, IntKind.bits, Bool.and_eq_true, decide_eq_true_eq, if_true] at h
  omega
theorem wid {a : Int} (h1 : -9223372036854775808 ≤ a) (h2 : a ≤ 9223372036854775807) : wrap64 a = a := by
  unfold wrap64; omega
theorem Ev.const {α : Type} {g : Nat → Option α} {r : α} (h : ∀ k, g k = some r) : Ev g r := ⟨0, fun k _ => h k⟩
theorem Ev.if_pos {α : Type} {c : Prop} [Decidable c] {f g : Nat → Option α} {r : α} (hc : c) (h : Ev f r) : Ev (fun k => if c then f k else g k) r :=
  Ev.congr (fun k => _root_.if_pos hc) h
theorem Ev.if_neg {α : Type} {c : Prop} [Decidable c] {f g : Nat → Option α} {r : α} (hc : ¬ c) (h : Ev g r) : Ev (fun k => if c then f k else g k) r :=
  Ev.congr (fun k => _root_.if_neg hc) h
theorem Ev.val {α : Type} {f : Nat → Option α} {r s : α} (h : Ev f r) (e : r = s) : Ev f s := e ▸ h
theorem within_eq (a b c : Int) : impl_within.f a b c = some (decide (b ≤ a ∧ a ≤ c)) := by
  unfold impl_within.f
  by_cases h : b ≤ a <;> simp [h]
theorem in_eq (a b c : Int) : spec_l01In.f a b c = some (decide (b ≤ a ∧ a ≤ c)) := by
  unfold spec_l01In.f
  by_cases h : b ≤ a <;> simp [h]
def isP (p : Int) : Bool := [3, 5, 7, 11, 13, 17, 19, 23, 29, 31, 37, 41, 43, 47, 53, 59, 61].contains p
theorem isP_range {p : Int} (h : isP p = true) : 3 ≤ p ∧ p ≤ 61 := by
  simp [isP] at h; omega
theorem isP_out {p : Int} (h : ¬ (3 ≤ p ∧ p ≤ 61)) : isP p = false := by
  cases e : isP p with
  | false => rfl
  | true => exact absurd (isP_range e) h
theorem prime_in : ∀ n : Nat, n < 62 → 3 ≤ n → impl_isPrime.f 10 (n : Int) = some (isP (n : Int)) ∧ spec_l06Prime.f 10 (n : Int) = some (isP (n : Int)) := by decide +kernel
theorem prime_out_l (p : Int) (hp : 62 ≤ p) (hp2 : p ≤ 9223372036854775807) : ∀ (n : Nat) (d : Int), 2 ≤ d → d ≤ p → p - d ≤ n → impl_isPrime.l0 (n + 1) p d = some false := by
  have hw : impl_within.f p 3 61 = some false := by rw [within_eq, decide_eq_false (by omega)]
  intro n
  induction n with
  | zero =>
    intro d h1 h2 h3
    obtain rfl : d = p := by omega
    simp only [impl_isPrime.l0]
    split
    · rw [if_neg (by omega), if_pos (Int.tmod_self)]
    · rw [hw]; rfl
  | succ n ih =>
    intro d h1 h2 h3
    rw [impl_isPrime.l0]
    split
    · rw [if_neg (by omega)]
      by_cases e : Int.tmod p d = 0
      · rw [if_pos e]
      · rw [if_neg e]
        have hd : d ≠ p := fun e' => e (by rw [e']; exact Int.tmod_self)
        rw [wid (by omega) (by omega)]
        exact ih (d + 1) (by omega) (by omega) (by omega)
    · rw [hw]; rfl
theorem prime_impl (p : Int) (hp : p ≤ 9223372036854775807) : Ev (fun k => impl_isPrime.f k p) (isP p) := by
  by_cases h : 3 ≤ p ∧ p ≤ 61
  · obtain ⟨n, rfl⟩ := Int.eq_ofNat_of_zero_le (show 0 ≤ p by omega)
    exact Ev.of (impl_isPrime.mono _) (prime_in n (by omega) (by omega)).1
  · rw [isP_out h]
    by_cases h2 : p < 3
    · refine ⟨1, fun k hk => ?_⟩
      obtain ⟨k, rfl⟩ : ∃ m, k = m + 1 := ⟨k - 1, by omega⟩
      show impl_isPrime.f (k + 1) p = some false
      unfold impl_isPrime.f
      rw [impl_isPrime.l0, if_neg (by rw [wid (by omega) (by omega)]; omega), within_eq, decide_eq_false (by omega)]
      rfl
    · refine Ev.of (impl_isPrime.mono _) (k := (p - 2).toNat + 1) ?_
      exact prime_out_l p (by omega) hp _ 2 (by omega) (by omega) (by omega)
theorem prime_spec (p : Int) : Ev (fun k => spec_l06Prime.f k p) (isP p) := by
  by_cases h : 3 ≤ p ∧ p ≤ 61
  · obtain ⟨n, rfl⟩ := Int.eq_ofNat_of_zero_le (show 0 ≤ p by omega)
    exact Ev.of (spec_l06Prime.mono _) (prime_in n (by omega) (by omega)).2
  · rw [isP_out h]
    refine Ev.const (fun k => ?_)
    unfold spec_l06Prime.f
    rw [in_eq, decide_eq_false h]
    rfl

theorem rd_get (l : List Int) (i : Nat) : rd l (i : Int) = l.getD i 0 := by simp [rd]
/-- Are there such classes? -/
def okPE (p e : Int) : Bool := isP p && (decide (1 ≤ e ∧ e ≤ 12) && decide (Int.tmod (p - 1) e = 0))
def perOk (p e : Nat) : Bool :=
  match impl_periodsOf.f 500 (p : Int) (e : Int), spec_l06Indices.f 500 (p : Int) with
  | some (a, b, c, l, true), some t => decide (a = (p : Int)) && (decide (b = (e : Int)) && (decide (c = Int.tdiv ((p : Int) - 1) (e : Int)) && (decide (l.length = p) && (decide (t.length = p) &&
      ((List.range p).all fun x => x == 0 || decide (rd l (x : Int) = Int.tmod (rd t (x : Int)) (e : Int) ∧ 0 ≤ rd t (x : Int) ∧ rd t (x : Int) ≤ 60)) && decide (rd l 0 = -1)))))
  | _, _ => false
set_option maxHeartbeats 20000000 in
theorem per_all : ∀ p : Nat, p < 62 → isP (p : Int) = true → ∀ e : Nat, e < 13 → 1 ≤ e → Int.tmod ((p : Int) - 1) (e : Int) = 0 → perOk p e = true := by decide +kernel
theorem per_ev (p e : Int) (h : okPE p e = true) : ∃ l t : List Int, Ev (fun k => impl_periodsOf.f k p e) (p, e, Int.tdiv (p - 1) e, l, true) ∧ Ev (fun k => spec_l06Indices.f k p) t ∧ (l.length : Int) = p ∧ (t.length : Int) = p ∧ rd l 0 = -1 ∧
    ∀ x : Int, 1 ≤ x → x < p → rd l x = Int.tmod (rd t x) e ∧ 0 ≤ rd t x ∧ rd t x ≤ 60 := by
  simp only [okPE, Bool.and_eq_true, decide_eq_true_eq] at h
  obtain ⟨hP, he, hm⟩ := h
  have hr := isP_range hP
  obtain ⟨q, rfl⟩ := Int.eq_ofNat_of_zero_le (show 0 ≤ p by omega)
  obtain ⟨f, rfl⟩ := Int.eq_ofNat_of_zero_le (show 0 ≤ e by omega)
  have hk := per_all q (by omega) hP f (by omega) (by omega) hm
  unfold perOk at hk
  split at hk
  · rename_i a b c l t h1 h2
    simp only [Bool.and_eq_true, decide_eq_true_eq, List.all_eq_true, List.mem_range, Bool.or_eq_true, beq_iff_eq] at hk
    obtain ⟨rfl, rfl, rfl, hl, ⟨ht, hx⟩, h0⟩ := hk
    refine ⟨l, t, Ev.of (impl_periodsOf.mono _ _) h1, Ev.of (spec_l06Indices.mono _) h2, by omega, by omega, h0, fun x x1 x2 => ?_⟩
    obtain ⟨y, rfl⟩ := Int.eq_ofNat_of_zero_le (show 0 ≤ x by omega)
    rcases hx y (by omega) with h | h
    · omega
    · exact h
  · exact absurd hk (by simp)
theorem per_no (p e : Int) (hp : p ≤ 9223372036854775807) (h : okPE p e = false) : Ev (fun k => impl_periodsOf.f k p e) (0, 0, 0, [], false) := by
  have hj : Ev (fun k => impl_periodsOf.j0 k p e true) (0, 0, 0, [], false) := Ev.step (fun k => rfl) (Ev.const fun _ => rfl)
  have hi := prime_impl p hp
  simp only [impl_periodsOf.f, within_eq, Option.bind_some]
  cases hP : isP p with
  | false =>
    rw [hP] at hi
    exact Ev.bind hi (Ev.if_neg (by simp) hj)
  | true =>
    rw [hP] at hi
    have hr := isP_range hP
    refine Ev.bind hi (Ev.if_pos rfl ?_)
    by_cases he : 1 ≤ e ∧ e ≤ 12
    · refine Ev.if_pos (by simpa using he) (Ev.if_neg (by omega) ?_)
      rw [wid (by omega) (by omega)]
      have : ¬ Int.tmod (p - 1) e = 0 := fun z => by simp [okPE, hP, he, z] at h
      rw [show (Int.tmod (p - 1) e != 0) = true from by simpa using this]
      exact hj
    · exact Ev.if_neg (by simpa using he) hj
def btw (a b x : Int) : Bool := decide (a ≤ x ∧ x ≤ b)
theorem pcode_l (e : Int) (he : 1 ≤ e ∧ e ≤ 12) (l : List Int) (hl : l.length ≤ 1000) : ∀ (d i : Nat), l.length - i ≤ d → i ≤ l.length → Ev (fun k => spec_l06Code.l0 k e l (i : Int)) (if (l.drop i).all (btw 0 (e - 1)) = true then 0 else 2) := by
  intro d
  induction d with
  | zero =>
    intro i h h2
    refine Ev.step (fun k => rfl) ?_
    simp only [spec_l06Code.l0]
    exact Ev.if_neg (by omega) (Ev.val (Ev.now _) (by rw [List.drop_eq_nil_of_le (by omega)]; rfl))
  | succ d ih =>
    intro i h h2
    refine Ev.step (fun k => rfl) ?_
    by_cases g : i < l.length
    · have ew : wrap64 ((i : Int) + 1) = ((i + 1 : Nat) : Int) := by rw [wid (by omega) (by omega)]; omega
      have e2 : rd l (i : Int) = l[i] := by rw [rd_get, List.getD_eq_getElem?_getD, List.getElem?_eq_getElem g, Option.getD_some]
      simp only [spec_l06Code.l0, ew, in_eq, Option.bind_some, e2, wid (show -9223372036854775808 ≤ e - 1 by omega) (show e - 1 ≤ 9223372036854775807 by omega)]
      refine Ev.if_pos (by omega) (Ev.if_pos (by omega) ?_)
      rw [List.drop_eq_getElem_cons g, List.all_cons]
      by_cases z : 0 ≤ l[i] ∧ l[i] ≤ e - 1
      · exact Ev.if_pos (by simpa using z) (Ev.val (ih (i + 1) (by omega) (by omega)) (by simp [btw, z]))
      · exact Ev.if_neg (by simpa using z) (Ev.val (Ev.now _) (by simp [btw, z]))
    · simp only [spec_l06Code.l0]
      exact Ev.if_neg (by omega) (Ev.val (Ev.now _) (by rw [List.drop_eq_nil_of_le (by omega)]; rfl))
/-- The reference's code for a prime, a divisor and numbers less than it. -/
theorem pcode_ev (p e : Int) (l : List Int) (hl : l.length ≤ 1000) : Ev (fun k => spec_l06Code.f k p e l) (if (okPE p e && l.all (btw 0 (e - 1))) = true then 0 else 2) := by
  have hj : ∀ l, Ev (fun k => spec_l06Code.j0 k e l true) 2 := fun l => Ev.step (fun k => rfl) (Ev.const fun _ => rfl)
  have hs := prime_spec p
  simp only [spec_l06Code.f, in_eq, Option.bind_some]
  cases hP : isP p with
  | false =>
    rw [hP] at hs
    exact Ev.bind hs (Ev.if_neg (by simp) (Ev.val (hj _) (by simp [okPE, hP])))
  | true =>
    rw [hP] at hs
    have hr := isP_range hP
    refine Ev.bind hs (Ev.if_pos rfl ?_)
    by_cases he : 1 ≤ e ∧ e ≤ 12
    · refine Ev.if_pos (by simpa using he) (Ev.if_neg (by omega) ?_)
      rw [wid (by omega) (by omega)]
      by_cases z : Int.tmod (p - 1) e = 0
      · have hz : okPE p e = true := by simp [okPE, hP, he, z]
        rw [hz, Bool.true_and]
        simp only [z, bne_self_eq_false]
        refine Ev.step (fun k => rfl) ?_
        simp only [spec_l06Code.j0]
        refine Ev.if_neg (by simp) ?_
        have h := pcode_l e he l hl l.length 0 (by omega) (by omega)
        rw [List.drop_zero] at h
        exact h
      · have : (Int.tmod (p - 1) e != 0) = true := by simp [z]
        rw [this]
        exact Ev.val (hj _) (by simp [okPE, z])
    · exact Ev.if_neg (by simpa using he) (Ev.val (hj _) (by simp [okPE, he]))
theorem code0_ev (p e : Int) : Ev (fun k => spec_l06Code.f k p e []) (if okPE p e = true then 0 else 2) := Ev.val (pcode_ev p e [] (by simp)) (by simp)
theorem okPE_b {p e : Int} (h : okPE p e = true) : (3 ≤ p ∧ p ≤ 61) ∧ 1 ≤ e ∧ e ≤ 12 := by
  simp only [okPE, Bool.and_eq_true, decide_eq_true_eq] at h
  exact ⟨isP_range h.1, h.2.1⟩


theorem eqI_l (a b : List Int) (h : a.length = b.length) (ha : a.length ≤ 1048576) : ∀ (n i : Nat), i ≤ a.length → (∀ j, j < i → a[j]? = b[j]?) → a.length - i ≤ n → laws_eqInt64S.l0 (n + 1) a b (i : Int) = some (decide (a = b)) := by
  have fin : ∀ i : Nat, (∀ j, j < i → a[j]? = b[j]?) → a.length ≤ i → a = b := by
    intro i hj hi
    apply List.ext_getElem? fun j => ?_
    by_cases h' : j < a.length
    · exact hj j (by omega)
    · rw [List.getElem?_eq_none (by omega), List.getElem?_eq_none (by omega)]
  intro n
  induction n with
  | zero =>
    intro i hi hj hn
    rw [laws_eqInt64S.l0, if_neg (by omega), decide_eq_true (fin i hj (by omega))]
  | succ n ih =>
    intro i hi hj hn
    rw [laws_eqInt64S.l0]
    by_cases h' : i < a.length
    · rw [if_pos (by omega), if_pos (by omega), if_pos (by omega), rd_get, rd_get, wid (by omega) (by omega)]
      have ga : a[i]? = some (a.getD i 0) := by rw [List.getD_eq_getElem?_getD, List.getElem?_eq_getElem h']; rfl
      have gb : b[i]? = some (b.getD i 0) := by rw [List.getD_eq_getElem?_getD, List.getElem?_eq_getElem (by omega : i < b.length)]; rfl
      by_cases e : a.getD i 0 = b.getD i 0
      · rw [if_pos e]
        have := ih (i + 1) (by omega) (fun j hjlt => ?_) (by omega)
        · simpa using this
        · by_cases e' : j = i
          · rw [e', ga, gb, e]
          · exact hj j (by omega)
      · rw [if_neg e, decide_eq_false]
        intro e'
        exact e (by rw [e'])
    · rw [if_neg (by omega), decide_eq_true (fin i hj (by omega))]
/-- Two lists are held against each other. -/
theorem eqI (a b : List Int) (ha : a.length ≤ 1048576) : Ev (fun k => laws_eqInt64S.f k a b) (decide (a = b)) := by
  refine Ev.of (laws_eqInt64S.mono a b) (k := a.length + 1) ?_
  unfold laws_eqInt64S.f
  by_cases h : a.length = b.length
  · rw [if_pos (by omega)]
    exact eqI_l a b h ha a.length 0 (by omega) (fun j hj => absurd hj (by omega)) (by omega)
  · rw [if_neg (by omega), decide_eq_false]
    intro e
    exact h (by rw [e])

/-- What a list of n cells holds once it is marked from 1 on. -/
def marks (n : Nat) : List Int := (List.range n).map fun (j : Nat) => (j : Int) + 1
theorem marks_at (n i : Nat) (h : i < n) : (marks n)[i]? = some ((i : Int) + 1) := by
  simp [marks, h]
theorem markI_l (m : Nat) (hm : m ≤ 1048576) : ∀ (n i : Nat) (x : List Int), x.length = m → i ≤ m → (∀ j, j < i → x[j]? = some ((j : Int) + 1)) → m - i ≤ n → laws_markInt64S.l0 (n + 1) x ((i : Int) + 1) (i : Int) = some ((m : Int) + 1, marks m) := by
  have fin : ∀ (i : Nat) (x : List Int), x.length = m → (∀ j, j < i → x[j]? = some ((j : Int) + 1)) → m ≤ i → x = marks m := by
    intro i x hx hj hi
    apply List.ext_getElem? fun j => ?_
    by_cases h : j < m
    · rw [hj j (by omega), marks_at m j h]
    · rw [List.getElem?_eq_none (by omega), List.getElem?_eq_none (by simp [marks]; omega)]
  intro n
  induction n with
  | zero =>
    intro i x hx hi hj hn
    rw [laws_markInt64S.l0, if_neg (by omega), fin i x hx hj (by omega), show i = m from by omega]
  | succ n ih =>
    intro i x hx hi hj hn
    rw [laws_markInt64S.l0]
    by_cases h : i < m
    · rw [if_pos (by omega), if_pos (by omega), wid (by omega) (by omega), wid (by omega) (by omega)]
      have := ih (i + 1) (x.set i ((i : Int) + 1)) (by simpa using hx) (by omega) (fun j hjlt => ?_) (by omega)
      · simpa using this
      · by_cases e : j = i
        · subst e
          rw [List.getElem?_set_self (by omega)]
        · rw [List.getElem?_set_ne (fun e' => e e'.symm)]
          exact hj j (by omega)
    · rw [if_neg (by omega), fin i x hx hj (by omega), show i = m from by omega]
theorem markI (l : List Int) (hl : l.length ≤ 1048576) : Ev (fun k => laws_markInt64S.f k l 1) ((l.length : Int) + 1, marks l.length) := by
  refine Ev.of (laws_markInt64S.mono l 1) (k := l.length + 1) ?_
  unfold laws_markInt64S.f
  have := markI_l l.length hl l.length 0 l rfl (by omega) (fun j hj => absurd hj (by omega)) (by omega)
  simpa using this
theorem heldI_l (m : Nat) (hm : m ≤ 1048576) : ∀ (n i : Nat), i ≤ m → m - i ≤ n → laws_heldInt64S.l0 (n + 1) (marks m) ((i : Int) + 1) (i : Int) = some ((m : Int) + 1) := by
  have hlen : (marks m).length = m := by simp [marks]
  intro n
  induction n with
  | zero =>
    intro i hi hn
    rw [laws_heldInt64S.l0, if_neg (by omega), show i = m from by omega]
  | succ n ih =>
    intro i hi hn
    rw [laws_heldInt64S.l0]
    by_cases h : i < m
    · have hr : rd (marks m) (i : Int) = (i : Int) + 1 := by
        simp [rd, List.getD_eq_getElem?_getD, marks_at m i h]
      rw [if_pos (by omega), if_pos (by omega), if_pos hr, wid (by omega) (by omega), wid (by omega) (by omega)]
      have := ih (i + 1) (by omega) (by omega)
      simpa using this
    · rw [if_neg (by omega), show i = m from by omega]
theorem heldI (l : List Int) (hl : l.length ≤ 1048576) : Ev (fun k => laws_heldInt64S.f k (marks l.length) 1) ((l.length : Int) + 1) := by
  refine Ev.of (laws_heldInt64S.mono _ 1) (k := l.length + 1) ?_
  unfold laws_heldInt64S.f
  have := heldI_l l.length hl l.length 0 (by omega) (by omega)
  simpa using this
/-- Where both tell the same list and code, the law holds. -/
theorem law_tail (p : Int) (e : Int) (i : Int) (l : List Int) (c : Int) (hl : l.length ≤ 1048576) (hs : Ev (fun k => spec_ClassMembers.f k p  e  i ) (l, c)) (hi : Ev (fun k => impl_ClassMembers.f k p  e  i ) (l, c)) : Ev (fun k => laws_FnExactClassMembers.f k p  e  i ) true := by
  simp only [laws_FnExactClassMembers.f]
  refine Ev.bind hs (Ev.bind hi ?_)
  refine Ev.bind (eqI l l hl) ?_
  simp only [decide_true, if_true, bne_self_eq_false]
  refine Ev.step (fun k => rfl) ?_
  simp only [laws_FnExactClassMembers.j0, Bool.false_eq_true, if_false]
  refine Ev.bind (markI l hl) ?_
  refine Ev.bind (heldI l hl) ?_
  refine Ev.if_neg (by omega) (Ev.if_pos rfl ?_)
  refine Ev.bind hi ?_
  refine Ev.bind (eqI l l hl) ?_
  simp only [decide_true, if_true, bne_self_eq_false]
  refine Ev.step (fun k => rfl) ?_
  simp only [laws_FnExactClassMembers.j1, Bool.false_eq_true, if_false]
  refine Ev.bind (heldI l hl) ?_
  exact Ev.if_neg (by omega) (Ev.if_pos rfl (Ev.now _))
/-- The numbers x.. of a class. -/
def memL (t : List Int) (e i : Int) : Nat → Nat → List Int
  | 0, _ => []
  | d + 1, x => if Int.tmod (rd t (x : Int)) e = i then (x : Int) :: memL t e i d (x + 1) else memL t e i d (x + 1)
theorem memL_len (t : List Int) (e i : Int) : ∀ d x, (memL t e i d x).length ≤ d := by
  intro d
  induction d with
  | zero => intro x; simp [memL]
  | succ d ih =>
    intro x
    simp only [memL]
    have := ih (x + 1)
    split <;> simp <;> omega
theorem mem_spec (p e i : Int) (he : 1 ≤ e) (t : List Int) (htl : (t.length : Int) = p) (hp : p ≤ 61) : ∀ (d x : Nat) (xs : List Int), x + d = t.length → 1 ≤ x → xs.length ≤ x → Ev (fun k => spec_ClassMembers.l0 k p e i t xs (x : Int)) (xs ++ memL t e i d x, 0) := by
  intro d
  induction d with
  | zero =>
    intro x xs h h1 h2
    refine Ev.step (fun k => rfl) ?_
    simp only [spec_ClassMembers.l0]
    exact Ev.if_neg (by omega) (Ev.val (Ev.now _) (by simp [memL]))
  | succ d ih =>
    intro x xs h h1 h2
    have ew : wrap64 ((x : Int) + 1) = ((x + 1 : Nat) : Int) := by rw [wid (by omega) (by omega)]; omega
    refine Ev.step (fun k => rfl) ?_
    simp only [spec_ClassMembers.l0, ew]
    refine Ev.if_pos (by omega) (Ev.if_pos (by omega) (Ev.if_pos (by omega) (Ev.if_neg (by omega) ?_)))
    by_cases z : Int.tmod (rd t (x : Int)) e = i
    · refine Ev.if_pos z (Ev.if_pos (by omega) (Ev.val (ih (x + 1) (xs ++ [(x : Int)]) (by omega) (by omega) (by simp; omega)) ?_))
      simp [memL, z]
    · exact Ev.if_neg z (Ev.val (ih (x + 1) xs (by omega) (by omega) (by omega)) (by simp [memL, z]))
theorem mem_impl (p e f i : Int) (l t : List Int) (hl : l.length = t.length) (hp : t.length ≤ 61) (hq : ∀ x : Int, 1 ≤ x → x < t.length → rd l x = Int.tmod (rd t x) e) : ∀ (d x : Nat) (xs : List Int), x + d = t.length → 1 ≤ x → xs.length ≤ x → Ev (fun k => impl_periods_members.l0 k i xs l (l.length : Int) (x : Int) p e f l) (xs ++ memL t e i d x, p, e, f) := by
  intro d
  induction d with
  | zero =>
    intro x xs h h1 h2
    refine Ev.step (fun k => rfl) ?_
    simp only [impl_periods_members.l0]
    exact Ev.if_neg (by omega) (Ev.val (Ev.now _) (by simp [memL]))
  | succ d ih =>
    intro x xs h h1 h2
    have ew : wrap64 ((x : Int) + 1) = ((x + 1 : Nat) : Int) := by rw [wid (by omega) (by omega)]; omega
    refine Ev.step (fun k => rfl) ?_
    simp only [impl_periods_members.l0, ew, hq (x : Int) (by omega) (by omega)]
    refine Ev.if_pos (by omega) (Ev.if_pos (by omega) (Ev.if_pos (by omega) ?_))
    by_cases z : Int.tmod (rd t (x : Int)) e = i
    · refine Ev.if_pos z (Ev.if_pos (by omega) (Ev.val (ih (x + 1) (xs ++ [(x : Int)]) (by omega) (by omega) (by simp; omega)) ?_))
      simp [memL, z]
    · exact Ev.if_neg z (Ev.val (ih (x + 1) xs (by omega) (by omega) (by omega)) (by simp [memL, z]))
theorem FnExactClassMembers : laws_FnExactClassMembers.Pure := by
  intro p e i hp he hi
  obtain ⟨b1, b2⟩ := wfb hp
  have hc := pcode_ev p e [i] (by simp)
  obtain ⟨l, c, hl, s, r⟩ : ∃ (l : List Int) (c : Int), l.length ≤ 1048576 ∧ Ev (fun k => spec_ClassMembers.f k p e i) (l, c) ∧ Ev (fun k => impl_ClassMembers.f k p e i) (l, c) := by
    simp only [spec_ClassMembers.f, impl_ClassMembers.f, within_eq, Option.bind_some]
    cases h : okPE p e with
    | false =>
      rw [h] at hc
      have hq := per_no p e b2 h
      exact ⟨[], 2, by simp, Ev.bind hc (Ev.if_neg (by simp) (Ev.const fun _ => by simp)), Ev.bind hq (Ev.const fun _ => rfl)⟩
    | true =>
      rw [h] at hc
      obtain ⟨⟨p1, p2⟩, e1, e2⟩ := okPE_b h
      obtain ⟨l, t, hq, hs, hl, ht, h0, hx⟩ := per_ev p e h
      rw [wid (a := e - 1) (by omega) (by omega)]
      by_cases z : 0 ≤ i ∧ i ≤ e - 1
      · have zb : btw 0 (e - 1) i = true := decide_eq_true z
        simp only [List.all_cons, List.all_nil, zb, Bool.and_true, if_true] at hc
        refine ⟨memL t e i (t.length - 1) 1, 0, by have := memL_len t e i (t.length - 1) 1; omega, Ev.bind hc (Ev.if_pos rfl (Ev.bind hs ?_)), Ev.bind hq (Ev.if_pos rfl (Ev.if_pos (by simpa using z) ?_))⟩
        · have := mem_spec p e i (by omega) t ht p2 (t.length - 1) 1 [] (by omega) (by omega) (by simp)
          simpa using this
        · have hm : Ev (fun k => impl_periods_members.f k p e (Int.tdiv (p - 1) e) l i) (memL t e i (t.length - 1) 1, p, e, Int.tdiv (p - 1) e) := by
            simp only [impl_periods_members.f]
            refine Ev.step (fun k => rfl) ?_
            simp only [impl_periods_members.l0, h0]
            refine Ev.if_pos (by omega) (Ev.if_pos (by omega) (Ev.if_pos (by omega) (Ev.if_neg (by omega) ?_)))
            rw [show wrap64 ((0 : Int) + 1) = ((1 : Nat) : Int) from by rw [wid (by omega) (by omega)]; omega]
            have := mem_impl p e (Int.tdiv (p - 1) e) i l t (by omega) (by omega) (fun x x1 x2 => (hx x x1 (by omega)).1) (t.length - 1) 1 [] (by omega) (by omega) (by simp)
            simpa using this
          exact Ev.bind hm (Ev.now _)
      · have zb : btw 0 (e - 1) i = false := decide_eq_false z
        simp only [List.all_cons, List.all_nil, zb, Bool.false_and, Bool.and_false, Bool.false_eq_true, if_false] at hc
        exact ⟨[], 2, by simp, Ev.bind hc (Ev.if_neg (by simp) (Ev.now _)), Ev.bind hq (Ev.if_pos rfl (Ev.if_neg (by simpa using z) (Ev.now _)))⟩
  exact Ev.rounds (g := fun k => laws_FnExactClassMembers.f k p e i) (law_tail p e i l c hl s r)

end Go.Proofs.Ytighmnkeopkhlaa.Pure
