/- The number of a text, as the program and as the reference read it, for every text. No condition. -/
import Derived.Test.YtomanalpkidicaaDoorXFnExactParseCyclox8
import Derived.Test.YtomanalpkidicaaDoorShelfP
import Derived.Lib.SplitLaws
import Derived.Lib.IndexBytes
namespace Go.Proofs.YtomanalpkidicaaDoor.Pure
open Go.RowKit Go.Proofs.YtomanalpkidicaaDoor.XFnExactParseCyclo Go.Proofs.YtomanalpkidicaaDoorW.PrintWords Go.Proofs.YtomanalpkidicaaDoorW.PrintLast
set_option linter.unusedVariables false
set_option linter.unusedSimpArgs false

theorem wfb {a : Int} (h : (Lit.int .i64 a).wf = true) : -9223372036854775808 ≤ a ∧ a ≤ 9223372036854775807 := by
  simp only [Lit.wf, IntKind.min, IntKind.max, IntKind.signed, IntKind.bits, Bool.and_eq_true, decide_eq_true_eq, if_true] at h
  omega
theorem wid {a : Int} (h1 : -9223372036854775808 ≤ a) (h2 : a ≤ 9223372036854775807) : wrap64 a = a := by
  unfold wrap64; omega
theorem Ev.const {α : Type} {g : Nat → Option α} {r : α} (h : ∀ k, g k = some r) : Ev g r := ⟨0, fun k _ => h k⟩
theorem Ev.if_pos {α : Type} {c : Prop} [Decidable c] {f g : Nat → Option α} {r : α} (hc : c) (h : Ev f r) : Ev (fun k => if c then f k else g k) r :=
  Ev.congr (fun k => _root_.if_pos hc) h
theorem Ev.if_neg {α : Type} {c : Prop} [Decidable c] {f g : Nat → Option α} {r : α} (hc : ¬ c) (h : Ev g r) : Ev (fun k => if c then f k else g k) r :=
  Ev.congr (fun k => _root_.if_neg hc) h
theorem Ev.val {α : Type} {f : Nat → Option α} {r s : α} (h : Ev f r) (e : r = s) : Ev f s := e ▸ h
theorem within_eq (a b c : Int) : impl_within.f a b c = some (decide (b ≤ a ∧ a ≤ c)) := by
  unfold impl_within.f
  by_cases h : b ≤ a <;> simp [h]
theorem in_eq (a b c : Int) : spec_l01In.f a b c = some (decide (b ≤ a ∧ a ≤ c)) := by
  unfold spec_l01In.f
  by_cases h : b ≤ a <;> simp [h]


theorem rd_get (l : List Int) (i : Nat) : rd l (i : Int) = l.getD i 0 := by simp [rd]
theorem eqI_l (a b : List Int) (h : a.length = b.length) (ha : a.length ≤ 1048576) : ∀ (n i : Nat), i ≤ a.length → (∀ j, j < i → a[j]? = b[j]?) → a.length - i ≤ n → laws_eqInt64S.l0 (n + 1) a b (i : Int) = some (decide (a = b)) := by
  have fin : ∀ i : Nat, (∀ j, j < i → a[j]? = b[j]?) → a.length ≤ i → a = b := by
    intro i hj hi
    apply List.ext_getElem? fun j => ?_
    by_cases h' : j < a.length
    · exact hj j (by omega)
    · rw [List.getElem?_eq_none (by omega), List.getElem?_eq_none (by omega)]
  intro n
  induction n with
  | zero =>
    intro i hi hj hn
    rw [laws_eqInt64S.l0, if_neg (by omega), decide_eq_true (fin i hj (by omega))]
  | succ n ih =>
    intro i hi hj hn
    rw [laws_eqInt64S.l0]
    by_cases h' : i < a.length
    · rw [if_pos (by omega), if_pos (by omega), if_pos (by omega), rd_get, rd_get, wid (by omega) (by omega)]
      have ga : a[i]? = some (a.getD i 0) := by rw [List.getD_eq_getElem?_getD, List.getElem?_eq_getElem h']; rfl
      have gb : b[i]? = some (b.getD i 0) := by rw [List.getD_eq_getElem?_getD, List.getElem?_eq_getElem (by omega : i < b.length)]; rfl
      by_cases e : a.getD i 0 = b.getD i 0
      · rw [if_pos e]
        have := ih (i + 1) (by omega) (fun j hjlt => ?_) (by omega)
        · simpa using this
        · by_cases e' : j = i
          · rw [e', ga, gb, e]
          · exact hj j (by omega)
      · rw [if_neg e, decide_eq_false]
        intro e'
        exact e (by rw [e'])
    · rw [if_neg (by omega), decide_eq_true (fin i hj (by omega))]
/-- Two lists are held against each other. -/
theorem eqI (a b : List Int) (ha : a.length ≤ 1048576) : Ev (fun k => laws_eqInt64S.f k a b) (decide (a = b)) := by
  refine Ev.of (laws_eqInt64S.mono a b) (k := a.length + 1) ?_
  unfold laws_eqInt64S.f
  by_cases h : a.length = b.length
  · rw [if_pos (by omega)]
    exact eqI_l a b h ha a.length 0 (by omega) (fun j hj => absurd hj (by omega)) (by omega)
  · rw [if_neg (by omega), decide_eq_false]
    intro e
    exact h (by rw [e])

def small (m x : Int) : Bool := decide (-m ≤ x ∧ x ≤ m)
theorem areSmall_eq (l : List Int) (m : Int) (h0 : 0 ≤ m) (h1 : m ≤ 9223372036854775807) : impl_areSmall.f l m = some (l.all (small m)) := by
  unfold impl_areSmall.f
  rw [wid (by omega) (by omega)]
  rfl
def phiT (n : Int) : Int := [0, 1, 1, 2, 2, 4, 2, 6, 4, 6, 4, 10, 4, 12, 6, 8, 8].getD n.toNat 0
theorem phis_all : ∀ n : Nat, n < 17 → 1 ≤ n → spec_l01Phi.f 60 (n : Int) = some (phiT (n : Int)) := by decide +kernel
theorem phi_spec (n : Int) (h : 1 ≤ n ∧ n ≤ 16) : Ev (fun k => spec_l01Phi.f k n) (phiT n) := by
  obtain ⟨m, rfl⟩ := Int.eq_ofNat_of_zero_le (show 0 ≤ n by omega)
  exact Ev.of (spec_l01Phi.mono _) (phis_all m (by omega) (by omega))
theorem phiT_le (n : Int) (h : 1 ≤ n ∧ n ≤ 16) : 1 ≤ phiT n ∧ phiT n ≤ 12 := by
  obtain ⟨m, rfl⟩ := Int.eq_ofNat_of_zero_le (show 0 ≤ n by omega)
  have : ∀ m : Nat, m < 17 → 1 ≤ m → 1 ≤ phiT (m : Int) ∧ phiT (m : Int) ≤ 12 := by decide +kernel
  exact this m (by omega) (by omega)
theorem fits_l (a : Int) (l : List Int) (hl : l.length ≤ 1048576) : ∀ (n i : Nat), i ≤ l.length → l.length - i ≤ n → spec_l01Fits.l0 (n + 1) (i : Int) a l = some ((l.drop i).all (small 1000000000)) := by
  intro n
  induction n with
  | zero =>
    intro i hi hn
    rw [spec_l01Fits.l0, if_neg (by omega), List.drop_eq_nil_of_le (by omega)]
    rfl
  | succ n ih =>
    intro i hi hn
    rw [spec_l01Fits.l0]
    by_cases h : i < l.length
    · rw [if_pos (by omega), if_pos (by omega), in_eq, rd_get]
      simp only [Option.bind_some]
      rw [List.drop_eq_getElem_cons h, List.all_cons, List.getD_eq_getElem?_getD, List.getElem?_eq_getElem h, Option.getD_some]
      by_cases e : -1000000000 ≤ l[i] ∧ l[i] ≤ 1000000000
      · rw [if_pos (by simpa using e), wid (by omega) (by omega)]
        have := ih (i + 1) (by omega) (by omega)
        rw [show ((i : Int) + 1) = ((i + 1 : Nat) : Int) from by omega, this]
        simp [small, e]
      · rw [if_neg (by simpa using e)]
        simp [small, e]
    · rw [if_neg (by omega), List.drop_eq_nil_of_le (by omega)]
      rfl
theorem fits_spec (a : Int) (l : List Int) (hl : l.length ≤ 1048576) : Ev (fun k => spec_l01Fits.f k a l) (l.all (small 1000000000)) := by
  refine Ev.of (spec_l01Fits.mono a l) (k := l.length + 1) ?_
  unfold spec_l01Fits.f
  have := fits_l a l hl l.length 0 (by omega) (by omega)
  simpa using this
theorem eqC (n : Int) (l : List Int) (hl : l.length ≤ 1048576) (m : Int) (l' : List Int) : Ev (fun k => laws_eqCyclo.f k n l m l') (decide (n = m ∧ l = l')) := by
  simp only [laws_eqCyclo.f]
  by_cases h : n = m
  · simp only [if_pos h]
    refine Ev.bind (eqI l l' hl) ?_
    by_cases e : l = l'
    · exact Ev.val (Ev.const (fun _ => by rw [decide_eq_true e]; rfl)) (by simp [h, e])
    · exact Ev.val (Ev.const (fun _ => by rw [decide_eq_false e]; rfl)) (by simp [e])
  · simp only [if_neg h]
    exact Ev.val (Ev.now _) (by simp [h])
theorem phii_all : ∀ n : Nat, n < 17 → 1 ≤ n → impl_totient.f 60 (n : Int) = some (phiT (n : Int)) := by decide +kernel
theorem phi_impl (n : Int) (h : 1 ≤ n ∧ n ≤ 16) : Ev (fun k => impl_totient.f k n) (phiT n) := by
  obtain ⟨m, rfl⟩ := Int.eq_ofNat_of_zero_le (show 0 ≤ n by omega)
  exact Ev.of (impl_totient.mono _) (phii_all m (by omega) (by omega))
/-- Is it a number? -/
def isCyc (n : Int) (l : List Int) : Bool := decide (1 ≤ n ∧ n ≤ 16) && (decide ((l.length : Int) = phiT n) && l.all (small 1000000000))
theorem is_spec (n : Int) (l : List Int) (hl : l.length ≤ 1048576) : Ev (fun k => spec_l01Is.f k n l) (isCyc n l) := by
  simp only [spec_l01Is.f, in_eq, Option.bind_some]
  by_cases h : 1 ≤ n ∧ n ≤ 16
  · simp only [decide_eq_true h, if_true]
    refine Ev.bind (phi_spec n h) ?_
    by_cases e : (l.length : Int) = phiT n
    · simp only [if_pos e]
      refine Ev.bind (fits_spec n l hl) (Ev.val (Ev.now _) ?_)
      simp [isCyc, h, e]
    · simp only [if_neg e]
      exact Ev.val (Ev.now _) (by simp [isCyc, e])
  · simp only [decide_eq_false h]
    exact Ev.val (Ev.now _) (by simp [isCyc, h])
theorem is_impl (n : Int) (l : List Int) : Ev (fun k => impl_IsCyclo.f k n l) (isCyc n l) := by
  simp only [impl_IsCyclo.f, impl_isOrder.f, within_eq, Option.bind_some]
  by_cases h : 1 ≤ n ∧ n ≤ 16
  · simp only [decide_eq_true h, if_true]
    refine Ev.bind (phi_impl n h) ?_
    by_cases e : (l.length : Int) = phiT n
    · simp only [if_pos e]
      rw [areSmall_eq _ _ (by omega) (by omega)]
      exact Ev.val (Ev.now _) (by simp [isCyc, h, e])
    · simp only [if_neg e]
      exact Ev.val (Ev.now _) (by simp [isCyc, e])
  · simp only [decide_eq_false h]
    exact Ev.val (Ev.now _) (by simp [isCyc, h])
/-- What a list of n cells holds once it is marked from 1 on. -/
def marks (n : Nat) : List Int := (List.range n).map fun (j : Nat) => (j : Int) + 1
theorem marks_at (n i : Nat) (h : i < n) : (marks n)[i]? = some ((i : Int) + 1) := by
  simp [marks, h]
theorem markI_l (m : Nat) (hm : m ≤ 1048576) : ∀ (n i : Nat) (x : List Int), x.length = m → i ≤ m → (∀ j, j < i → x[j]? = some ((j : Int) + 1)) → m - i ≤ n → laws_markInt64S.l0 (n + 1) x ((i : Int) + 1) (i : Int) = some ((m : Int) + 1, marks m) := by
  have fin : ∀ (i : Nat) (x : List Int), x.length = m → (∀ j, j < i → x[j]? = some ((j : Int) + 1)) → m ≤ i → x = marks m := by
    intro i x hx hj hi
    apply List.ext_getElem? fun j => ?_
    by_cases h : j < m
    · rw [hj j (by omega), marks_at m j h]
    · rw [List.getElem?_eq_none (by omega), List.getElem?_eq_none (by simp [marks]; omega)]
  intro n
  induction n with
  | zero =>
    intro i x hx hi hj hn
    rw [laws_markInt64S.l0, if_neg (by omega), fin i x hx hj (by omega), show i = m from by omega]
  | succ n ih =>
    intro i x hx hi hj hn
    rw [laws_markInt64S.l0]
    by_cases h : i < m
    · rw [if_pos (by omega), if_pos (by omega), wid (by omega) (by omega), wid (by omega) (by omega)]
      have := ih (i + 1) (x.set i ((i : Int) + 1)) (by simpa using hx) (by omega) (fun j hjlt => ?_) (by omega)
      · simpa using this
      · by_cases e : j = i
        · subst e
          rw [List.getElem?_set_self (by omega)]
        · rw [List.getElem?_set_ne (fun e' => e e'.symm)]
          exact hj j (by omega)
    · rw [if_neg (by omega), fin i x hx hj (by omega), show i = m from by omega]
theorem markI (l : List Int) (hl : l.length ≤ 1048576) : Ev (fun k => laws_markInt64S.f k l 1) ((l.length : Int) + 1, marks l.length) := by
  refine Ev.of (laws_markInt64S.mono l 1) (k := l.length + 1) ?_
  unfold laws_markInt64S.f
  have := markI_l l.length hl l.length 0 l rfl (by omega) (fun j hj => absurd hj (by omega)) (by omega)
  simpa using this
theorem heldI_l (m : Nat) (hm : m ≤ 1048576) : ∀ (n i : Nat), i ≤ m → m - i ≤ n → laws_heldInt64S.l0 (n + 1) (marks m) ((i : Int) + 1) (i : Int) = some ((m : Int) + 1) := by
  have hlen : (marks m).length = m := by simp [marks]
  intro n
  induction n with
  | zero =>
    intro i hi hn
    rw [laws_heldInt64S.l0, if_neg (by omega), show i = m from by omega]
  | succ n ih =>
    intro i hi hn
    rw [laws_heldInt64S.l0]
    by_cases h : i < m
    · have hr : rd (marks m) (i : Int) = (i : Int) + 1 := by
        simp [rd, List.getD_eq_getElem?_getD, marks_at m i h]
      rw [if_pos (by omega), if_pos (by omega), if_pos hr, wid (by omega) (by omega), wid (by omega) (by omega)]
      have := ih (i + 1) (by omega) (by omega)
      simpa using this
    · rw [if_neg (by omega), show i = m from by omega]
theorem heldI (l : List Int) (hl : l.length ≤ 1048576) : Ev (fun k => laws_heldInt64S.f k (marks l.length) 1) ((l.length : Int) + 1) := by
  refine Ev.of (laws_heldInt64S.mono _ 1) (k := l.length + 1) ?_
  unfold laws_heldInt64S.f
  have := heldI_l l.length hl l.length 0 (by omega) (by omega)
  simpa using this
theorem markC (n : Int) (l : List Int) (hl : l.length ≤ 1048576) : Ev (fun k => laws_markCyclo.f k n l 1) ((l.length : Int) + 1, marks l.length) := by
  simp only [laws_markCyclo.f]
  exact Ev.bind (markI l hl) (Ev.now _)
theorem heldC (n : Int) (l : List Int) (hl : l.length ≤ 1048576) : Ev (fun k => laws_heldCyclo.f k n (marks l.length) 1) ((l.length : Int) + 1) := by
  simp only [laws_heldCyclo.f]
  exact Ev.bind (heldI l hl) (Ev.if_neg (by omega) (Ev.now _))
def bs (l : List UInt8) : ByteArray := ⟨l.toArray⟩
theorem bs_size (l : List UInt8) : (bs l).size = l.length := by simp [bs, ByteArray.size]
theorem bs_back (s : ByteArray) : bs s.data.toList = s := by
  apply ByteArray.ext
  simp [bs]
theorem bs_inj {a b : List UInt8} (h : bs a = bs b) : a = b := by
  have := congrArg (fun s : ByteArray => s.data.toList) h
  simpa [bs] using this
theorem bs_cut (l : List UInt8) (a b : Nat) : (bs l).extract a b = bs ((l.drop a).take (b - a)) := by
  apply ByteArray.ext
  simp [bs, List.extract]
theorem bt_bs (l : List UInt8) (i : Nat) (h : i < l.length) : bt (bs l) (i : Int) = (l[i].toNat : Int) := by
  have hs : i < (bs l).size := by rw [bs_size]; exact h
  unfold bt
  rw [Int.toNat_natCast, dif_pos hs]
  simp [bs, ByteArray.getElem_eq_getElem_data]
/-! ### numerals -/
def dig (c : UInt8) : Bool := decide (48 ≤ c.toNat ∧ c.toNat ≤ 57)
def dv (c : UInt8) : Nat := c.toNat - 48
def val (a : Nat) (l : List UInt8) : Nat := l.foldl (fun a c => a * 10 + dv c) a
theorem val_nil (a : Nat) : val a [] = a := by unfold val; rw [List.foldl_nil]
theorem val_cons (a : Nat) (c : UInt8) (r : List UInt8) : val a (c :: r) = val (a * 10 + dv c) r := by unfold val; rw [List.foldl_cons]
theorem val_one (c : UInt8) : val 0 [c] = dv c := by rw [val_cons, val_nil, Nat.zero_mul, Nat.zero_add]
theorem dig_dv {c : UInt8} (h : dig c = true) : 48 ≤ c.toNat ∧ c.toNat ≤ 57 ∧ c.toNat = 48 + dv c := by
  simp only [dig, decide_eq_true_eq] at h
  unfold dv
  omega
theorem val_snoc (c : UInt8) (l : List UInt8) (a : Nat) : val a (l ++ [c]) = val a l * 10 + dv c := by unfold val; rw [List.foldl_append, List.foldl_cons, List.foldl_nil]
theorem val_ge : ∀ (l : List UInt8) (a : Nat), a ≤ val a l
  | [], _ => by rw [val_nil]; exact Nat.le_refl _
  | c :: l, a => by
    have := val_ge l (a * 10 + dv c)
    rw [val_cons]
    omega
theorem val_lt : ∀ (l : List UInt8) (a m : Nat), l.all dig = true → a < 10 ^ m → val a l < 10 ^ (m + l.length)
  | [], a, m, _, h => by rw [val_nil]; exact h
  | c :: l, a, m, hd, h => by
    rw [List.all_cons, Bool.and_eq_true] at hd
    obtain ⟨h1, h2, h3⟩ := dig_dv hd.1
    have := val_lt l (a * 10 + dv c) (m + 1) hd.2 (by rw [Nat.pow_succ]; omega)
    rw [val_cons, List.length_cons, show m + (l.length + 1) = m + 1 + l.length by omega]
    exact this
theorem dv_of (d : Nat) (h : d < 10) : dv (UInt8.ofNat (48 + d)) = d := by
  have : ∀ d : Nat, d < 10 → dv (UInt8.ofNat (48 + d)) = d := by decide
  exact this d h
theorem ofNat_toNat (d : Nat) (h : d < 10) : (UInt8.ofNat (48 + d)).toNat = 48 + d := by
  have : ∀ d : Nat, d < 10 → (UInt8.ofNat (48 + d)).toNat = 48 + d := by decide
  exact this d h
theorem dd_small {n : Nat} (h : n < 10) : Lib.decDigits n = [UInt8.ofNat (48 + n)] := by rw [Lib.decDigits, dif_pos h]
theorem dd_big {n : Nat} (h : ¬ n < 10) : Lib.decDigits n = Lib.decDigits (n / 10) ++ [UInt8.ofNat (48 + n % 10)] := by rw [Lib.decDigits, dif_neg h]
theorem dd_all : ∀ (m n : Nat), n ≤ m → (Lib.decDigits n).all dig = true := by
  intro m
  induction m with
  | zero => intro n h; rw [dd_small (by omega)]; simp [dig]; omega
  | succ m ih =>
    intro n h
    by_cases g : n < 10
    · rw [dd_small g]; simp [dig]; omega
    · rw [dd_big g, List.all_append, ih (n / 10) (by omega)]
      simp [dig]; omega
theorem dd_val : ∀ (m n : Nat), n ≤ m → val 0 (Lib.decDigits n) = n := by
  intro m
  induction m with
  | zero => intro n h; rw [dd_small (by omega), val_one, dv_of n (by omega)]
  | succ m ih =>
    intro n h
    by_cases g : n < 10
    · rw [dd_small g, val_one, dv_of n g]
    · rw [dd_big g, val_snoc, ih (n / 10) (by omega), dv_of (n % 10) (Nat.mod_lt _ (by omega))]
      omega
theorem dd_ne (n : Nat) : Lib.decDigits n ≠ [] := by
  by_cases g : n < 10
  · rw [dd_small g]; simp
  · rw [dd_big g]; simp
theorem dd_head : ∀ (m n : Nat), n ≤ m → 1 ≤ n → (Lib.decDigits n).head? ≠ some 48 := by
  intro m
  induction m with
  | zero => intro n h h1; omega
  | succ m ih =>
    intro n h h1
    by_cases g : n < 10
    · rw [dd_small g]
      intro e
      simp only [List.head?_cons, Option.some.injEq] at e
      have := congrArg UInt8.toNat e
      rw [ofNat_toNat n g] at this
      have h48 : (48 : UInt8).toNat = 48 := by decide
      omega
    · rw [dd_big g, List.head?_append]
      have := ih (n / 10) (by omega) (by omega)
      cases hh : (Lib.decDigits (n / 10)).head? with
      | none => exact absurd (List.head?_eq_none_iff.1 hh) (dd_ne _)
      | some x => rw [hh] at this; simpa using this
theorem dd_len (m : Nat) : ∀ n : Nat, n < 10 ^ (m + 1) → (Lib.decDigits n).length ≤ m + 1 := by
  induction m with
  | zero => intro n h; rw [dd_small (by omega)]; simp
  | succ m ih =>
    intro n h
    by_cases g : n < 10
    · rw [dd_small g]; simp
    · rw [dd_big g]
      have := ih (n / 10) (by rw [Nat.pow_succ] at h; omega)
      simp; omega
theorem dd_uniq : ∀ (m : Nat) (l : List UInt8), l.length ≤ m → l ≠ [] → l.all dig = true → (1 < l.length → l.head? ≠ some 48) → Lib.decDigits (val 0 l) = l := by
  intro m
  induction m with
  | zero => intro l h h0; exact absurd (List.eq_nil_of_length_eq_zero (by omega)) h0
  | succ m ih =>
    intro l h h0 hd hh
    obtain ⟨q, c, rfl⟩ : ∃ q c, l = q ++ [c] := ⟨l.dropLast, l.getLast h0, (List.dropLast_concat_getLast h0).symm⟩
    rw [List.all_append, Bool.and_eq_true] at hd
    have hc := hd.2
    simp only [List.all_cons, List.all_nil, Bool.and_true] at hc
    obtain ⟨_, c2, c3⟩ := dig_dv hc
    have ec : UInt8.ofNat (48 + dv c) = c := by
      rw [← c3]
      exact UInt8.ofNat_toNat
    generalize hcd : dv c = d at ec c3
    have hd10 : d < 10 := by omega
    rw [val_snoc, hcd]
    by_cases hq : q = []
    · subst hq
      simp only [val_nil, Nat.zero_mul, Nat.zero_add, List.nil_append]
      rw [dd_small hd10, ec]
    · have hql : 0 < q.length := List.length_pos_iff.2 hq
      have hqh : q.head? ≠ some 48 := by
        have h1 := hh (by simp; omega)
        intro e
        exact h1 (by rw [List.head?_append, e]; rfl)
      have e := ih q (by simp at h; omega) hq hd.1 (fun _ => hqh)
      have h1 : 1 ≤ val 0 q := by
        rcases Nat.eq_zero_or_pos (val 0 q) with z | z
        · rw [z, dd_small (by omega), show UInt8.ofNat (48 + 0) = 48 by decide] at e
          exact absurd (by rw [← e]; simp) hqh
        · exact z
      rw [dd_big (by omega), show (val 0 q * 10 + d) / 10 = val 0 q by omega, show (val 0 q * 10 + d) % 10 = d by omega, e, ec]
/-! ### the reference's numbers -/
def numS (w : List UInt8) : Int := if w.length = 0 ∨ 10 < w.length ∨ (1 < w.length ∧ w.head? = some 48) then -1 else if w.all dig = true then (val 0 w : Int) else -1
theorem itoa_nn {n : Int} (h : 0 ≤ n) : Lib.itoa n = Lib.decDigits n.toNat := by unfold Lib.itoa; rw [if_neg (by omega)]
theorem itoa_ng {n : Int} (h : n < 0) : Lib.itoa n = 45 :: Lib.decDigits n.natAbs := by unfold Lib.itoa; rw [if_pos h]
theorem numS_sound {w : List UInt8} (h : numS w ≠ -1) : 0 ≤ numS w ∧ w = Lib.itoa (numS w) := by
  unfold numS at h ⊢
  split at h
  · exact absurd rfl h
  · rename_i h1
    rw [if_neg h1]
    split at h
    · rename_i h2
      rw [if_pos h2]
      refine ⟨by omega, ?_⟩
      rw [itoa_nn (by omega), Int.toNat_natCast]
      exact (dd_uniq w.length w (Nat.le_refl _) (fun e => h1 (.inl (by rw [e]; rfl))) h2 (fun g e => h1 (.inr (.inr ⟨g, e⟩)))).symm
    · exact absurd rfl h
theorem numS_of {v : Int} (h0 : 0 ≤ v) (h1 : v ≤ 1000000000) : numS (Lib.itoa v) = v := by
  obtain ⟨n, rfl⟩ := Int.eq_ofNat_of_zero_le h0
  rw [itoa_nn h0, Int.toNat_natCast]
  have hl := dd_len 9 n (by omega)
  have hn := List.length_pos_iff.2 (dd_ne n)
  unfold numS
  rw [if_neg, if_pos (dd_all n n (Nat.le_refl _)), dd_val n n (Nat.le_refl _)]
  rintro (h | h | ⟨h, e⟩)
  · omega
  · omega
  · by_cases g : 1 ≤ n
    · exact dd_head n n (Nat.le_refl _) g e
    · rw [dd_small (by omega)] at h; simp at h
def sgS (w : List UInt8) : Int × Bool := if w.head? = some 45 then (-(numS (w.drop 1)), decide (numS (w.drop 1) > 0)) else (numS w, decide (numS w ≥ 0))
theorem sg_sound {w : List UInt8} (h : (sgS w).2 = true) : w = Lib.itoa (sgS w).1 := by
  unfold sgS at h ⊢
  split at h
  · rename_i g
    rw [if_pos g]
    simp only [decide_eq_true_eq] at h
    obtain ⟨h0, e⟩ := numS_sound (w := w.drop 1) (by omega)
    rw [itoa_ng (by simp only; omega)]
    rw [itoa_nn h0] at e
    rw [show (-(numS (w.drop 1))).natAbs = (numS (w.drop 1)).toNat by omega, ← e]
    cases w with
    | nil => simp at g
    | cons x r => simp at g; subst g; rfl
  · rename_i g
    rw [if_neg g]
    simp only [decide_eq_true_eq] at h
    exact (numS_sound (by omega)).2
theorem dd_no45 (n : Nat) : (Lib.decDigits n).head? ≠ some 45 := by
  intro e
  have := List.all_eq_true.1 (dd_all n n (Nat.le_refl _)) 45 (List.mem_of_mem_head? (by rw [e]; rfl))
  simp [dig] at this
theorem sg_of {v : Int} (h : -1000000000 ≤ v ∧ v ≤ 1000000000) : sgS (Lib.itoa v) = (v, true) := by
  unfold sgS
  by_cases g : v < 0
  · have e : (Lib.itoa v).drop 1 = Lib.itoa (-v) := by rw [itoa_ng g, itoa_nn (by omega), show v.natAbs = (-v).toNat by omega]; rfl
    rw [if_pos (by rw [itoa_ng g]; rfl), e, numS_of (by omega) (by omega)]
    simp only [Prod.mk.injEq, decide_eq_true_eq]
    omega
  · rw [if_neg (by rw [itoa_nn (by omega)]; exact dd_no45 _), numS_of (by omega) h.2]
    simp only [Prod.mk.injEq, decide_eq_true_eq, true_and]
    omega
theorem itoa_inj {a b : Int} (ha : -1000000000 ≤ a ∧ a ≤ 1000000000) (hb : -1000000000 ≤ b ∧ b ≤ 1000000000) (h : Lib.itoa a = Lib.itoa b) : a = b := by
  have h1 := sg_of ha
  rw [h, sg_of hb] at h1
  exact (Prod.mk.inj h1).1.symm
theorem itoa_chars (v : Int) (c : UInt8) (h : c ∈ Lib.itoa v) : dig c = true ∨ c = 45 := by
  by_cases g : v < 0
  · rw [itoa_ng g] at h
    rcases List.mem_cons.1 h with h | h
    · exact .inr h
    · exact .inl (List.all_eq_true.1 (dd_all _ _ (Nat.le_refl _)) c h)
  · rw [itoa_nn (by omega)] at h
    exact .inl (List.all_eq_true.1 (dd_all _ _ (Nat.le_refl _)) c h)
theorem itoa_len (n : Int) (h : -1000000000 ≤ n ∧ n ≤ 1000000000) : (Lib.itoa n).length ≤ 11 := by
  by_cases g : n < 0
  · rw [itoa_ng g]
    have := dd_len 9 n.natAbs (by omega)
    simp; omega
  · rw [itoa_nn (by omega)]
    have := dd_len 9 n.toNat (by omega)
    omega
/-! ### ParseInt at a numeral -/
theorem pu_val : ∀ (l : List UInt8) (a : Nat), l.all dig = true → val a l ≤ 1000000000 → Lib.parseUintM (2 ^ 64 - 1) a l = .ok (val a l)
  | [], a, _, _ => by rw [val_nil, Lib.parseUintM]
  | c :: l, a, hd, h => by
    rw [List.all_cons, Bool.and_eq_true] at hd
    obtain ⟨h1, h2, _⟩ := dig_dv hd.1
    have h3 := val_ge l (a * 10 + dv c)
    rw [val_cons] at h ⊢
    rw [Lib.parseUintM, if_pos ⟨h1, h2⟩, if_neg (by omega), show c.toNat - 48 = dv c from rfl, if_neg (by omega), pu_val l _ hd.2 h]
theorem pi_of {v : Int} (h : -1000000000 ≤ v ∧ v ≤ 1000000000) : Lib.parseIntB 64 (Lib.itoa v) = .ok v := by
  by_cases g : v < 0
  · rw [itoa_ng g]
    unfold Lib.parseIntB
    have e45 : (45 : UInt8).toNat = 45 := by decide
    have hv := dd_val _ v.natAbs (Nat.le_refl _)
    have hp := pu_val (Lib.decDigits v.natAbs) 0 (dd_all _ _ (Nat.le_refl _)) (by omega)
    simp only [e45, or_true, if_true]
    rw [Lib.parseUintB, if_neg (dd_ne _), hp, hv]
    simp only [not_true_eq_false, false_and, if_false, true_and]
    rw [if_neg (by omega)]
    congr 1
    omega
  · rw [itoa_nn (by omega)]
    cases hc : Lib.decDigits v.toNat with
    | nil => exact absurd hc (dd_ne _)
    | cons c r =>
      have ha := dd_all _ v.toNat (Nat.le_refl _)
      have hv := dd_val _ v.toNat (Nat.le_refl _)
      have hp := pu_val (Lib.decDigits v.toNat) 0 ha (by omega)
      rw [hc] at ha hp hv
      rw [List.all_cons, Bool.and_eq_true] at ha
      have h1 := ha.1
      simp only [dig, decide_eq_true_eq] at h1
      unfold Lib.parseIntB
      simp only [show ¬ (c.toNat = 43 ∨ c.toNat = 45) by omega, if_false]
      rw [Lib.parseUintB, if_neg (by simp), hp, hv]
      simp only [show ¬ c.toNat = 45 by omega, not_false_eq_true, true_and, if_false, false_and]
      rw [if_neg (by omega)]
      congr 1
      omega
/-! ### the reference's reading of a number -/
theorem num_l (w : List UInt8) (hw : w.length ≤ 10) : ∀ (d i a : Nat), i + d = w.length → a < 10 ^ i → Ev (fun k => spec_l01Number.l0 k (bs w) (a : Int) (i : Int)) (if (w.drop i).all dig = true then (val a (w.drop i) : Int) else -1) := by
  intro d
  induction d with
  | zero =>
    intro i a hd ha
    refine Ev.step (fun k => rfl) ?_
    simp only [spec_l01Number.l0]
    refine Ev.if_neg (by rw [bs_size]; omega) (Ev.val (Ev.now _) ?_)
    rw [List.drop_eq_nil_of_le (by omega), val_nil]
    rfl
  | succ d ih =>
    intro i a hd ha
    have hi : i < w.length := by omega
    refine Ev.step (fun k => rfl) ?_
    simp only [spec_l01Number.l0, bt_bs w i hi]
    refine Ev.if_pos (by rw [bs_size]; omega) (Ev.if_pos (by omega) ?_)
    rw [List.drop_eq_getElem_cons hi]
    generalize w[i] = c
    by_cases h1 : dig c = true
    · obtain ⟨h2, h3, h4⟩ := dig_dv h1
      have hp : 10 ^ i ≤ 1000000000 := Nat.pow_le_pow_right (n := 10) (by decide) (show i ≤ 9 by omega)
      refine Ev.if_neg (by omega) (Ev.if_neg (by omega) ?_)
      have e1 : wrap64 (wrap64 ((a : Int) * 10) + ((c.toNat : Int) - 48) % 256) = ((a * 10 + dv c : Nat) : Int) := by
        rw [wid (a := (a : Int) * 10) (by omega) (by omega), wid (by omega) (by omega)]
        omega
      have e2 : wrap64 ((i : Int) + 1) = ((i + 1 : Nat) : Int) := by rw [wid (by omega) (by omega)]; omega
      rw [e1, e2]
      refine Ev.val (ih (i + 1) (a * 10 + dv c) (by omega) (by rw [Nat.pow_succ]; omega)) ?_
      rw [List.all_cons, h1, Bool.true_and, val_cons]
    · have hn : ¬ (48 ≤ c.toNat ∧ c.toNat ≤ 57) := fun g => h1 (by simp only [dig, decide_eq_true_eq]; exact g)
      have e : (c :: w.drop (i + 1)).all dig = false := by rw [List.all_cons, Bool.eq_false_iff.2 h1, Bool.false_and]
      rw [e]
      by_cases g : (c.toNat : Int) < 48
      · exact Ev.if_pos g (Ev.val (Ev.now _) (by simp))
      · exact Ev.if_neg g (Ev.if_pos (by omega) (Ev.val (Ev.now _) (by simp)))
theorem num_ev (w : List UInt8) : Ev (fun k => spec_l01Number.f k (bs w)) (numS w) := by
  have hno : ∀ b : Bool, b = true → numS w = -1 → Ev (fun k => spec_l01Number.j0 k (bs w) b) (numS w) := by
    intro b hb hn
    refine Ev.step (fun k => rfl) ?_
    simp only [spec_l01Number.j0]
    exact Ev.if_pos hb (Ev.val (Ev.now _) hn.symm)
  have hyes : ∀ b : Bool, b = false → w.length ≤ 10 → numS w = (if w.all dig = true then (val 0 w : Int) else -1) → Ev (fun k => spec_l01Number.j0 k (bs w) b) (numS w) := by
    intro b hb hl hn
    refine Ev.step (fun k => rfl) ?_
    simp only [spec_l01Number.j0]
    refine Ev.if_neg (by rw [hb]; simp) (Ev.val (num_l w hl w.length 0 0 (by omega) (by decide)) ?_)
    rw [List.drop_zero, hn]
  simp only [spec_l01Number.f, bs_size]
  by_cases h0 : w.length = 0
  · exact Ev.if_pos (by omega) (hno true rfl (by unfold numS; rw [if_pos (.inl h0)]))
  · refine Ev.if_neg (by omega) ?_
    by_cases h1 : 10 < w.length
    · exact Ev.if_pos (by omega) (hno true rfl (by unfold numS; rw [if_pos (.inr (.inl h1))]))
    · refine Ev.if_neg (by omega) ?_
      by_cases h2 : 1 < w.length
      · refine Ev.if_pos (by omega) (Ev.if_pos (by omega) ?_)
        have eb := bt_bs w 0 (by omega)
        rw [show bt (bs w) 0 = (w[0].toNat : Int) from eb]
        have eh : w.head? = some w[0] := by
          cases w with
          | nil => simp at h0
          | cons x r => rfl
        by_cases h3 : w[0] = 48
        · refine hno _ (by rw [h3]; decide) ?_
          unfold numS
          rw [if_pos (.inr (.inr ⟨h2, by rw [eh, h3]⟩))]
        · refine hyes _ ?_ (by omega) ?_
          · rw [beq_eq_false_iff_ne]
            intro e
            apply h3
            apply UInt8.toNat_inj.1
            have h48 : (48 : UInt8).toNat = 48 := by decide
            omega
          · unfold numS
            rw [if_neg]
            rintro (g | g | ⟨_, g⟩)
            · exact h0 g
            · exact h1 g
            · rw [eh] at g; exact h3 (Option.some.inj g)
      · refine Ev.if_neg (by omega) (hyes false rfl (by omega) ?_)
        unfold numS
        rw [if_neg]
        rintro (g | g | ⟨g, _⟩)
        · exact h0 g
        · exact h1 g
        · exact h2 g
theorem numS_ge (w : List UInt8) : -1 ≤ numS w ∧ numS w < 10000000000 := by
  unfold numS
  split
  · omega
  · rename_i h
    split
    · rename_i h2
      have := val_lt w 0 0 h2 (by decide)
      have hp : 10 ^ (0 + w.length) ≤ 10 ^ 10 := Nat.pow_le_pow_right (by decide) (by omega)
      have e10 : 10 ^ 10 = 10000000000 := by decide
      omega
    · omega
theorem sg_ev (w : List UInt8) : Ev (fun k => spec_l01Signed.f k (bs w)) (sgS w) := by
  have hj : ∀ b : Bool, b = decide (w.head? = some 45) → (b = true → 1 ≤ w.length) → Ev (fun k => spec_l01Signed.j0 k (bs w) b) (sgS w) := by
    intro b hb hl
    refine Ev.step (fun k => rfl) ?_
    simp only [spec_l01Signed.j0]
    unfold sgS
    by_cases g : w.head? = some 45
    · rw [decide_eq_true g] at hb
      have := hl hb
      rw [if_pos g]
      refine Ev.if_pos hb (Ev.if_pos (by rw [bs_size]; omega) ?_)
      rw [bs_cut, bs_size, List.take_of_length_le (by simp)]
      refine Ev.bind (num_ev (w.drop 1)) (Ev.val (Ev.now _) ?_)
      have := numS_ge (w.drop 1)
      rw [wid (by omega) (by omega)]
    · rw [decide_eq_false g] at hb
      rw [if_neg g]
      exact Ev.if_neg (by rw [hb]; simp) (Ev.bind (num_ev w) (Ev.now _))
  simp only [spec_l01Signed.f, bs_size]
  cases w with
  | nil => exact Ev.if_neg (by simp) (hj false (by simp) (by simp))
  | cons x r =>
    refine Ev.if_pos (by simp only [List.length_cons]; omega) (Ev.if_pos (by simp only [List.length_cons]; omega) (hj _ ?_ (by simp)))
    have eb := bt_bs (x :: r) 0 (by simp)
    rw [show bt (bs (x :: r)) 0 = (x.toNat : Int) from eb]
    rw [Bool.eq_iff_iff, beq_iff_eq, decide_eq_true_iff]
    simp only [List.head?_cons, Option.some.injEq]
    constructor
    · intro e
      apply UInt8.toNat_inj.1
      have h45 : (45 : UInt8).toNat = 45 := by decide
      omega
    · intro e; rw [e]; decide
/-! ### the parts of a text -/
def pre (p : List UInt8) (L : List (List UInt8)) : List (List UInt8) :=
  match L with
  | [] => [p]
  | h :: t => (p ++ h) :: t
def spl (c : UInt8) : List UInt8 → List (List UInt8)
  | [] => [[]]
  | x :: r => if x = c then [] :: spl c r else pre [x] (spl c r)
theorem pre_pre (p q : List UInt8) (L : List (List UInt8)) : pre p (pre q L) = pre (p ++ q) L := by
  cases L with
  | nil => rfl
  | cons h t => simp [pre]
theorem spl_ne (c : UInt8) (l : List UInt8) : spl c l ≠ [] := by
  cases l with
  | nil => simp [spl]
  | cons x r =>
    unfold spl
    split
    · simp
    · cases spl c r <;> simp [pre]
theorem pre_nil (c : UInt8) (l : List UInt8) : pre [] (spl c l) = spl c l := by
  cases h : spl c l with
  | nil => exact absurd h (spl_ne c l)
  | cons x r => simp [pre]
theorem spl_no (c : UInt8) : ∀ l : List UInt8, c ∉ l → spl c l = [l]
  | [], _ => rfl
  | x :: r, h => by
    rw [spl, if_neg (fun e => h (by rw [e]; exact List.mem_cons_self ..)), spl_no c r (fun g => h (List.mem_cons_of_mem _ g))]
    rfl
theorem spl_hit (c : UInt8) (r : List UInt8) : ∀ l : List UInt8, c ∉ l → spl c (l ++ c :: r) = l :: spl c r
  | [], _ => by rw [List.nil_append, spl, if_pos rfl]
  | x :: l, h => by
    rw [List.cons_append, spl, if_neg (fun e => h (by rw [e]; exact List.mem_cons_self ..)), spl_hit c r l (fun g => h (List.mem_cons_of_mem _ g))]
    rfl
theorem spl_len (c : UInt8) : ∀ l : List UInt8, l.length + 1 = ((spl c l).map (fun w => w.length + 1)).sum
  | [] => by simp [spl]
  | x :: r => by
    have ih := spl_len c r
    unfold spl
    split
    · simp; omega
    · cases h : spl c r with
      | nil => exact absurd h (spl_ne c r)
      | cons y t => rw [h] at ih; simp [pre] at ih ⊢; omega
theorem spl_mem (c d : UInt8) (hcd : d ≠ c) : ∀ l : List UInt8, d ∈ l → ∃ w ∈ spl c l, d ∈ w
  | [], h => absurd h (by simp)
  | x :: r, h => by
    unfold spl
    split
    · rename_i e
      rcases List.mem_cons.1 h with g | g
      · exact absurd (g.trans e) hcd
      · obtain ⟨w, hw, hd⟩ := spl_mem c d hcd r g
        exact ⟨w, List.mem_cons_of_mem _ hw, hd⟩
    · cases hs : spl c r with
      | nil => exact absurd hs (spl_ne c r)
      | cons y t =>
        rcases List.mem_cons.1 h with g | g
        · exact ⟨[x] ++ y, by simp [pre], by simp [g]⟩
        · obtain ⟨w, hw, hd⟩ := spl_mem c d hcd r g
          rw [hs] at hw
          rcases List.mem_cons.1 hw with q | q
          · exact ⟨[x] ++ y, by simp [pre], by rw [← q]; simp [hd]⟩
          · exact ⟨w, by simp [pre, q], hd⟩
theorem spl_cnt (c : UInt8) : ∀ l : List UInt8, (spl c l).length ≤ l.length + 1
  | [] => by simp [spl]
  | x :: r => by
    have ih := spl_cnt c r
    unfold spl
    split
    · simp; omega
    · cases h : spl c r with
      | nil => exact absurd h (spl_ne c r)
      | cons y t => rw [h] at ih; simp [pre] at ih ⊢; omega
theorem first_of (c : UInt8) : ∀ l : List UInt8, c ∈ l → ∃ a b, l = a ++ c :: b ∧ c ∉ a
  | [], h => absurd h (by simp)
  | x :: r, h => by
    by_cases e : c = x
    · exact ⟨[], r, by rw [e]; rfl, by simp⟩
    · obtain ⟨a, b, h1, h2⟩ := first_of c r ((List.mem_cons.1 h).resolve_left e)
      exact ⟨x :: a, b, by rw [h1]; rfl, by simp [e, h2]⟩
theorem ib_no (c : UInt8) : ∀ l : List UInt8, c ∉ l → Lib.indexByte l c = -1
  | [], _ => rfl
  | x :: r, h => by
    rw [Lib.indexByte, ib_no c r (fun g => h (List.mem_cons_of_mem _ g))]
    have : (x == c) = false := beq_eq_false_iff_ne.2 (fun e => h (by rw [e]; exact List.mem_cons_self ..))
    simp [this]
theorem ib_hit (c : UInt8) (r : List UInt8) : ∀ l : List UInt8, c ∉ l → Lib.indexByte (l ++ c :: r) c = l.length
  | [], _ => by simp [Lib.indexByte]
  | x :: l, h => by
    have hx : (x == c) = false := beq_eq_false_iff_ne.2 (fun e => h (by rw [e]; exact List.mem_cons_self ..))
    rw [List.cons_append, Lib.indexByte, ib_hit c r l (fun g => h (List.mem_cons_of_mem _ g)), hx]
    simp only [Bool.false_eq_true, if_false, List.length_cons]
    rw [if_neg (by rw [beq_iff_eq]; omega)]
    omega
theorem split_eq (c : UInt8) : ∀ (m : Nat) (l : List UInt8), l.length ≤ m → Lib.splitB (bs [c]) 0 (Lib.countB (bs l) (bs [c])) (bs l) = (spl c l).map bs := by
  have one : (bs [c]).size = 1 := by rw [bs_size]; rfl
  have hix : ∀ l : List UInt8, Lib.indexB (bs l) (bs [c]) = Lib.indexByte l c := by
    intro l
    have : Lib.indexB (bs l) (bs [c]) = Lib.index l [c] := by simp [Lib.indexB, bs]
    rw [this, Lib.index_one]
  have hmiss : ∀ l : List UInt8, c ∉ l → Lib.splitB (bs [c]) 0 (Lib.countB (bs l) (bs [c])) (bs l) = (spl c l).map bs := by
    intro l h
    rw [Lib.splitB_miss _ _ _ _ ((hix l).trans (ib_no c l h)), spl_no c l h]
    rfl
  intro m
  induction m with
  | zero =>
    intro l h
    obtain rfl := List.eq_nil_of_length_eq_zero (show l.length = 0 by omega)
    exact hmiss [] (by simp)
  | succ m ih =>
    intro l h
    by_cases hc : c ∈ l
    · obtain ⟨a, b, rfl, ha⟩ := first_of c l hc
      have hi : Lib.indexB (bs (a ++ c :: b)) (bs [c]) = (a.length : Int) := (hix _).trans (ib_hit c b a ha)
      have e1 : (bs (a ++ c :: b)).extract (a.length + (bs [c]).size) (bs (a ++ c :: b)).size = bs b := by
        rw [one, bs_cut, bs_size]
        congr 1
        rw [List.take_of_length_le (by simp; omega)]
        simp
      rw [Lib.countB_hit _ _ a.length (by rw [one]; exact Nat.le_refl _) hi, e1, Nat.add_comm 1, Lib.splitB_hit _ _ _ _ a.length hi, e1, ih b (by simp at h; omega), spl_hit c b a ha, List.map_cons]
      congr 1
      rw [bs_cut]
      congr 1
      simp
    · exact hmiss l hc
theorem split_l (w : List UInt8) (hw : w.length ≤ 1048576) (c : UInt8) : ∀ (d i a : Nat) (out : List ByteArray), i + d = w.length → a ≤ i → out.length ≤ i → Ev (fun k => spec_l01Split.l0 k (bs w) (c.toNat : Int) out (a : Int) (i : Int)) (out ++ (pre ((w.drop a).take (i - a)) (spl c (w.drop i))).map bs) := by
  intro d
  induction d with
  | zero =>
    intro i a out hd ha ho
    refine Ev.step (fun k => rfl) ?_
    simp only [spec_l01Split.l0, Int.toNat_natCast]
    refine Ev.if_neg (by rw [bs_size]; omega) (Ev.if_pos (by omega) (Ev.if_pos (by rw [bs_size]; omega) (Ev.if_pos (by omega) (Ev.val (Ev.now _) ?_))))
    rw [List.drop_eq_nil_of_le (show w.length ≤ i by omega), bs_cut, bs_size, show i = w.length by omega]
    simp [spl, pre]
  | succ d ih =>
    intro i a out hd ha ho
    have hi : i < w.length := by omega
    have e2 : wrap64 ((i : Int) + 1) = ((i + 1 : Nat) : Int) := by rw [wid (by omega) (by omega)]; omega
    refine Ev.step (fun k => rfl) ?_
    simp only [spec_l01Split.l0, bt_bs w i hi, Int.toNat_natCast, e2]
    refine Ev.if_pos (by rw [bs_size]; omega) (Ev.if_pos (by omega) ?_)
    rw [List.drop_eq_getElem_cons hi]
    by_cases h : w[i] = c
    · refine Ev.if_pos (by rw [h]) (Ev.if_pos (by omega) (Ev.if_pos (by omega) (Ev.if_pos (by rw [bs_size]; omega) (Ev.if_pos (by omega) ?_))))
      refine Ev.val (ih (i + 1) (i + 1) _ (by omega) (Nat.le_refl _) (by simp; omega)) ?_
      rw [spl, if_pos h, Nat.sub_self, List.take_zero, pre_nil, bs_cut]
      simp [pre]
    · refine Ev.if_neg (fun e => h (UInt8.toNat_inj.1 (by omega))) ?_
      refine Ev.val (ih (i + 1) a out (by omega) (by omega) (by omega)) ?_
      rw [spl, if_neg h, pre_pre]
      congr 3
      rw [show i + 1 - a = i - a + 1 by omega, List.take_add_one, List.getElem?_drop, show a + (i - a) = i by omega, List.getElem?_eq_getElem hi]
      rfl
theorem split_ev (w : List UInt8) (hw : w.length ≤ 1048576) (c : UInt8) : Ev (fun k => spec_l01Split.f k (bs w) (c.toNat : Int)) ((spl c w).map bs) := by
  simp only [spec_l01Split.f]
  refine Ev.val (split_l w hw c w.length 0 0 [] (by omega) (Nat.le_refl _) (Nat.le_refl _)) ?_
  rw [Nat.sub_self, List.take_zero, List.drop_zero, pre_nil, List.nil_append]
/-! ### the program's numbers -/
theorem dec_eq {n : Int} (h : -1000000000 ≤ n ∧ n ≤ 1000000000) : impl_decimal.f n = some (bs (Lib.itoa n)) := by
  unfold impl_decimal.f strconv_FormatInt.f
  rw [if_pos (by omega)]
  rfl
theorem nm_some (w : List UInt8) (hw : w.length ≤ 1048576) (m : Int) (hm : 0 ≤ m ∧ m ≤ 1000000000) : ∃ r : Int × Bool, impl_number.f (bs w) m = some r ∧ (r.2 = true → w = Lib.itoa r.1 ∧ -m ≤ r.1 ∧ r.1 ≤ m) := by
  unfold impl_number.f
  rw [if_pos (by rw [bs_size]; omega), within_eq, wid (by omega) (by omega)]
  generalize impl_number.read (bs w) = q
  obtain ⟨v, ok⟩ := q
  cases ok with
  | false => exact ⟨(v, false), by simp, fun h => by simp at h⟩
  | true =>
    by_cases h : -m ≤ v ∧ v ≤ m
    · simp only [if_true, Option.bind_some, decide_eq_true h]
      rw [dec_eq (by omega)]
      refine ⟨_, rfl, fun g => ?_⟩
      simp only [ByteArray.toList_eq, bs, beq_iff_eq] at g
      exact ⟨g.symm, h⟩
    · refine ⟨(v, false), ?_, fun g => by simp at g⟩
      simp only [if_true, Option.bind_some, decide_eq_false h, Bool.false_eq_true, if_false]
theorem nm_of (m v : Int) (hm : 0 ≤ m ∧ m ≤ 1000000000) (h : -m ≤ v ∧ v ≤ m) : impl_number.f (bs (Lib.itoa v)) m = some (v, true) := by
  have hl := itoa_len v (by omega)
  have hr : impl_number.read (bs (Lib.itoa v)) = (v, true) := by
    unfold impl_number.read
    have e : (bs (Lib.itoa v)).data.toList = Lib.itoa v := by simp [bs]
    rw [e, pi_of (by omega)]
  unfold impl_number.f
  rw [if_pos (by rw [bs_size]; omega), hr, within_eq, wid (by omega) (by omega), decide_eq_true h]
  simp only [if_true, Option.bind_some]
  rw [dec_eq (by omega), Option.bind_some]
  simp
def good (w : List UInt8) : Prop := ∃ v : Int, -1000000000 ≤ v ∧ v ≤ 1000000000 ∧ w = Lib.itoa v
/-- What is told of the words, by the reference and by the program. -/
def sres (n : Int) : List (List UInt8) → List Int → Int × List Int × Bool
  | [], l => if isCyc n l = true then (n, l, true) else (0, [], false)
  | w :: r, l => if (sgS w).2 = true then sres n r (l ++ [(sgS w).1]) else (0, [], false)
def nm (w : List UInt8) : Int × Bool := (impl_number.f (bs w) 1000000000).getD (0, false)
def ires (n : Int) : List (List UInt8) → List Int → Int × List Int × Int
  | [], l => if isCyc n l = true then (n, l, 0) else (0, [], 6)
  | w :: r, l => if (nm w).2 = true then ires n r (l ++ [(nm w).1]) else (0, [], 6)
def code (r : Int × List Int × Bool) : Int × List Int × Int := if r.2.2 = true then (r.1, r.2.1, 0) else (0, [], 6)
theorem nm_eq (w : List UInt8) (hw : w.length ≤ 1048576) : impl_number.f (bs w) 1000000000 = some (nm w) := by
  obtain ⟨r, e, _⟩ := nm_some w hw 1000000000 (by omega)
  unfold nm
  rw [e]
  rfl
theorem nm_good {w : List UInt8} (hw : w.length ≤ 1048576) (h : (nm w).2 = true) : good w := by
  obtain ⟨r, e, g⟩ := nm_some w hw 1000000000 (by omega)
  unfold nm at h
  rw [e] at h
  obtain ⟨g1, g2, g3⟩ := g h
  exact ⟨r.1, g2, g3, g1⟩
theorem sres_big (n : Int) : ∀ (W : List (List UInt8)) (l : List Int), l.all (small 1000000000) = false → code (sres n W l) = (0, [], 6)
  | [], l, h => by
    have : isCyc n l = false := by simp [isCyc, h]
    simp [sres, this, code]
  | w :: r, l, h => by
    unfold sres
    split
    · exact sres_big n r _ (by rw [List.all_append, h, Bool.false_and])
    · rfl
theorem agree (n : Int) : ∀ (W : List (List UInt8)) (l : List Int), (∀ w ∈ W, w.length ≤ 1048576) → code (sres n W l) = ires n W l
  | [], l, _ => by
    unfold sres ires
    by_cases h : isCyc n l = true
    · rw [if_pos h, if_pos h]; rfl
    · rw [if_neg h, if_neg h]; rfl
  | w :: r, l, hW => by
    have hw := hW w (List.mem_cons_self ..)
    have hr := agree n r
    by_cases g : good w
    · obtain ⟨v, g1, g2, rfl⟩ := g
      have e : nm (Lib.itoa v) = (v, true) := by unfold nm; rw [nm_of 1000000000 v (by omega) ⟨g1, g2⟩]; rfl
      rw [sres, ires, sg_of ⟨g1, g2⟩, e, if_pos rfl, if_pos rfl]
      exact hr _ (fun x hx => hW x (List.mem_cons_of_mem _ hx))
    · rw [ires, if_neg (fun h => g (nm_good hw h)), sres]
      by_cases h : (sgS w).2 = true
      · rw [if_pos h]
        refine sres_big n r _ ?_
        have hn : small 1000000000 (sgS w).1 = false := by
          unfold small
          rw [decide_eq_false_iff_not]
          intro q
          exact g ⟨(sgS w).1, q.1, q.2, sg_sound h⟩
        rw [List.all_append, List.all_cons, hn, Bool.false_and, Bool.and_false]
      · rw [if_neg h]; rfl
theorem ires_len (n : Int) : ∀ (W : List (List UInt8)) (l : List Int), (∀ w ∈ W, w.length ≤ 1048576) → ires n W l = (0, [], 6) ∨ ((1 ≤ n ∧ n ≤ 16) ∧ (∀ w ∈ W, good w) ∧ l.length + W.length ≤ 16 ∧ (ires n W l).2.1.length ≤ 16)
  | [], l, _ => by
    unfold ires
    by_cases h : isCyc n l = true
    · rw [if_pos h]
      simp only [isCyc, Bool.and_eq_true, decide_eq_true_eq] at h
      have := phiT_le n h.1
      exact .inr ⟨h.1, fun w hw => absurd hw (by simp), by simp; omega, by simp; omega⟩
    · exact .inl (by rw [if_neg h])
  | w :: r, l, hW => by
    unfold ires
    by_cases h : (nm w).2 = true
    · rw [if_pos h]
      rcases ires_len n r (l ++ [(nm w).1]) (fun x hx => hW x (List.mem_cons_of_mem _ hx)) with g | ⟨g0, g1, g2, g3⟩
      · exact .inl g
      · refine .inr ⟨g0, fun x hx => ?_, by simp at g2 ⊢; omega, g3⟩
        rcases List.mem_cons.1 hx with q | q
        · rw [q]; exact nm_good (hW w (List.mem_cons_self ..)) h
        · exact g1 x q
    · exact .inl (by rw [if_neg h])
theorem rd_bs (W : List (List UInt8)) (i : Nat) (h : i < W.length) : rdOf ByteArray.empty (W.map bs) (i : Int) = bs W[i] := by
  simp [rdOf, List.getD_eq_getElem?_getD, List.getElem?_eq_getElem h]
theorem read_l (n : Int) (W : List (List UInt8)) (hW : W.length ≤ 1048576) : ∀ (d i : Nat) (l : List Int), i + d = W.length → l.length ≤ i → Ev (fun k => spec_l01Read.l0 k (W.map bs) (i : Int) n l) (sres n (W.drop i) l) := by
  intro d
  induction d with
  | zero =>
    intro i l hd hl
    refine Ev.step (fun k => rfl) ?_
    simp only [spec_l01Read.l0, List.length_map]
    refine Ev.if_neg (by omega) (Ev.bind (is_spec n l (by omega)) ?_)
    rw [List.drop_eq_nil_of_le (by omega), sres]
    exact Ev.const (fun _ => by cases isCyc n l <;> rfl)
  | succ d ih =>
    intro i l hd hl
    have hi : i < W.length := by omega
    have e2 : wrap64 ((i : Int) + 1) = ((i + 1 : Nat) : Int) := by rw [wid (by omega) (by omega)]; omega
    refine Ev.step (fun k => rfl) ?_
    simp only [spec_l01Read.l0, List.length_map, rd_bs W i hi, e2]
    refine Ev.if_pos (by omega) (Ev.if_pos (by omega) (Ev.bind (sg_ev W[i]) ?_))
    rw [List.drop_eq_getElem_cons hi, sres]
    by_cases h : (sgS W[i]).2 = true
    · rw [if_pos h]
      exact Ev.if_pos h (Ev.if_pos (by omega) (ih (i + 1) _ (by omega) (by simp; omega)))
    · rw [if_neg h]
      exact Ev.if_neg h (Ev.now _)
theorem parts_l (n : Int) (W : List (List UInt8)) (hW : W.length ≤ 1048576) (hw : ∀ w ∈ W, w.length ≤ 1048576) : ∀ (d i : Nat) (l : List Int), i + d = W.length → l.length ≤ i → Ev (fun k => impl_ParseCyclo.l0 k (W.map bs) (W.length : Int) (i : Int) n l) (ires n (W.drop i) l) := by
  intro d
  induction d with
  | zero =>
    intro i l hd hl
    refine Ev.step (fun k => rfl) ?_
    simp only [impl_ParseCyclo.l0]
    refine Ev.if_neg (by omega) (Ev.bind (is_impl n l) ?_)
    rw [List.drop_eq_nil_of_le (by omega), ires]
    exact Ev.const (fun _ => by cases isCyc n l <;> rfl)
  | succ d ih =>
    intro i l hd hl
    have hi : i < W.length := by omega
    have e2 : wrap64 ((i : Int) + 1) = ((i + 1 : Nat) : Int) := by rw [wid (by omega) (by omega)]; omega
    refine Ev.step (fun k => rfl) ?_
    simp only [impl_ParseCyclo.l0, List.length_map, rd_bs W i hi, e2, nm_eq W[i] (hw _ (List.getElem_mem hi)), Option.bind_some]
    rw [List.drop_eq_getElem_cons hi, ires]
    refine Ev.if_pos (by omega) (Ev.if_pos (by omega) (Ev.if_pos (by omega) ?_))
    by_cases h : (nm W[i]).2 = true
    · rw [if_pos h]
      exact Ev.if_pos h (Ev.if_pos (by omega) (ih (i + 1) _ (by omega) (by simp; omega)))
    · rw [if_neg h]
      exact Ev.if_neg h (Ev.now _)
theorem splitF (b : List UInt8) (hb : b.length ≤ 1048576) : strings_Split.f (bs b) (⟨#[58]⟩ : ByteArray) = some ((spl 58 b).map bs) := by
  have e : (⟨#[58]⟩ : ByteArray) = bs [58] := rfl
  have h1 : 1 ≤ (bs [58]).size := by rw [bs_size]; exact Nat.le_refl _
  have hc := Lib.countB_le (bs [58]) h1 (bs b).size (bs b) (Nat.le_refl _)
  rw [bs_size] at hc
  unfold strings_Split.f
  rw [e, if_pos ⟨by rw [bs_size]; omega, h1, Lib.splitB_all (bs [58]) h1 0 _ (bs b) rfl, by omega⟩, split_eq 58 b.length b (Nat.le_refl _)]
theorem cut_no (t : List UInt8) (ht : t.length ≤ 1048576) (h : (64 : UInt8) ∉ t) : strings_Cut.f (bs t) (⟨#[64]⟩ : ByteArray) = some (bs t, bs [], false) := by
  have e : (bs t).data.toList = t := by simp [bs]
  unfold strings_Cut.f
  rw [if_pos (by rw [bs_size]; omega), e, show (⟨#[64]⟩ : ByteArray).data.toList = [64] from rfl]
  unfold Lib.cut
  rw [Lib.index_one, ib_no 64 t h]
  rfl
theorem cut_hit (a b : List UInt8) (ht : (a ++ 64 :: b).length ≤ 1048576) (h : (64 : UInt8) ∉ a) : strings_Cut.f (bs (a ++ 64 :: b)) (⟨#[64]⟩ : ByteArray) = some (bs a, bs b, true) := by
  have e : (bs (a ++ 64 :: b)).data.toList = a ++ 64 :: b := by simp [bs]
  unfold strings_Cut.f
  rw [if_pos (by rw [bs_size]; omega), e, show (⟨#[64]⟩ : ByteArray).data.toList = [64] from rfl]
  unfold Lib.cut
  rw [Lib.index_one, ib_hit 64 b a h, if_pos (by omega)]
  simp [bs]
theorem j0_no (b : ByteArray) (n : Int) : Ev (fun k => impl_ParseCyclo.j0 k b n true) (0, [], 6) := by
  refine Ev.step (fun k => rfl) ?_
  simp only [impl_ParseCyclo.j0]
  exact Ev.if_pos (by simp) (Ev.now _)
theorem words_len (b : List UInt8) : ∀ w ∈ spl 58 b, w.length ≤ b.length := by
  intro w hw
  have h := spl_len 58 b
  have : ∀ (L : List (List UInt8)), w ∈ L → w.length + 1 ≤ (L.map (fun w => w.length + 1)).sum := by
    intro L
    induction L with
    | nil => intro h; exact absurd h (by simp)
    | cons x r ih =>
      intro h
      rw [List.map_cons, List.sum_cons]
      rcases List.mem_cons.1 h with q | q
      · rw [q]; omega
      · have := ih q; omega
  have := this _ hw
  omega
theorem j0_yes (b : List UInt8) (hb : b.length < 1048576) (n : Int) : Ev (fun k => impl_ParseCyclo.j0 k (bs b) n false) (ires n (spl 58 b) []) := by
  refine Ev.step (fun k => rfl) ?_
  simp only [impl_ParseCyclo.j0, splitF b (by omega), Option.bind_some, List.length_map]
  have hc := spl_cnt 58 b
  refine Ev.if_neg (by simp) (Ev.val (parts_l n (spl 58 b) (by omega) (fun w hw => by have := words_len b w hw; omega) (spl 58 b).length 0 [] (by omega) (Nat.le_refl _)) ?_)
  rw [List.drop_zero]
theorem spec_no (t : List UInt8) (ht : t.length ≤ 1048576) (h : (spl 64 t).length ≠ 2) : Ev (fun k => spec_ParseCyclo.f k (bs t)) (0, [], 6) := by
  have hs : Ev (fun k => spec_l01Split.f k (bs t) 64) ((spl 64 t).map bs) := split_ev t ht 64
  have hr1 : Ev (fun k => spec_l01Read.f k (bs t)) (0, [], false) := by
    simp only [spec_l01Read.f]
    refine Ev.bind hs ?_
    exact Ev.if_neg (by rw [List.length_map]; omega) (Ev.now _)
  simp only [spec_ParseCyclo.f]
  refine Ev.bind hr1 ?_
  exact Ev.if_neg (by simp) (Ev.now _)
theorem spec_yes (a b : List UInt8) (ht : (a ++ 64 :: b).length ≤ 1048576) (h : spl 64 (a ++ 64 :: b) = [a, b]) : Ev (fun k => spec_ParseCyclo.f k (bs (a ++ 64 :: b))) (code (sres (numS a) (spl 58 b) [])) := by
  have hl : a.length + b.length + 1 ≤ 1048576 := by simp at ht; omega
  have hs : Ev (fun k => spec_l01Split.f k (bs (a ++ 64 :: b)) 64) ((spl 64 (a ++ 64 :: b)).map bs) := split_ev _ ht 64
  have hs2 : Ev (fun k => spec_l01Split.f k (bs b) 58) ((spl 58 b).map bs) := split_ev b (by omega) 58
  rw [h] at hs
  have hc := spl_cnt 58 b
  have hr := read_l (numS a) (spl 58 b) (by omega) (spl 58 b).length 0 [] (by omega) (Nat.le_refl _)
  rw [List.drop_zero] at hr
  have hr1 : Ev (fun k => spec_l01Read.f k (bs (a ++ 64 :: b))) (sres (numS a) (spl 58 b) []) := by
    simp only [spec_l01Read.f]
    refine Ev.bind hs ?_
    refine Ev.if_pos rfl ?_
    refine Ev.if_pos (by simp) ?_
    refine Ev.bind (num_ev a) ?_
    refine Ev.if_pos (by simp) ?_
    exact Ev.bind hs2 hr
  simp only [spec_ParseCyclo.f]
  refine Ev.bind hr1 ?_
  unfold code
  by_cases g : (sres (numS a) (spl 58 b) []).2.2 = true
  · exact Ev.val (Ev.if_pos g (Ev.now _)) (if_pos g).symm
  · exact Ev.val (Ev.if_neg g (Ev.now _)) (if_neg g).symm
theorem not64 {w : List UInt8} (h : good w) : (64 : UInt8) ∉ w := by
  obtain ⟨v, _, _, rfl⟩ := h
  intro g
  rcases itoa_chars v 64 g with q | q
  · exact absurd q (by decide)
  · exact absurd q (by decide)
theorem small_text (a b : List UInt8) (ha : a.length ≤ 11) (h : ∀ w ∈ spl 58 b, good w) (hl : (spl 58 b).length ≤ 16) : (a ++ 64 :: b).length ≤ 1000 := by
  have h1 := spl_len 58 b
  have : ∀ (L : List (List UInt8)), (∀ w ∈ L, good w) → (L.map (fun w => w.length + 1)).sum ≤ 12 * L.length := by
    intro L
    induction L with
    | nil => intro _; simp
    | cons x r ih =>
      intro hg
      obtain ⟨v, g1, g2, rfl⟩ := hg x (List.mem_cons_self ..)
      have h2 := itoa_len v ⟨g1, g2⟩
      have h3 := ih (fun w hw => hg w (List.mem_cons_of_mem _ hw))
      rw [List.map_cons, List.sum_cons, List.length_cons]
      omega
  have := this _ h
  simp
  omega
theorem both (t : List UInt8) (ht : t.length ≤ 1048576) : ∃ r : Int × List Int × Int, r.2.1.length ≤ 1000 ∧ Ev (fun k => spec_ParseCyclo.f k (bs t)) r ∧ Ev (fun k => impl_ParseCyclo.f k (bs t)) r := by
  by_cases h : (64 : UInt8) ∈ t
  · obtain ⟨a, b, rfl, ha⟩ := first_of 64 t h
    have hl : a.length + b.length + 1 ≤ 1048576 := by simp at ht; omega
    obtain ⟨r, e, hr⟩ := nm_some a (by omega) 16 (by omega)
    have hwl : ∀ w ∈ spl 58 b, w.length ≤ 1048576 := fun w hw => by have := words_len b w hw; omega
    have himp : ∀ q : Int × List Int × Int, (r.2 = true → (if (1000 : Int) < ((a ++ 64 :: b).length : Int) then ((0, [], 6) : Int × List Int × Int) else ires r.1 (spl 58 b) []) = q) → (r.2 = false → q = (0, [], 6)) → Ev (fun k => impl_ParseCyclo.f k (bs (a ++ 64 :: b))) q := by
      intro q h1 h2
      simp only [impl_ParseCyclo.f, cut_hit a b ht ha, Option.bind_some, e]
      refine Ev.if_pos (by simp) ?_
      cases hb : r.2 with
      | true =>
        refine Ev.if_pos rfl (Ev.val ?_ (h1 hb))
        by_cases g : (1000 : Int) < ((a ++ 64 :: b).length : Int)
        · rw [if_pos g]
          have : decide (((bs (a ++ 64 :: b)).size : Int) > 1000) = true := decide_eq_true (by rw [bs_size]; omega)
          rw [this]
          exact j0_no _ _
        · rw [if_neg g]
          have : decide (((bs (a ++ 64 :: b)).size : Int) > 1000) = false := decide_eq_false (by rw [bs_size]; omega)
          rw [this]
          exact j0_yes b (by omega) _
      | false =>
        rw [h2 hb]
        exact Ev.if_neg (by simp) (j0_no _ _)
    have hs : spl 64 (a ++ 64 :: b) = a :: spl 64 b := spl_hit 64 b a ha
    by_cases hb : (64 : UInt8) ∈ b
    · have hn : (spl 64 (a ++ 64 :: b)).length ≠ 2 := by
        obtain ⟨c, d, rfl, hc⟩ := first_of 64 b hb
        rw [hs, spl_hit 64 d c hc]
        have := List.length_pos_iff.2 (spl_ne 64 d)
        simp only [List.length_cons]
        omega
      refine ⟨(0, [], 6), by simp, spec_no _ ht hn, himp _ (fun _ => ?_) (fun _ => rfl)⟩
      split
      · rfl
      · rcases ires_len r.1 (spl 58 b) [] hwl with g | ⟨_, g, _⟩
        · exact g
        · obtain ⟨w, hw, hd⟩ := spl_mem 58 64 (by decide) b hb
          exact absurd hd (not64 (g w hw))
    · rw [spl_no 64 b hb] at hs
      have hag := agree (numS a) (spl 58 b) [] hwl
      have hsp := spec_yes a b ht hs
      rw [hag] at hsp
      refine ⟨_, ?_, hsp, himp _ (fun ho => ?_) (fun ho => ?_)⟩
      · rcases ires_len (numS a) (spl 58 b) [] hwl with g | ⟨_, _, _, g⟩
        · rw [g]; simp
        · omega
      · obtain ⟨g1, g2, g3⟩ := hr ho
        by_cases hp : 0 ≤ r.1
        · have en : numS a = r.1 := by rw [g1]; exact numS_of hp (by omega)
          rw [en]
          split
          · rename_i hlong
            rcases ires_len r.1 (spl 58 b) [] hwl with g | ⟨_, q1, q2, _⟩
            · exact g.symm
            · have := small_text a b (by rw [g1]; exact itoa_len _ (by omega)) q1 (by simp at q2; exact q2)
              omega
          · rfl
        · have hz : ∀ n : Int, ¬ (1 ≤ n ∧ n ≤ 16) → ires n (spl 58 b) [] = (0, [], 6) := by
            intro n hn
            rcases ires_len n (spl 58 b) [] hwl with g | ⟨g, _⟩
            · exact g
            · exact absurd g hn
          have en : ¬ (1 ≤ numS a ∧ numS a ≤ 16) := by
            intro q
            have h1 := (numS_sound (w := a) (by omega)).2
            have := itoa_inj (a := numS a) (b := r.1) (by omega) (by omega) (h1.symm.trans g1)
            omega
          rw [hz _ en]
          split
          · rfl
          · exact hz _ (by omega)
      · rcases ires_len (numS a) (spl 58 b) [] hwl with g | ⟨g, _⟩
        · exact g
        · have h1 := (numS_sound (w := a) (by omega)).2
          have h2 := nm_of 16 (numS a) (by omega) (by omega)
          rw [← h1, e] at h2
          rw [(Option.some.inj h2)] at ho
          exact absurd ho (by simp)
  · obtain ⟨r, e, hr⟩ := nm_some t ht 16 (by omega)
    refine ⟨(0, [], 6), by simp, spec_no t ht (by rw [spl_no 64 t h]; simp), ?_⟩
    simp only [impl_ParseCyclo.f, cut_no t ht h, Option.bind_some, e]
    exact Ev.if_neg (by simp) (j0_no _ _)
theorem law_tail (t : ByteArray) (ht : t.size ≤ 1048576) (m : Int) (l : List Int) (c : Int) (hl : l.length ≤ 1000) (hs : Ev (fun k => spec_ParseCyclo.f k t) (m, l, c)) (hi : Ev (fun k => impl_ParseCyclo.f k t) (m, l, c)) : Ev (fun k => laws_FnExactParseCyclo.f k t) true := by
  have hl2 : l.length ≤ 1048576 := by omega
  simp only [laws_FnExactParseCyclo.f]
  refine Ev.if_neg (by omega) (Ev.bind hs (Ev.bind hi (Ev.bind (eqC m l hl2 m l) ?_)))
  simp only [and_self, decide_true, if_true, bne_self_eq_false]
  refine Ev.step (fun k => rfl) ?_
  simp only [laws_FnExactParseCyclo.j0, Bool.false_eq_true, if_false]
  refine Ev.bind (markC m l hl2) (Ev.bind (heldC m l hl2) (Ev.if_neg (by omega) (Ev.if_pos rfl (Ev.bind hi (Ev.bind (eqC m l hl2 m l) ?_)))))
  simp only [and_self, decide_true, if_true, bne_self_eq_false]
  refine Ev.step (fun k => rfl) ?_
  simp only [laws_FnExactParseCyclo.j1, Bool.false_eq_true, if_false]
  exact Ev.bind (heldC m l hl2) (Ev.if_neg (by omega) (Ev.if_pos rfl (Ev.now _)))
theorem FnExactParseCyclo : laws_FnExactParseCyclo.Pure := by
  intro t ht
  refine Ev.rounds (g := fun k => laws_FnExactParseCyclo.f k t) ?_
  by_cases h : t.size ≤ 1048576
  · have e := bs_back t
    have hz : t.data.toList.length ≤ 1048576 := by
      have := bs_size t.data.toList
      rw [e] at this
      omega
    obtain ⟨⟨m, l, c⟩, hl, hs, hi⟩ := both t.data.toList hz
    rw [e] at hs hi
    exact law_tail t h m l c hl hs hi
  · simp only [laws_FnExactParseCyclo.f]
    exact Ev.if_pos (by omega) (Ev.now _)

end Go.Proofs.YtomanalpkidicaaDoor.Pure
