/- The text of a number, as the program and as the reference write it, for every order and every list. No condition. -/
import Derived.Test.YtomanalpkidicaaDoorXFnExactCycloTextx6
import Derived.Test.YtomanalpkidicaaDoorShelf
namespace Go.Proofs.YtomanalpkidicaaDoor.Pure
open Go.RowKit Go.Proofs.YtomanalpkidicaaDoor.XFnExactCycloText Go.Proofs.YtomanalpkidicaaDoorW.PrintWords Go.Proofs.YtomanalpkidicaaDoorW.PrintLast
set_option linter.unusedVariables false
set_option linter.unusedSimpArgs false

theorem wfb {a : Int} (h : (Lit.int .i64 a).wf = true) : -9223372036854775808 ≤ a ∧ a ≤ 9223372036854775807 := by
  simp only [Lit.wf, IntKind.min, IntKind.max, IntKind.signed, IntKind.bits, Bool.and_eq_true, decide_eq_true_eq, if_true] at h
  omega
theorem wid {a : Int} (h1 : -9223372036854775808 ≤ a) (h2 : a ≤ 9223372036854775807) : wrap64 a = a := by
  unfold wrap64; omega
theorem Ev.const {α : Type} {g : Nat → Option α} {r : α} (h : ∀ k, g k = some r) : Ev g r := ⟨0, fun k _ => h k⟩
theorem Ev.if_pos {α : Type} {c : Prop} [Decidable c] {f g : Nat → Option α} {r : α} (hc : c) (h : Ev f r) : Ev (fun k => if c then f k else g k) r :=
  Ev.congr (fun k => _root_.if_pos hc) h
theorem Ev.if_neg {α : Type} {c : Prop} [Decidable c] {f g : Nat → Option α} {r : α} (hc : ¬ c) (h : Ev g r) : Ev (fun k => if c then f k else g k) r :=
  Ev.congr (fun k => _root_.if_neg hc) h
theorem Ev.val {α : Type} {f : Nat → Option α} {r s : α} (h : Ev f r) (e : r = s) : Ev f s := e ▸ h
theorem within_eq (a b c : Int) : impl_within.f a b c = some (decide (b ≤ a ∧ a ≤ c)) := by
  unfold impl_within.f
  by_cases h : b ≤ a <;> simp [h]
theorem in_eq (a b c : Int) : spec_l01In.f a b c = some (decide (b ≤ a ∧ a ≤ c)) := by
  unfold spec_l01In.f
  by_cases h : b ≤ a <;> simp [h]


theorem rd_get (l : List Int) (i : Nat) : rd l (i : Int) = l.getD i 0 := by simp [rd]
theorem eqI_l (a b : List Int) (h : a.length = b.length) (ha : a.length ≤ 1048576) : ∀ (n i : Nat), i ≤ a.length → (∀ j, j < i → a[j]? = b[j]?) → a.length - i ≤ n → laws_eqInt64S.l0 (n + 1) a b (i : Int) = some (decide (a = b)) := by
  have fin : ∀ i : Nat, (∀ j, j < i → a[j]? = b[j]?) → a.length ≤ i → a = b := by
    intro i hj hi
    apply List.ext_getElem? fun j => ?_
    by_cases h' : j < a.length
    · exact hj j (by omega)
    · rw [List.getElem?_eq_none (by omega), List.getElem?_eq_none (by omega)]
  intro n
  induction n with
  | zero =>
    intro i hi hj hn
    rw [laws_eqInt64S.l0, if_neg (by omega), decide_eq_true (fin i hj (by omega))]
  | succ n ih =>
    intro i hi hj hn
    rw [laws_eqInt64S.l0]
    by_cases h' : i < a.length
    · rw [if_pos (by omega), if_pos (by omega), if_pos (by omega), rd_get, rd_get, wid (by omega) (by omega)]
      have ga : a[i]? = some (a.getD i 0) := by rw [List.getD_eq_getElem?_getD, List.getElem?_eq_getElem h']; rfl
      have gb : b[i]? = some (b.getD i 0) := by rw [List.getD_eq_getElem?_getD, List.getElem?_eq_getElem (by omega : i < b.length)]; rfl
      by_cases e : a.getD i 0 = b.getD i 0
      · rw [if_pos e]
        have := ih (i + 1) (by omega) (fun j hjlt => ?_) (by omega)
        · simpa using this
        · by_cases e' : j = i
          · rw [e', ga, gb, e]
          · exact hj j (by omega)
      · rw [if_neg e, decide_eq_false]
        intro e'
        exact e (by rw [e'])
    · rw [if_neg (by omega), decide_eq_true (fin i hj (by omega))]
/-- Two lists are held against each other. -/
theorem eqI (a b : List Int) (ha : a.length ≤ 1048576) : Ev (fun k => laws_eqInt64S.f k a b) (decide (a = b)) := by
  refine Ev.of (laws_eqInt64S.mono a b) (k := a.length + 1) ?_
  unfold laws_eqInt64S.f
  by_cases h : a.length = b.length
  · rw [if_pos (by omega)]
    exact eqI_l a b h ha a.length 0 (by omega) (fun j hj => absurd hj (by omega)) (by omega)
  · rw [if_neg (by omega), decide_eq_false]
    intro e
    exact h (by rw [e])

theorem toI_l (l : List Int) (hl : l.length ≤ 1048576) : ∀ (n i : Nat) (x : List Int), x.length = l.length → i ≤ l.length → (∀ j, j < i → x[j]? = l[j]?) → l.length - i ≤ n → laws_toInt64S.l0 (n + 1) l x (i : Int) = some l := by
  have fin : ∀ (i : Nat) (x : List Int), x.length = l.length → (∀ j, j < i → x[j]? = l[j]?) → l.length ≤ i → x = l := by
    intro i x hx hj hi
    apply List.ext_getElem? fun j => ?_
    by_cases h : j < l.length
    · exact hj j (by omega)
    · rw [List.getElem?_eq_none (by omega), List.getElem?_eq_none (by omega)]
  intro n
  induction n with
  | zero =>
    intro i x hx hi hj hn
    rw [laws_toInt64S.l0, if_neg (by omega), fin i x hx hj (by omega)]
  | succ n ih =>
    intro i x hx hi hj hn
    rw [laws_toInt64S.l0]
    by_cases h : i < l.length
    · rw [if_pos (by omega), if_pos (by omega), if_pos (by omega), wid (by omega) (by omega)]
      have := ih (i + 1) (x.set i (rd l (i : Int))) (by simpa using hx) (by omega) (fun j hjlt => ?_) (by omega)
      · simpa using this
      · by_cases e : j = i
        · subst e
          rw [List.getElem?_set_self (by omega), rd_get, List.getD_eq_getElem?_getD, List.getElem?_eq_getElem h]
          rfl
        · rw [List.getElem?_set_ne (fun e' => e e'.symm)]
          exact hj j (by omega)
    · rw [if_neg (by omega), fin i x hx hj (by omega)]
theorem toI (l : List Int) (hl : l.length ≤ 1048576) : Ev (fun k => laws_toInt64S.f k l) l := by
  refine Ev.of (laws_toInt64S.mono l) (k := l.length + 1) ?_
  unfold laws_toInt64S.f
  rw [if_pos (by omega), if_pos (by simp; omega)]
  exact toI_l l hl l.length 0 _ (by simp) (by omega) (fun j hj => absurd hj (by omega)) (by omega)
def small (m x : Int) : Bool := decide (-m ≤ x ∧ x ≤ m)
theorem areSmall_eq (l : List Int) (m : Int) (h0 : 0 ≤ m) (h1 : m ≤ 9223372036854775807) : impl_areSmall.f l m = some (l.all (small m)) := by
  unfold impl_areSmall.f
  rw [wid (by omega) (by omega)]
  rfl
def phiT (n : Int) : Int := [0, 1, 1, 2, 2, 4, 2, 6, 4, 6, 4, 10, 4, 12, 6, 8, 8].getD n.toNat 0
theorem phis_all : ∀ n : Nat, n < 17 → 1 ≤ n → spec_l01Phi.f 60 (n : Int) = some (phiT (n : Int)) := by decide +kernel
theorem phi_spec (n : Int) (h : 1 ≤ n ∧ n ≤ 16) : Ev (fun k => spec_l01Phi.f k n) (phiT n) := by
  obtain ⟨m, rfl⟩ := Int.eq_ofNat_of_zero_le (show 0 ≤ n by omega)
  exact Ev.of (spec_l01Phi.mono _) (phis_all m (by omega) (by omega))
theorem phiT_le (n : Int) (h : 1 ≤ n ∧ n ≤ 16) : 1 ≤ phiT n ∧ phiT n ≤ 12 := by
  obtain ⟨m, rfl⟩ := Int.eq_ofNat_of_zero_le (show 0 ≤ n by omega)
  have : ∀ m : Nat, m < 17 → 1 ≤ m → 1 ≤ phiT (m : Int) ∧ phiT (m : Int) ≤ 12 := by decide +kernel
  exact this m (by omega) (by omega)
theorem fits_l (a : Int) (l : List Int) (hl : l.length ≤ 1048576) : ∀ (n i : Nat), i ≤ l.length → l.length - i ≤ n → spec_l01Fits.l0 (n + 1) (i : Int) a l = some ((l.drop i).all (small 1000000000)) := by
  intro n
  induction n with
  | zero =>
    intro i hi hn
    rw [spec_l01Fits.l0, if_neg (by omega), List.drop_eq_nil_of_le (by omega)]
    rfl
  | succ n ih =>
    intro i hi hn
    rw [spec_l01Fits.l0]
    by_cases h : i < l.length
    · rw [if_pos (by omega), if_pos (by omega), in_eq, rd_get]
      simp only [Option.bind_some]
      rw [List.drop_eq_getElem_cons h, List.all_cons, List.getD_eq_getElem?_getD, List.getElem?_eq_getElem h, Option.getD_some]
      by_cases e : -1000000000 ≤ l[i] ∧ l[i] ≤ 1000000000
      · rw [if_pos (by simpa using e), wid (by omega) (by omega)]
        have := ih (i + 1) (by omega) (by omega)
        rw [show ((i : Int) + 1) = ((i + 1 : Nat) : Int) from by omega, this]
        simp [small, e]
      · rw [if_neg (by simpa using e)]
        simp [small, e]
    · rw [if_neg (by omega), List.drop_eq_nil_of_le (by omega)]
      rfl
theorem fits_spec (a : Int) (l : List Int) (hl : l.length ≤ 1048576) : Ev (fun k => spec_l01Fits.f k a l) (l.all (small 1000000000)) := by
  refine Ev.of (spec_l01Fits.mono a l) (k := l.length + 1) ?_
  unfold spec_l01Fits.f
  have := fits_l a l hl l.length 0 (by omega) (by omega)
  simpa using this
theorem eqC (n : Int) (l : List Int) (hl : l.length ≤ 1048576) (m : Int) (l' : List Int) : Ev (fun k => laws_eqCyclo.f k n l m l') (decide (n = m ∧ l = l')) := by
  simp only [laws_eqCyclo.f]
  by_cases h : n = m
  · simp only [if_pos h]
    refine Ev.bind (eqI l l' hl) ?_
    by_cases e : l = l'
    · exact Ev.val (Ev.const (fun _ => by rw [decide_eq_true e]; rfl)) (by simp [h, e])
    · exact Ev.val (Ev.const (fun _ => by rw [decide_eq_false e]; rfl)) (by simp [e])
  · simp only [if_neg h]
    exact Ev.val (Ev.now _) (by simp [h])
theorem phii_all : ∀ n : Nat, n < 17 → 1 ≤ n → impl_totient.f 60 (n : Int) = some (phiT (n : Int)) := by decide +kernel
theorem phi_impl (n : Int) (h : 1 ≤ n ∧ n ≤ 16) : Ev (fun k => impl_totient.f k n) (phiT n) := by
  obtain ⟨m, rfl⟩ := Int.eq_ofNat_of_zero_le (show 0 ≤ n by omega)
  exact Ev.of (impl_totient.mono _) (phii_all m (by omega) (by omega))
/-- Is it a number? -/
def isCyc (n : Int) (l : List Int) : Bool := decide (1 ≤ n ∧ n ≤ 16) && (decide ((l.length : Int) = phiT n) && l.all (small 1000000000))
theorem is_spec (n : Int) (l : List Int) (hl : l.length ≤ 1048576) : Ev (fun k => spec_l01Is.f k n l) (isCyc n l) := by
  simp only [spec_l01Is.f, in_eq, Option.bind_some]
  by_cases h : 1 ≤ n ∧ n ≤ 16
  · simp only [decide_eq_true h, if_true]
    refine Ev.bind (phi_spec n h) ?_
    by_cases e : (l.length : Int) = phiT n
    · simp only [if_pos e]
      refine Ev.bind (fits_spec n l hl) (Ev.val (Ev.now _) ?_)
      simp [isCyc, h, e]
    · simp only [if_neg e]
      exact Ev.val (Ev.now _) (by simp [isCyc, e])
  · simp only [decide_eq_false h]
    exact Ev.val (Ev.now _) (by simp [isCyc, h])
theorem is_impl (n : Int) (l : List Int) : Ev (fun k => impl_IsCyclo.f k n l) (isCyc n l) := by
  simp only [impl_IsCyclo.f, impl_isOrder.f, within_eq, Option.bind_some]
  by_cases h : 1 ≤ n ∧ n ≤ 16
  · simp only [decide_eq_true h, if_true]
    refine Ev.bind (phi_impl n h) ?_
    by_cases e : (l.length : Int) = phiT n
    · simp only [if_pos e]
      rw [areSmall_eq _ _ (by omega) (by omega)]
      exact Ev.val (Ev.now _) (by simp [isCyc, h, e])
    · simp only [if_neg e]
      exact Ev.val (Ev.now _) (by simp [isCyc, e])
  · simp only [decide_eq_false h]
    exact Ev.val (Ev.now _) (by simp [isCyc, h])
theorem sz_eq (n : Int) (l : List Int) (hm : l.length ≤ maxLen) (c : Int) (hc : 0 ≤ c) (hc2 : c ≤ 1048576) : laws_szCyclo.f n l c = some (if c < (l.length : Int) then -1 else c - l.length) := by
  unfold maxLen at hm
  unfold laws_szCyclo.f laws_szInt64S.f
  rw [wid (by omega) (by omega)]
  by_cases h : c < (l.length : Int)
  · rw [if_pos (by omega), if_pos h]; rfl
  · rw [if_neg (by omega), if_neg h, Option.bind_some, if_neg (by omega)]
theorem toC (n : Int) (l : List Int) (hl : l.length ≤ 1048576) : Ev (fun k => laws_toCyclo.f k n l) (n, l) := by
  simp only [laws_toCyclo.f]
  exact Ev.bind (toI l hl) (Ev.now _)
def bs (l : List UInt8) : ByteArray := ⟨l.toArray⟩
theorem bs_size (l : List UInt8) : (bs l).size = l.length := by simp [bs, ByteArray.size]
theorem bs_app (a b : List UInt8) : bs a ++ bs b = bs (a ++ b) := by
  apply ByteArray.ext
  simp [bs, ByteArray.data_append]
theorem digit (d : Nat) (h : d < 10) : strOfNums [(wrap64 (48 + (d : Int))) % 256] = bs [UInt8.ofNat (48 + d)] := by
  have : ∀ d : Nat, d < 10 → strOfNums [(wrap64 (48 + (d : Int))) % 256] = bs [UInt8.ofNat (48 + d)] := by decide +kernel
  exact this d h
theorem dec_len (m : Nat) : ∀ n : Nat, n < 10 ^ (m + 1) → (Lib.decDigits n).length ≤ m + 1 := by
  induction m with
  | zero => intro n h; rw [Lib.decDigits, dif_pos (by omega)]; simp
  | succ m ih =>
    intro n h
    by_cases g : n < 10
    · rw [Lib.decDigits, dif_pos g]; simp
    · rw [Lib.decDigits, dif_neg g]
      have := ih (n / 10) (by rw [Nat.pow_succ] at h; omega)
      simp; omega
theorem dec_nat : ∀ (m n : Nat), n < 10 ^ (m + 1) → m ≤ 17 → Ev (fun k => spec_l01Dec.f k (n : Int)) (bs (Lib.decDigits n)) := by
  intro m
  induction m with
  | zero =>
    intro n h _
    refine Ev.step (fun k => rfl) ?_
    simp only [spec_l01Dec.f]
    refine Ev.if_neg (by omega) (Ev.if_pos (by omega) (Ev.val (Ev.now _) ?_))
    rw [Lib.decDigits, dif_pos (by omega)]
    exact digit n (by omega)
  | succ m ih =>
    intro n h hm
    have hp : (10 : Nat) ^ (m + 1 + 1) ≤ 10 ^ 18 := Nat.pow_le_pow_right (by omega) (by omega)
    by_cases g : n < 10
    · refine Ev.step (fun k => rfl) ?_
      simp only [spec_l01Dec.f]
      refine Ev.if_neg (by omega) (Ev.if_pos (by omega) (Ev.val (Ev.now _) ?_))
      rw [Lib.decDigits, dif_pos g]
      exact digit n g
    · have hr := ih (n / 10) (by rw [Nat.pow_succ] at h; omega) (by omega)
      have hl := dec_len m (n / 10) (by rw [Nat.pow_succ] at h; omega)
      have e1 : wrap64 (Int.tdiv (n : Int) 10) = ((n / 10 : Nat) : Int) := by
        rw [Int.tdiv_eq_ediv_of_nonneg (by omega), wid (by omega) (by omega)]
        omega
      have e2 : Int.tmod (n : Int) 10 = ((n % 10 : Nat) : Int) := by
        rw [Int.tmod_eq_emod_of_nonneg (by omega)]
        omega
      have e3 := digit (n % 10) (by omega)
      refine Ev.step (fun k => rfl) ?_
      simp only [spec_l01Dec.f, e1, e2, Option.bind_some, e3]
      refine Ev.if_neg (by omega) (Ev.if_neg (by omega) (Ev.bind hr (Ev.if_pos (by rw [bs_size, bs_size]; simp; omega) (Ev.val (Ev.now _) ?_))))
      rw [bs_app, Lib.decDigits.eq_def n, dif_neg g]
theorem dec_ev (n : Int) (h : -1000000000 ≤ n ∧ n ≤ 1000000000) : Ev (fun k => spec_l01Dec.f k n) (bs (Lib.itoa n)) := by
  have hp : (10 : Nat) ^ (9 + 1) = 10000000000 := by decide
  by_cases g : n < 0
  · have e1 : wrap64 (-n) = ((n.natAbs : Nat) : Int) := by rw [wid (by omega) (by omega)]; omega
    have hr := dec_nat 9 n.natAbs (by omega) (by omega)
    have hl := dec_len 9 n.natAbs (by omega)
    refine Ev.step (fun k => rfl) ?_
    simp only [spec_l01Dec.f, e1]
    refine Ev.if_pos g (Ev.bind hr (Ev.if_pos (by rw [bs_size]; omega) (Ev.val (Ev.now _) ?_)))
    rw [Lib.itoa, if_pos g]
    exact bs_app [45] _
  · obtain ⟨m, rfl⟩ := Int.eq_ofNat_of_zero_le (show 0 ≤ n by omega)
    rw [Lib.itoa, if_neg g, Int.toNat_natCast]
    exact dec_nat 9 m (by omega) (by omega)
theorem itoa_len (n : Int) (h : -1000000000 ≤ n ∧ n ≤ 1000000000) : (Lib.itoa n).length ≤ 11 := by
  have hp : (10 : Nat) ^ (9 + 1) = 10000000000 := by decide
  unfold Lib.itoa
  by_cases g : n < 0
  · rw [if_pos g]
    have := dec_len 9 n.natAbs (by omega)
    simp; omega
  · rw [if_neg g]
    have := dec_len 9 n.toNat (by omega)
    omega
theorem decimal_eq (n : Int) (h : -1000000000 ≤ n ∧ n ≤ 1000000000) : impl_decimal.f n = some (bs (Lib.itoa n)) := by
  unfold impl_decimal.f strconv_FormatInt.f
  rw [if_pos ⟨rfl, by omega, by omega⟩]
  rfl
theorem tail_len (r : List (List UInt8)) (h : ∀ x ∈ r, x.length ≤ 11) : (Lib.joinTail [58] r).length ≤ 12 * r.length := by
  induction r with
  | nil => simp [Lib.joinTail]
  | cons x r ih =>
    have h1 := h x (List.mem_cons_self ..)
    have h2 := ih (fun y hy => h y (List.mem_cons_of_mem _ hy))
    simp only [Lib.joinTail, List.map_cons, List.flatten_cons, List.length_append, List.length_cons, List.length_nil] at h2 ⊢
    omega
theorem rd_small {l : List Int} (h : l.all (small 1000000000) = true) (i : Nat) (g : i < l.length) : rd l (i : Int) = l[i] ∧ -1000000000 ≤ l[i] ∧ l[i] ≤ 1000000000 := by
  refine ⟨by rw [rd_get, List.getD_eq_getElem?_getD, List.getElem?_eq_getElem g, Option.getD_some], ?_⟩
  rw [List.all_eq_true] at h
  have := h _ (List.getElem_mem g)
  simpa [small] using this
def its (l : List Int) : List (List UInt8) := l.map Lib.itoa
theorem its_small {l : List Int} (h : l.all (small 1000000000) = true) : ∀ x ∈ its l, x.length ≤ 11 := by
  intro x hx
  obtain ⟨n, hn, rfl⟩ := List.mem_map.1 hx
  rw [List.all_eq_true] at h
  have := h n hn
  exact itoa_len n (by simpa [small] using this)
theorem text_l (n : Int) (l : List Int) (hl : l.length ≤ 1000) (hs : l.all (small 1000000000) = true) : ∀ (d i : Nat) (t : List UInt8), i + d = l.length → 1 ≤ i → t.length ≤ 12 * i + 20 → Ev (fun k => spec_l01Text.l0 k (bs t) (i : Int) n l) (bs (t ++ Lib.joinTail [58] (its (l.drop i)))) := by
  intro d
  induction d with
  | zero =>
    intro i t h h1 h2
    refine Ev.step (fun k => rfl) ?_
    simp only [spec_l01Text.l0]
    refine Ev.if_neg (by omega) (Ev.val (Ev.now _) ?_)
    rw [List.drop_eq_nil_of_le (by omega)]
    simp [its, Lib.joinTail]
  | succ d ih =>
    intro i t h h1 h2
    have g : i < l.length := by omega
    have ew : wrap64 ((i : Int) + 1) = ((i + 1 : Nat) : Int) := by rw [wid (by omega) (by omega)]; omega
    obtain ⟨e, b⟩ := rd_small hs i g
    have hd := dec_ev l[i] b
    have hil := itoa_len l[i] b
    have ec : bs t ++ (⟨#[58]⟩ : ByteArray) = bs (t ++ [58]) := bs_app t [58]
    refine Ev.step (fun k => rfl) ?_
    simp only [spec_l01Text.l0, ew, e, ec]
    refine Ev.if_pos (by omega) (Ev.if_pos (by omega) (Ev.if_pos (by rw [bs_size]; omega) (Ev.if_pos (by omega) (Ev.bind hd (Ev.if_pos (by rw [bs_size, bs_size]; simp; omega) ?_)))))
    rw [bs_app]
    refine Ev.val (ih (i + 1) (t ++ [58] ++ Lib.itoa l[i]) (by omega) (by omega) (by simp; omega)) ?_
    rw [List.drop_eq_getElem_cons g]
    simp only [its, Lib.joinTail, List.map_cons, List.flatten_cons, List.append_assoc]
theorem joined_l (n : Nat) (l : List Int) (hl : l.length ≤ 1000) (hs : l.all (small 1000000000) = true) : ∀ (d i : Nat) (xs : List ByteArray), i + d = l.length → xs = (its (l.take i)).map bs → Ev (fun k => impl_joined.l0 k (⟨#[58]⟩ : ByteArray) xs l (l.length : Int) (i : Int)) (bs (Lib.join (its l) [58])) := by
  intro d
  induction d with
  | zero =>
    intro i xs h hx
    refine Ev.step (fun k => rfl) ?_
    simp only [impl_joined.l0]
    refine Ev.if_neg (by omega) (Ev.const fun _ => ?_)
    rw [List.take_of_length_le (by omega)] at hx
    have e : xs.map (·.data.toList) = its l := by
      rw [hx, List.map_map]
      have : ((fun x : ByteArray => x.data.toList) ∘ bs) = id := by funext z; simp [bs]
      rw [this, List.map_id]
    have hlen : (Lib.join (its l) [58]).length ≤ 12 * l.length := by
      cases hq : its l with
      | nil => simp [Lib.join_nil]
      | cons y r =>
        rw [Lib.join_cons]
        have h1 := its_small hs y (by rw [hq]; exact List.mem_cons_self ..)
        have h2 := tail_len r (fun z hz => its_small hs z (by rw [hq]; exact List.mem_cons_of_mem _ hz))
        have h3 : (its l).length = l.length := by simp [its]
        rw [hq, List.length_cons] at h3
        simp; omega
    have hx2 : xs.length = l.length := by rw [hx]; simp [its]
    unfold strings_Join.f
    rw [e]
    have e58 : (⟨#[58]⟩ : ByteArray).data.toList = [58] := rfl
    rw [e58, if_pos ⟨by omega, by omega⟩]
    rfl
  | succ d ih =>
    intro i xs h hx
    have g : i < l.length := by omega
    have ew : wrap64 ((i : Int) + 1) = ((i + 1 : Nat) : Int) := by rw [wid (by omega) (by omega)]; omega
    obtain ⟨e, b⟩ := rd_small hs i g
    have hx2 : xs.length = i := by rw [hx]; simp [its]; omega
    refine Ev.step (fun k => rfl) ?_
    simp only [impl_joined.l0, ew, e, decimal_eq _ b, Option.bind_some]
    refine Ev.if_pos (by omega) (Ev.if_pos (by omega) (Ev.if_pos (by omega) (Ev.if_pos (by omega) (ih (i + 1) _ (by omega) ?_))))
    rw [hx, List.take_add_one, List.getElem?_eq_getElem g]
    simp only [its, Option.toList_some, List.map_append, List.map_cons, List.map_nil]
theorem both (n : Int) (l : List Int) (hl : l.length ≤ 1048576) : ∃ r : ByteArray × Int, Ev (fun k => spec_CycloText.f k n l) r ∧ Ev (fun k => impl_CycloText.f k n l) r := by
  have h1 := is_spec n l hl
  have h2 := is_impl n l
  simp only [spec_CycloText.f, impl_CycloText.f]
  cases hc : isCyc n l with
  | false =>
    rw [hc] at h1 h2
    exact ⟨((⟨#[]⟩ : ByteArray), 1), Ev.bind h1 (Ev.if_neg (by simp) (Ev.now _)), Ev.bind h2 (Ev.if_neg (by simp) (Ev.now _))⟩
  | true =>
    rw [hc] at h1 h2
    simp only [isCyc, Bool.and_eq_true, decide_eq_true_eq] at hc
    obtain ⟨hn, hlen, hs⟩ := hc
    have hp := phiT_le n hn
    have hl3 : l.length ≤ 1000 := by omega
    have hb : -1000000000 ≤ n ∧ n ≤ 1000000000 := by omega
    have hil := itoa_len n hb
    have h0 : 0 < l.length := by omega
    obtain ⟨e, b⟩ := rd_small hs 0 h0
    have hjl : (Lib.join (its l) [58]).length ≤ 12 * l.length := by
      cases hq : its l with
      | nil => simp [Lib.join_nil]
      | cons y r =>
        rw [Lib.join_cons]
        have h1 := its_small hs y (by rw [hq]; exact List.mem_cons_self ..)
        have h2 := tail_len r (fun z hz => its_small hs z (by rw [hq]; exact List.mem_cons_of_mem _ hz))
        have h3 : (its l).length = l.length := by simp [its]
        rw [hq, List.length_cons] at h3
        simp; omega
    have e64 : ∀ t : List UInt8, bs t ++ (⟨#[64]⟩ : ByteArray) = bs (t ++ [64]) := fun t => bs_app t [64]
    refine ⟨(bs (Lib.itoa n ++ ([64] : List UInt8) ++ Lib.join (its l) [58]), 0), Ev.bind h1 (Ev.if_pos rfl (Ev.bind ?_ (Ev.now _))), Ev.bind h2 (Ev.if_pos rfl (Ev.bind ?_ (Ev.now _)))⟩
    · simp only [spec_l01Text.f]
      refine Ev.bind (dec_ev n hb) (Ev.if_pos (by rw [bs_size]; omega) ?_)
      rw [e64]
      refine Ev.step (fun k => rfl) ?_
      have ew : wrap64 ((0 : Int) + 1) = ((1 : Nat) : Int) := by rw [wid (by omega) (by omega)]; omega
      have e' : rd l 0 = l[0] := e
      have hil2 := itoa_len l[0] b
      simp only [spec_l01Text.l0, ew, e']
      refine Ev.if_pos (by omega) (Ev.if_neg (by omega) (Ev.if_pos (by omega) (Ev.bind (dec_ev l[0] b) (Ev.if_pos (by rw [bs_size, bs_size]; simp; omega) ?_))))
      rw [bs_app]
      refine Ev.val (text_l n l hl3 hs (l.length - 1) 1 (Lib.itoa n ++ ([64] : List UInt8) ++ Lib.itoa l[0]) (by omega) (by omega) (by simp; omega)) ?_
      have ed : its l = Lib.itoa l[0] :: its (l.drop 1) := by
        cases l with
        | nil => simp at h0
        | cons y r => rfl
      rw [ed, Lib.join_cons, List.append_assoc]
    · simp only [impl_cycloText.f, impl_joined.f, decimal_eq n hb, Option.bind_some, e64]
      refine Ev.if_pos (by rw [bs_size]; omega) (Ev.bind (joined_l 0 l hl3 hs l.length 0 [] (by omega) (by simp [its])) (Ev.if_pos (by rw [bs_size, bs_size]; simp; omega) (Ev.val (Ev.now _) (bs_app _ _))))
/-- Where both tell the same value and code, the law holds. -/
theorem law_tail0 (n : Int) (l : List Int) (h : l.length ≤ 1048576) : Ev (fun k => laws_FnExactCycloText.j0 k false n l n l) true := by
  refine Ev.step (fun k => rfl) ?_
  simp only [laws_FnExactCycloText.j0, Bool.false_eq_true, if_false]
  refine Ev.bind (toC n l h) ?_
  refine Ev.bind (eqC n l h n l) ?_
  exact Ev.const (fun _ => by simp)
theorem FnExactCycloText : laws_FnExactCycloText.Pure := by
  intro n l hn hm hv
  refine Ev.rounds (g := fun k => laws_FnExactCycloText.f k n l) ?_
  by_cases hl : l.length ≤ 1048576
  · simp only [laws_FnExactCycloText.f, sz_eq n l hm 1048576 (by omega) (by omega), if_neg (show ¬ (1048576 : Int) < (l.length : Int) by omega), Option.bind_some]
    obtain ⟨r, s, t⟩ := both n l hl
    refine Ev.if_neg (by omega) (Ev.bind (toC n l hl) (Ev.bind s (Ev.bind (toC n l hl) (Ev.bind t (Ev.if_pos rfl ?_)))))
    simp only [bne_self_eq_false]
    exact law_tail0 n l hl
  · simp only [laws_FnExactCycloText.f, sz_eq n l hm 1048576 (by omega) (by omega), if_pos (show (1048576 : Int) < (l.length : Int) by omega), Option.bind_some]
    exact Ev.const fun _ => rfl

end Go.Proofs.YtomanalpkidicaaDoor.Pure
