/- A number taken to a greater order, as the program and as the reference tell it, for every order, every list and every number. No condition. -/
import Derived.Test.YtilofmfmfagofaaXFnExactLiftCyclox12
namespace Go.Proofs.Ytilofmfmfagofaa.Pure
open Go.RowKit Go.Proofs.Ytilofmfmfagofaa.XFnExactLiftCyclo Go.Proofs.YtilofmfmfagofaaW.PrintWords Go.Proofs.YtilofmfmfagofaaW.PrintLast
set_option linter.unusedVariables false
set_option linter.unusedSimpArgs false

theorem wfb {a : Int} (h : (Lit.int .i64 a).wf = true) : -9223372036854775808 ≤ a ∧ a ≤ 9223372036854775807 := by
 simp only [Lit.wf, IntKind.min, IntKind.max, IntKind.signed, IntKind.bits, Bool.and_eq_true, decide_eq_true_eq, if_true] at h
 omega
theorem wid {a : Int} (h1 : -9223372036854775808 ≤ a) (h2 : a ≤ 9223372036854775807) : wrap64 a = a := by
 unfold wrap64; omega
theorem Ev.const {α : Type} {g : Nat → Option α} {r : α} (h : ∀ k, g k = some r) : Ev g r := ⟨0, fun k _ => h k⟩
theorem Ev.if_pos {α : Type} {c : Prop} [Decidable c] {f g : Nat → Option α} {r : α} (hc : c) (h : Ev f r) : Ev (fun k => if c then f k else g k) r :=
 Ev.congr (fun k => _root_.if_pos hc) h
theorem Ev.if_neg {α : Type} {c : Prop} [Decidable c] {f g : Nat → Option α} {r : α} (hc : ¬ c) (h : Ev g r) : Ev (fun k => if c then f k else g k) r :=
 Ev.congr (fun k => _root_.if_neg hc) h
theorem Ev.val {α : Type} {f : Nat → Option α} {r s : α} (h : Ev f r) (e : r = s) : Ev f s := e ▸ h
theorem within_eq (a b c : Int) : impl_within.f a b c = some (decide (b ≤ a ∧ a ≤ c)) := by
 unfold impl_within.f
 by_cases h : b ≤ a <;> simp [h]
theorem in_eq (a b c : Int) : spec_l01In.f a b c = some (decide (b ≤ a ∧ a ≤ c)) := by
 unfold spec_l01In.f
 by_cases h : b ≤ a <;> simp [h]


theorem rd_get (l : List Int) (i : Nat) : rd l (i : Int) = l.getD i 0 := by simp [rd]
theorem eqI_l (a b : List Int) (h : a.length = b.length) (ha : a.length ≤ 1048576) : ∀ (n i : Nat), i ≤ a.length → (∀ j, j < i → a[j]? = b[j]?) → a.length - i ≤ n → laws_eqInt64S.l0 (n + 1) a b (i : Int) = some (decide (a = b)) := by
 have fin : ∀ i : Nat, (∀ j, j < i → a[j]? = b[j]?) → a.length ≤ i → a = b := by
  intro i hj hi
  apply List.ext_getElem? fun j => ?_
  by_cases h' : j < a.length
  ·exact hj j (by omega)
  ·rw [List.getElem?_eq_none (by omega), List.getElem?_eq_none (by omega)]
 intro n
 induction n with
 | zero =>
  intro i hi hj hn
  rw [laws_eqInt64S.l0, if_neg (by omega), decide_eq_true (fin i hj (by omega))]
 | succ n ih =>
  intro i hi hj hn
  rw [laws_eqInt64S.l0]
  by_cases h' : i < a.length
  ·rw [if_pos (by omega), if_pos (by omega), if_pos (by omega), rd_get, rd_get, wid (by omega) (by omega)]
   have ga : a[i]? = some (a.getD i 0) := by rw [List.getD_eq_getElem?_getD, List.getElem?_eq_getElem h']; rfl
   have gb : b[i]? = some (b.getD i 0) := by rw [List.getD_eq_getElem?_getD, List.getElem?_eq_getElem (by omega : i < b.length)]; rfl
   by_cases e : a.getD i 0 = b.getD i 0
   ·rw [if_pos e]
    have := ih (i + 1) (by omega) (fun j hjlt => ?_) (by omega)
    ·simpa using this
    ·by_cases e' : j = i
     ·rw [e', ga, gb, e]
     ·exact hj j (by omega)
   ·rw [if_neg e, decide_eq_false]
    intro e'
    exact e (by rw [e'])
  ·rw [if_neg (by omega), decide_eq_true (fin i hj (by omega))]
theorem eqI (a b : List Int) (ha : a.length ≤ 1048576) : Ev (fun k => laws_eqInt64S.f k a b) (decide (a = b)) := by
 refine Ev.of (laws_eqInt64S.mono a b) (k := a.length + 1) ?_
 unfold laws_eqInt64S.f
 by_cases h : a.length = b.length
 ·rw [if_pos (by omega)]
  exact eqI_l a b h ha a.length 0 (by omega) (fun j hj => absurd hj (by omega)) (by omega)
 ·rw [if_neg (by omega), decide_eq_false]
  intro e
  exact h (by rw [e])

theorem toI_l (l : List Int) (hl : l.length ≤ 1048576) : ∀ (n i : Nat) (x : List Int), x.length = l.length → i ≤ l.length → (∀ j, j < i → x[j]? = l[j]?) → l.length - i ≤ n → laws_toInt64S.l0 (n + 1) l x (i : Int) = some l := by
 have fin : ∀ (i : Nat) (x : List Int), x.length = l.length → (∀ j, j < i → x[j]? = l[j]?) → l.length ≤ i → x = l := by
  intro i x hx hj hi
  apply List.ext_getElem? fun j => ?_
  by_cases h : j < l.length
  ·exact hj j (by omega)
  ·rw [List.getElem?_eq_none (by omega), List.getElem?_eq_none (by omega)]
 intro n
 induction n with
 | zero =>
  intro i x hx hi hj hn
  rw [laws_toInt64S.l0, if_neg (by omega), fin i x hx hj (by omega)]
 | succ n ih =>
  intro i x hx hi hj hn
  rw [laws_toInt64S.l0]
  by_cases h : i < l.length
  ·rw [if_pos (by omega), if_pos (by omega), if_pos (by omega), wid (by omega) (by omega)]
   have := ih (i + 1) (x.set i (rd l (i : Int))) (by simpa using hx) (by omega) (fun j hjlt => ?_) (by omega)
   ·simpa using this
   ·by_cases e : j = i
    ·subst e
     rw [List.getElem?_set_self (by omega), rd_get, List.getD_eq_getElem?_getD, List.getElem?_eq_getElem h]
     rfl
    ·rw [List.getElem?_set_ne (fun e' => e e'.symm)]
     exact hj j (by omega)
  ·rw [if_neg (by omega), fin i x hx hj (by omega)]
theorem toI (l : List Int) (hl : l.length ≤ 1048576) : Ev (fun k => laws_toInt64S.f k l) l := by
 refine Ev.of (laws_toInt64S.mono l) (k := l.length + 1) ?_
 unfold laws_toInt64S.f
 rw [if_pos (by omega), if_pos (by simp; omega)]
 exact toI_l l hl l.length 0 _ (by simp) (by omega) (fun j hj => absurd hj (by omega)) (by omega)
def small (m x : Int) : Bool := decide (-m ≤ x ∧ x ≤ m)
theorem areSmall_eq (l : List Int) (m : Int) (h0 : 0 ≤ m) (h1 : m ≤ 9223372036854775807) : impl_areSmall.f l m = some (l.all (small m)) := by
 unfold impl_areSmall.f
 rw [wid (by omega) (by omega)]
 rfl
def phiT (n : Int) : Int := [0, 1, 1, 2, 2, 4, 2, 6, 4, 6, 4, 10, 4, 12, 6, 8, 8].getD n.toNat 0
theorem phis_all : ∀ n : Nat, n < 17 → 1 ≤ n → spec_l01Phi.f 60 (n : Int) = some (phiT (n : Int)) := by decide +kernel
theorem phi_spec (n : Int) (h : 1 ≤ n ∧ n ≤ 16) : Ev (fun k => spec_l01Phi.f k n) (phiT n) := by
 obtain ⟨m, rfl⟩ := Int.eq_ofNat_of_zero_le (show 0 ≤ n by omega)
 exact Ev.of (spec_l01Phi.mono _) (phis_all m (by omega) (by omega))
theorem phiT_le (n : Int) (h : 1 ≤ n ∧ n ≤ 16) : 1 ≤ phiT n ∧ phiT n ≤ 12 := by
 obtain ⟨m, rfl⟩ := Int.eq_ofNat_of_zero_le (show 0 ≤ n by omega)
 have : ∀ m : Nat, m < 17 → 1 ≤ m → 1 ≤ phiT (m : Int) ∧ phiT (m : Int) ≤ 12 := by decide +kernel
 exact this m (by omega) (by omega)
theorem fits_l (a : Int) (l : List Int) (hl : l.length ≤ 1048576) : ∀ (n i : Nat), i ≤ l.length → l.length - i ≤ n → spec_l01Fits.l0 (n + 1) (i : Int) a l = some ((l.drop i).all (small 1000000000)) := by
 intro n
 induction n with
 | zero =>
  intro i hi hn
  rw [spec_l01Fits.l0, if_neg (by omega), List.drop_eq_nil_of_le (by omega)]
  rfl
 | succ n ih =>
  intro i hi hn
  rw [spec_l01Fits.l0]
  by_cases h : i < l.length
  ·rw [if_pos (by omega), if_pos (by omega), in_eq, rd_get]
   simp only [Option.bind_some]
   rw [List.drop_eq_getElem_cons h, List.all_cons, List.getD_eq_getElem?_getD, List.getElem?_eq_getElem h, Option.getD_some]
   by_cases e : -1000000000 ≤ l[i] ∧ l[i] ≤ 1000000000
   ·rw [if_pos (by simpa using e), wid (by omega) (by omega)]
    have := ih (i + 1) (by omega) (by omega)
    rw [show ((i : Int) + 1) = ((i + 1 : Nat) : Int) from by omega, this]
    simp [small, e]
   ·rw [if_neg (by simpa using e)]
    simp [small, e]
  ·rw [if_neg (by omega), List.drop_eq_nil_of_le (by omega)]
   rfl
theorem fits_spec (a : Int) (l : List Int) (hl : l.length ≤ 1048576) : Ev (fun k => spec_l01Fits.f k a l) (l.all (small 1000000000)) := by
 refine Ev.of (spec_l01Fits.mono a l) (k := l.length + 1) ?_
 unfold spec_l01Fits.f
 have := fits_l a l hl l.length 0 (by omega) (by omega)
 simpa using this
theorem eqC (n : Int) (l : List Int) (hl : l.length ≤ 1048576) (m : Int) (l' : List Int) : Ev (fun k => laws_eqCyclo.f k n l m l') (decide (n = m ∧ l = l')) := by
 simp only [laws_eqCyclo.f]
 by_cases h : n = m
 ·simp only [if_pos h]
  refine Ev.bind (eqI l l' hl) ?_
  by_cases e : l = l'
  ·exact Ev.val (Ev.const (fun _ => by rw [decide_eq_true e]; rfl)) (by simp [h, e])
  ·exact Ev.val (Ev.const (fun _ => by rw [decide_eq_false e]; rfl)) (by simp [e])
 ·simp only [if_neg h]
  exact Ev.val (Ev.now _) (by simp [h])
/-! numbers by 2^64 -/
def Cg (a b : Int) : Prop := a % 18446744073709551616 = b % 18446744073709551616
theorem Cg.rfl_ (a : Int) : Cg a a := rfl
theorem Cg.symm {a b : Int} (h : Cg a b) : Cg b a := Eq.symm h
theorem Cg.trans {a b c : Int} (h : Cg a b) (k : Cg b c) : Cg a c := Eq.trans h k
theorem cg_wrap (a : Int) : Cg (wrap64 a) a := by unfold Cg wrap64; omega
theorem wrap_of {a b : Int} (h : Cg a b) : wrap64 a = wrap64 b := by unfold Cg at h; unfold wrap64; omega
theorem wrap_wrap (a : Int) : wrap64 (wrap64 a) = wrap64 a := wrap_of (cg_wrap a)
theorem Cg.add {a b c d : Int} (h : Cg a b) (k : Cg c d) : Cg (a + c) (b + d) := by unfold Cg at *; rw [Int.add_emod, h, k, ← Int.add_emod]
theorem Cg.sub {a b c d : Int} (h : Cg a b) (k : Cg c d) : Cg (a - c) (b - d) := by unfold Cg at *; rw [Int.sub_emod, h, k, ← Int.sub_emod]
theorem Cg.mul {a b c d : Int} (h : Cg a b) (k : Cg c d) : Cg (a * c) (b * d) := by unfold Cg at *; rw [Int.mul_emod, h, k, ← Int.mul_emod]
def dot : List Int → (Nat → Int) → Nat → Int
 | [], _, _ => 0
 | x :: xs, c, s => x * c s + dot xs c (s + 1)
theorem dot_cg {c d : Nat → Int} (h : ∀ i, Cg (c i) (d i)) : ∀ (x : List Int) (s : Nat), Cg (dot x c s) (dot x d s) := by
 intro x
 induction x with
 | nil => intro s; exact Cg.rfl_ _
 | cons x xs ih => intro s; exact Cg.add (Cg.mul (Cg.rfl_ x) (h s)) (ih (s + 1))
theorem dot_in {c d : Nat → Int} : ∀ (x : List Int) (s : Nat), (∀ i, s ≤ i → i < s + x.length → Cg (c i) (d i)) → Cg (dot x c s) (dot x d s) := by
 intro x
 induction x with
 | nil => intro s _; exact Cg.rfl_ _
 | cons x xs ih =>
  intro s h
  exact Cg.add (Cg.mul (Cg.rfl_ x) (h s (Nat.le_refl _) (by simp))) (ih (s + 1) (fun i h1 h2 => h i (by omega) (by simp; omega)))
theorem dot_lin (c d : Nat → Int) (k : Int) : ∀ (x : List Int) (s : Nat), dot x (fun i => c i - d i * k) s = dot x c s - dot x d s * k := by
 intro x
 induction x with
 | nil => intro s; simp [dot]
 | cons x xs ih =>
  intro s
  simp only [dot, ih, Int.mul_sub, Int.add_mul, Int.mul_assoc]
  omega
theorem dot_zero : ∀ (x : List Int) (s : Nat), dot x (fun _ => 0) s = 0 := by
 intro x
 induction x with
 | nil => intro s; rfl
 | cons x xs ih => intro s; simp [dot, ih]
/-! lists told by their reads -/
theorem rd_set (c : List Int) (a j : Nat) (v : Int) (h : a < c.length) : rd (c.set a v) (j : Int) = if j = a then v else rd c (j : Int) := by
 rw [rd_get, rd_get, List.getD_eq_getElem?_getD, List.getD_eq_getElem?_getD]
 by_cases e : j = a
 ·subst e; rw [List.getElem?_set_self h, if_pos rfl]; rfl
 ·rw [List.getElem?_set_ne (fun e' => e e'.symm), if_neg e]
theorem rd_rep (n j : Nat) : rd (List.replicate n 0) (j : Int) = 0 := by
 rw [rd_get, List.getD_eq_getElem?_getD, List.getElem?_replicate]
 split <;> rfl
theorem rd_ext {a b : List Int} (h : a.length = b.length) (hr : ∀ j : Nat, j < a.length → rd a (j : Int) = rd b (j : Int)) : a = b := by
 apply List.ext_getElem h
 intro i h1 h2
 have := hr i h1
 rw [rd_get, rd_get, List.getD_eq_getElem?_getD, List.getD_eq_getElem?_getD, List.getElem?_eq_getElem h1, List.getElem?_eq_getElem h2] at this
 exact this
theorem rd_big (c : List Int) (j : Nat) (h : c.length ≤ j) : rd c (j : Int) = 0 := by
 rw [rd_get, List.getD_eq_getElem?_getD, List.getElem?_eq_none h]; rfl
def Nm (c : List Int) : Prop := ∀ j : Nat, wrap64 (rd c (j : Int)) = rd c (j : Int)
theorem Nm.set {c : List Int} (h : Nm c) (a : Nat) (v : Int) : Nm (c.set a (wrap64 v)) := by
 intro j
 by_cases g : a < c.length
 ·rw [rd_set _ _ _ _ g]
  split
  ·exact wrap_wrap v
  ·exact h j
 ·rw [List.set_eq_of_length_le (by omega)]; exact h j
theorem wrap_0 : wrap64 0 = 0 := wid (by omega) (by omega)
theorem Nm.rep (n : Nat) : Nm (List.replicate n 0) := fun j => by rw [rd_rep, wrap_0]
/-! the reduction -/
def inn (f : List Int) (o : Nat) (lead : Int) : Nat → Nat → List Int → List Int
 | 0, _, c => c
 | d + 1, i, c => inn f o lead d (i + 1) (c.set (o + i) (wrap64 (rd c ((o + i : Nat) : Int) - wrap64 (lead * rd f (i : Int)))))
theorem inn_len (f : List Int) (o : Nat) (lead : Int) : ∀ (d i : Nat) (c : List Int), (inn f o lead d i c).length = c.length := by
 intro d
 induction d with
 | zero => intro i c; rfl
 | succ d ih => intro i c; simp only [inn]; rw [ih, List.length_set]
theorem inn_nm (f : List Int) (o : Nat) (lead : Int) : ∀ (d i : Nat) (c : List Int), Nm c → Nm (inn f o lead d i c) := by
 intro d
 induction d with
 | zero => intro i c h; exact h
 | succ d ih => intro i c h; exact ih _ _ (h.set _ _)
theorem rd_inn (f : List Int) (o : Nat) (lead : Int) : ∀ (d i : Nat) (c : List Int), o + i + d ≤ c.length → ∀ j : Nat, rd (inn f o lead d i c) (j : Int) = if o + i ≤ j ∧ j < o + i + d then wrap64 (rd c (j : Int) - wrap64 (lead * rd f ((j - o : Nat) : Int))) else rd c (j : Int) := by
 intro d
 induction d with
 | zero => intro i c h j; rw [if_neg (by omega)]; rfl
 | succ d ih =>
  intro i c h j
  simp only [inn]
  rw [ih (i + 1) _ (by rw [List.length_set]; omega), rd_set _ _ _ _ (by omega)]
  by_cases e : j = o + i
  ·subst e
   rw [if_neg (by omega), if_pos rfl, if_pos (by omega), show o + i - o = i by omega]
  ·rw [if_neg e]
   by_cases g : o + (i + 1) ≤ j ∧ j < o + (i + 1) + d
   ·rw [if_pos g, if_pos (by omega)]
   ·rw [if_neg g, if_neg (by omega)]
def redL (f : List Int) (m : Nat) : Nat → List Int → List Int
 | 0, c => c
 | d + 1, c => redL f m d (inn f d (rd c ((m + d : Nat) : Int)) (m + 1) 0 c)
theorem redL_len (f : List Int) (m : Nat) : ∀ (d : Nat) (c : List Int), (redL f m d c).length = c.length := by
 intro d
 induction d with
 | zero => intro c; rfl
 | succ d ih => intro c; simp only [redL]; rw [ih, inn_len]
theorem redL_nm (f : List Int) (m : Nat) : ∀ (d : Nat) (c : List Int), Nm c → Nm (redL f m d c) := by
 intro d
 induction d with
 | zero => intro c h; exact h
 | succ d ih => intro c h; exact ih _ (inn_nm _ _ _ _ _ _ h)
def LinAt (x : List Int) (M : Nat → List Int) (c : List Int) : Prop := ∀ j : Nat, Cg (rd c (j : Int)) (dot x (fun i => rd (M i) (j : Int)) 0)
theorem lin_red (x f : List Int) (m : Nat) : ∀ (d : Nat) (c : List Int) (M : Nat → List Int), (∀ i, (M i).length = c.length) → m + d ≤ c.length → LinAt x M c → LinAt x (fun i => redL f m d (M i)) (redL f m d c) := by
 intro d
 induction d with
 | zero => intro c M _ _ h; exact h
 | succ d ih =>
  intro c M hM hd h
  simp only [redL]
  refine ih _ (fun i => inn f d (rd (M i) ((m + d : Nat) : Int)) (m + 1) 0 (M i)) (fun i => by rw [inn_len, inn_len, hM]) (by rw [inn_len]; omega) (fun j => ?_)
  rw [rd_inn _ _ _ _ _ _ (by omega)]
  by_cases g : d + 0 ≤ j ∧ j < d + 0 + (m + 1)
  ·rw [if_pos g]
   have e : Cg (dot x (fun i => rd (inn f d (rd (M i) ((m + d : Nat) : Int)) (m + 1) 0 (M i)) (j : Int)) 0) (dot x (fun i => rd (M i) (j : Int) - rd (M i) ((m + d : Nat) : Int) * rd f ((j - d : Nat) : Int)) 0) := by
    refine dot_cg (fun i => ?_) x 0
    rw [rd_inn _ _ _ _ _ _ (by rw [hM]; omega), if_pos g]
    exact (cg_wrap _).trans (Cg.sub (Cg.rfl_ _) (cg_wrap _))
   refine Cg.trans ?_ e.symm
   rw [dot_lin]
   exact (cg_wrap _).trans (Cg.sub (h j) ((cg_wrap _).trans (Cg.mul (h (m + d)) (Cg.rfl_ _))))
  ·rw [if_neg g]
   have e : (fun i => rd (inn f d (rd (M i) ((m + d : Nat) : Int)) (m + 1) 0 (M i)) (j : Int)) = fun i => rd (M i) (j : Int) := by
    funext i
    rw [rd_inn _ _ _ _ _ _ (by rw [hM]; omega), if_neg g]
   rw [e]
   exact h j
def basis (n k : Nat) : List Int := (List.replicate n 0).set k 1
theorem basis_len (n k : Nat) : (basis n k).length = n := by simp [basis]
theorem rd_basis (n k j : Nat) (h : k < n) : rd (basis n k) (j : Int) = if j = k then 1 else 0 := by
 unfold basis
 rw [rd_set _ _ _ _ (by simpa using h), rd_rep]
/-! the tables -/
def cyTs : List (List Int) := [[], [-1, 1], [1, 1], [1, 1, 1], [1, 0, 1], [1, 1, 1, 1, 1], [1, -1, 1], [1, 1, 1, 1, 1, 1, 1], [1, 0, 0, 0, 1], [1, 0, 0, 1, 0, 0, 1], [1, -1, 1, -1, 1], [1, 1, 1, 1, 1, 1, 1, 1, 1, 1, 1], [1, 0, -1, 0, 1], [1, 1, 1, 1, 1, 1, 1, 1, 1, 1, 1, 1, 1], [1, -1, 1, -1, 1, -1, 1], [1, -1, 0, 1, -1, 1, 0, -1, 1], [1, 0, 0, 0, 0, 0, 0, 0, 1]]
def pTs : List (List (List Int)) := [[], [[1]],
 [[1], [-1]],
 [[1, 0], [0, 1], [-1, -1]],
 [[1, 0], [0, 1], [-1, 0], [0, -1]],
 [[1, 0, 0, 0], [0, 1, 0, 0], [0, 0, 1, 0], [0, 0, 0, 1], [-1, -1, -1, -1]],
 [[1, 0], [0, 1], [-1, 1], [-1, 0], [0, -1], [1, -1]],
 [[1, 0, 0, 0, 0, 0], [0, 1, 0, 0, 0, 0], [0, 0, 1, 0, 0, 0], [0, 0, 0, 1, 0, 0], [0, 0, 0, 0, 1, 0], [0, 0, 0, 0, 0, 1], [-1, -1, -1, -1, -1, -1]],
 [[1, 0, 0, 0], [0, 1, 0, 0], [0, 0, 1, 0], [0, 0, 0, 1], [-1, 0, 0, 0], [0, -1, 0, 0], [0, 0, -1, 0], [0, 0, 0, -1]],
 [[1, 0, 0, 0, 0, 0], [0, 1, 0, 0, 0, 0], [0, 0, 1, 0, 0, 0], [0, 0, 0, 1, 0, 0], [0, 0, 0, 0, 1, 0], [0, 0, 0, 0, 0, 1], [-1, 0, 0, -1, 0, 0], [0, -1, 0, 0, -1, 0], [0, 0, -1, 0, 0, -1]],
 [[1, 0, 0, 0], [0, 1, 0, 0], [0, 0, 1, 0], [0, 0, 0, 1], [-1, 1, -1, 1], [-1, 0, 0, 0], [0, -1, 0, 0], [0, 0, -1, 0], [0, 0, 0, -1], [1, -1, 1, -1]],
 [[1, 0, 0, 0, 0, 0, 0, 0, 0, 0], [0, 1, 0, 0, 0, 0, 0, 0, 0, 0], [0, 0, 1, 0, 0, 0, 0, 0, 0, 0], [0, 0, 0, 1, 0, 0, 0, 0, 0, 0], [0, 0, 0, 0, 1, 0, 0, 0, 0, 0], [0, 0, 0, 0, 0, 1, 0, 0, 0, 0], [0, 0, 0, 0, 0, 0, 1, 0, 0, 0], [0, 0, 0, 0, 0, 0, 0, 1, 0, 0], [0, 0, 0, 0, 0, 0, 0, 0, 1, 0], [0, 0, 0, 0, 0, 0, 0, 0, 0, 1], [-1, -1, -1, -1, -1, -1, -1, -1, -1, -1]],
 [[1, 0, 0, 0], [0, 1, 0, 0], [0, 0, 1, 0], [0, 0, 0, 1], [-1, 0, 1, 0], [0, -1, 0, 1], [-1, 0, 0, 0], [0, -1, 0, 0], [0, 0, -1, 0], [0, 0, 0, -1], [1, 0, -1, 0], [0, 1, 0, -1]],
 [[1, 0, 0, 0, 0, 0, 0, 0, 0, 0, 0, 0], [0, 1, 0, 0, 0, 0, 0, 0, 0, 0, 0, 0], [0, 0, 1, 0, 0, 0, 0, 0, 0, 0, 0, 0], [0, 0, 0, 1, 0, 0, 0, 0, 0, 0, 0, 0], [0, 0, 0, 0, 1, 0, 0, 0, 0, 0, 0, 0], [0, 0, 0, 0, 0, 1, 0, 0, 0, 0, 0, 0], [0, 0, 0, 0, 0, 0, 1, 0, 0, 0, 0, 0], [0, 0, 0, 0, 0, 0, 0, 1, 0, 0, 0, 0], [0, 0, 0, 0, 0, 0, 0, 0, 1, 0, 0, 0], [0, 0, 0, 0, 0, 0, 0, 0, 0, 1, 0, 0], [0, 0, 0, 0, 0, 0, 0, 0, 0, 0, 1, 0], [0, 0, 0, 0, 0, 0, 0, 0, 0, 0, 0, 1], [-1, -1, -1, -1, -1, -1, -1, -1, -1, -1, -1, -1]],
 [[1, 0, 0, 0, 0, 0], [0, 1, 0, 0, 0, 0], [0, 0, 1, 0, 0, 0], [0, 0, 0, 1, 0, 0], [0, 0, 0, 0, 1, 0], [0, 0, 0, 0, 0, 1], [-1, 1, -1, 1, -1, 1], [-1, 0, 0, 0, 0, 0], [0, -1, 0, 0, 0, 0], [0, 0, -1, 0, 0, 0], [0, 0, 0, -1, 0, 0], [0, 0, 0, 0, -1, 0], [0, 0, 0, 0, 0, -1], [1, -1, 1, -1, 1, -1]],
 [[1, 0, 0, 0, 0, 0, 0, 0], [0, 1, 0, 0, 0, 0, 0, 0], [0, 0, 1, 0, 0, 0, 0, 0], [0, 0, 0, 1, 0, 0, 0, 0], [0, 0, 0, 0, 1, 0, 0, 0], [0, 0, 0, 0, 0, 1, 0, 0], [0, 0, 0, 0, 0, 0, 1, 0], [0, 0, 0, 0, 0, 0, 0, 1], [-1, 1, 0, -1, 1, -1, 0, 1], [-1, 0, 1, -1, 0, 0, -1, 1], [-1, 0, 0, 0, 0, -1, 0, 0], [0, -1, 0, 0, 0, 0, -1, 0], [0, 0, -1, 0, 0, 0, 0, -1], [1, -1, 0, 0, -1, 1, 0, -1], [1, 0, -1, 1, -1, 0, 1, -1]],
 [[1, 0, 0, 0, 0, 0, 0, 0], [0, 1, 0, 0, 0, 0, 0, 0], [0, 0, 1, 0, 0, 0, 0, 0], [0, 0, 0, 1, 0, 0, 0, 0], [0, 0, 0, 0, 1, 0, 0, 0], [0, 0, 0, 0, 0, 1, 0, 0], [0, 0, 0, 0, 0, 0, 1, 0], [0, 0, 0, 0, 0, 0, 0, 1], [-1, 0, 0, 0, 0, 0, 0, 0], [0, -1, 0, 0, 0, 0, 0, 0], [0, 0, -1, 0, 0, 0, 0, 0], [0, 0, 0, -1, 0, 0, 0, 0], [0, 0, 0, 0, -1, 0, 0, 0], [0, 0, 0, 0, 0, -1, 0, 0], [0, 0, 0, 0, 0, 0, -1, 0], [0, 0, 0, 0, 0, 0, 0, -1]]]
def cyT (n : Nat) : List Int := cyTs.getD n []
def pT (n : Nat) : List (List Int) := pTs.getD n []
def phN (n : Nat) : Nat := (phiT (n : Int)).toNat
def phNs : List Nat := [0, 1, 1, 2, 2, 4, 2, 6, 4, 6, 4, 10, 4, 12, 6, 8, 8]
theorem phN_all : ∀ n : Nat, n < 17 → phN n = phNs.getD n 0 := by decide +kernel
def redOk (n m : Nat) (f : List Int) (P : List (List Int)) : Bool :=
 (List.range (n + 1)).all fun len => (List.range len).all fun k => decide ((List.range m).map (fun (j : Nat) => rd (redL f m (len - m) (basis len k)) (j : Int)) = P.getD k [])
def tabOk (n : Nat) : Bool :=
 decide (spec_l01Cyclotomic.f 500 (n : Int) = some (cyT n)) && (decide ((cyT n).length = phNs.getD n 0 + 1) && (decide (impl_fieldOf.f 500 (n : Int) = some ((n : Int), ((phNs.getD n 0 : Nat) : Int), pT n)) && (decide ((pT n).length = n) && ((pT n).all (fun r => decide (r.length = phNs.getD n 0)) &&
  redOk n (phNs.getD n 0) (cyT n) (pT n)))))
set_option maxHeartbeats 20000000 in
theorem tab_all : ∀ n : Nat, n < 17 → 1 ≤ n → tabOk n = true := by decide +kernel
theorem phN_le (n : Nat) (h : 1 ≤ n ∧ n ≤ 16) : 1 ≤ phN n ∧ phN n ≤ 12 ∧ phN n ≤ n ∧ phiT (n : Int) = (phN n : Int) := by
 have : ∀ m : Nat, m < 17 → 1 ≤ m → 1 ≤ phN m ∧ phN m ≤ 12 ∧ phN m ≤ m ∧ phiT (m : Int) = (phN m : Int) := by decide +kernel
 exact this n (by omega) (by omega)
def outL (m : Nat) (c : List Int) : List Int := (List.range m).map fun (j : Nat) => rd c (j : Int)
theorem outL_len (m : Nat) (c : List Int) : (outL m c).length = m := by simp [outL]
theorem rd_outL (m : Nat) (c : List Int) (j : Nat) (h : j < m) : rd (outL m c) (j : Int) = rd c (j : Int) := by
 rw [rd_get, List.getD_eq_getElem?_getD]
 simp [outL, h]
structure Tab (n : Nat) : Prop where
 cyc : Ev (fun k => spec_l01Cyclotomic.f k (n : Int)) (cyT n)
 clen : (cyT n).length = phN n + 1
 field : Ev (fun k => impl_fieldOf.f k (n : Int)) ((n : Int), (phN n : Int), pT n)
 plen : (pT n).length = n
 rlen : ∀ k : Nat, k < n → (rd_L1 (pT n) (k : Int)).length = phN n
 same : ∀ len k j : Nat, len ≤ n → k < len → j < phN n → rd (redL (cyT n) (phN n) (len - phN n) (basis len k)) (j : Int) = rd (rd_L1 (pT n) (k : Int)) (j : Int)
theorem tab_ev (n : Nat) (h : 1 ≤ n ∧ n ≤ 16) : Tab n := by
 have hk := tab_all n (by omega) (by omega)
 simp only [tabOk, redOk, Bool.and_eq_true, List.all_eq_true, List.mem_range, decide_eq_true_eq, ← phN_all n (by omega)] at hk
 obtain ⟨h1, h2, h3, h4, h5, h6⟩ := hk
 refine ⟨Ev.of (fun k => spec_l01Cyclotomic.mono _ k) h1, h2, Ev.of (impl_fieldOf.mono _) h3, h4, fun k hk => ?_, fun len k j a b c => ?_⟩
 rotate_left
 ·have e := h6 len (by omega) k b
  have e1 : rd_L1 (pT n) (k : Int) = (pT n).getD k [] := by unfold rd_L1; rw [Int.toNat_natCast]
  rw [e1, ← e]
  exact (rd_outL (phN n) _ j c).symm
 have g : k < (pT n).length := by omega
 have e2 : rd_L1 (pT n) (k : Int) = (pT n)[k] := by unfold rd_L1; rw [Int.toNat_natCast, List.getD_eq_getElem?_getD, List.getElem?_eq_getElem g]; rfl
 rw [e2]
 exact h5 _ (List.getElem_mem g)
/-! the reference's reduction -/
theorem zero_ev (n : Nat) (h : 1 ≤ n ∧ n ≤ 16) : Ev (fun k => spec_l01Zero.f k (n : Int)) ((n : Int), List.replicate (phN n) 0) := by
 have hp := phN_le n h
 simp only [spec_l01Zero.f]
 refine Ev.bind (phi_spec (n : Int) (by omega)) ?_
 rw [hp.2.2.2]
 exact Ev.if_pos (by omega) (Ev.if_pos (by omega) (Ev.now _))
theorem red_l2 (a : Int) (m : Nat) (hm : m ≤ 12) (c : List Int) (hc : c.length ≤ 1048576) : ∀ (d i : Nat) (z : List Int), i + d = m → z.length = m → (∀ j : Nat, j < m → rd z (j : Int) = if j < i then rd c (j : Int) else 0) → Ev (fun k => spec_l01Reduce.l2 k c (m : Int) (i : Int) a z) (a, outL m c) := by
 intro d
 induction d with
 | zero =>
  intro i z h hz hr
  refine Ev.step (fun k => rfl) ?_
  simp only [spec_l01Reduce.l2]
  refine Ev.if_neg (by omega) (Ev.val (Ev.now _) ?_)
  rw [rd_ext (a := z) (b := outL m c) (by rw [outL_len, hz]) (fun j hj => by rw [hr j (by omega), if_pos (by omega), rd_outL m c j (by omega)])]
 | succ d ih =>
  intro i z h hz hr
  have ew : wrap64 ((i : Int) + 1) = ((i + 1 : Nat) : Int) := by rw [wid (by omega) (by omega)]; omega
  refine Ev.step (fun k => rfl) ?_
  simp only [spec_l01Reduce.l2, ew]
  refine Ev.if_pos (by omega) ?_
  by_cases g : i < c.length
  ·refine Ev.if_pos (by omega) (Ev.if_pos (by omega) (Ev.if_pos (by omega) ?_))
   rw [Int.toNat_natCast]
   refine ih (i + 1) _ (by omega) (by rw [List.length_set]; exact hz) (fun j hj => ?_)
   rw [rd_set _ _ _ _ (by omega)]
   by_cases e : j = i
   ·rw [if_pos e, e, if_pos (by omega)]
   ·rw [if_neg e, hr j hj]
    by_cases q : j < i
    ·rw [if_pos q, if_pos (by omega)]
    ·rw [if_neg q, if_neg (by omega)]
  ·refine Ev.if_neg (by omega) (Ev.val (Ev.now _) ?_)
   rw [rd_ext (a := z) (b := outL m c) (by rw [outL_len, hz]) (fun j hj => by
    rw [hr j (by omega), rd_outL m c j (by omega)]
    by_cases q : j < i
    ·rw [if_pos q]
    ·rw [if_neg q, rd_big c j (by omega)])]
theorem red_l1 (n : Int) (f : List Int) (m d : Nat) (hm : m ≤ 12) (hd : d ≤ 1000) (hf : f.length = m + 1) (lead : Int) (r : Int × List Int) : ∀ (q i : Nat) (c : List Int), i + q = m + 1 → m + d < c.length → c.length ≤ 2000 → Ev (fun k => spec_l01Reduce.l0 k n f (inn f d lead q i c) (m : Int) (((m + d : Nat) : Int) - 1)) r → Ev (fun k => spec_l01Reduce.l1 k n f c (m : Int) ((m + d : Nat) : Int) lead (i : Int)) r := by
 intro q
 induction q with
 | zero =>
  intro i c h h1 h2 hr
  refine Ev.step (fun k => rfl) ?_
  simp only [spec_l01Reduce.l1]
  rw [wid (a := ((m + d : Nat) : Int) - 1) (by omega) (by omega)]
  exact Ev.if_neg (by omega) hr
 | succ q ih =>
  intro i c h h1 h2 hr
  have ew : wrap64 ((i : Int) + 1) = ((i + 1 : Nat) : Int) := by rw [wid (by omega) (by omega)]; omega
  have ei : wrap64 (wrap64 (((m + d : Nat) : Int) - (m : Int)) + (i : Int)) = ((d + i : Nat) : Int) := by
   rw [wid (a := ((m + d : Nat) : Int) - (m : Int)) (by omega) (by omega), wid (by omega) (by omega)]; omega
  refine Ev.step (fun k => rfl) ?_
  simp only [spec_l01Reduce.l1, ew, ei]
  refine Ev.if_pos (by omega) (Ev.if_pos (by omega) (Ev.if_pos (by omega) (Ev.if_pos (by omega) (Ev.if_pos (by omega) ?_))))
  rw [Int.toNat_natCast]
  exact ih (i + 1) _ (by omega) (by rw [List.length_set]; exact h1) (by rw [List.length_set]; exact h2) hr
theorem red_l0 (n : Nat) (h : 1 ≤ n ∧ n ≤ 16) (T : Tab n) : ∀ (d : Nat) (c : List Int), phN n + d ≤ c.length → d ≤ 1000 → c.length ≤ 2000 → Ev (fun k => spec_l01Reduce.l0 k (n : Int) (cyT n) c (phN n : Int) (((phN n + d : Nat) : Int) - 1)) ((n : Int), outL (phN n) (redL (cyT n) (phN n) d c)) := by
 have hp := phN_le n h
 intro d
 induction d with
 | zero =>
  intro c h1 h2 h3
  refine Ev.step (fun k => rfl) ?_
  simp only [spec_l01Reduce.l0]
  refine Ev.if_neg (by omega) (Ev.bind (zero_ev n h) ?_)
  exact red_l2 (n : Int) (phN n) (by omega) c (by omega) (phN n) 0 _ (by omega) (by simp) (fun j hj => by rw [rd_rep, if_neg (by omega)])
 | succ d ih =>
  intro c h1 h2 h3
  have e : ((phN n + (d + 1) : Nat) : Int) - 1 = ((phN n + d : Nat) : Int) := by omega
  rw [e]
  refine Ev.step (fun k => rfl) ?_
  simp only [spec_l01Reduce.l0]
  refine Ev.if_pos (by omega) (Ev.if_pos (by omega) (Ev.if_pos (by omega) ?_))
  refine red_l1 (n : Int) (cyT n) (phN n) d (by omega) (by omega) T.clen _ _ (phN n + 1) 0 c (by omega) (by omega) h3 ?_
  exact ih _ (by rw [inn_len]; omega) (by omega) (by rw [inn_len]; exact h3)
theorem reduce_ev (n : Nat) (h : 1 ≤ n ∧ n ≤ 16) (c : List Int) (hc : c.length ≤ 1000) : Ev (fun k => spec_l01Reduce.f k (n : Int) c) ((n : Int), outL (phN n) (redL (cyT n) (phN n) (c.length - phN n) c)) := by
 have T := tab_ev n h
 have hp := phN_le n h
 have ho : spec_l01Own.f c = some c := by
  unfold spec_l01Own.f
  simp only [Option.bind_some, List.nil_append, List.length_nil]
  rw [if_pos (by omega)]
 simp only [spec_l01Reduce.f, ho, Option.bind_some]
 refine Ev.bind T.cyc ?_
 rw [T.clen, wid (a := ((phN n + 1 : Nat) : Int) - 1) (by omega) (by omega), wid (a := (c.length : Int) - 1) (by omega) (by omega), show ((phN n + 1 : Nat) : Int) - 1 = (phN n : Int) by omega]
 by_cases g : phN n ≤ c.length
 ·have := red_l0 n h T (c.length - phN n) c (by omega) (by omega) (by omega)
  rw [show ((phN n + (c.length - phN n) : Nat) : Int) - 1 = (c.length : Int) - 1 by omega] at this
  exact this
 ·rw [show c.length - phN n = 0 by omega]
  refine Ev.step (fun k => rfl) ?_
  simp only [spec_l01Reduce.l0]
  refine Ev.if_neg (by omega) (Ev.bind (zero_ev n h) ?_)
  exact red_l2 (n : Int) (phN n) (by omega) c (by omega) (phN n) 0 _ (by omega) (by simp) (fun j hj => by rw [rd_rep, if_neg (by omega)])
/-! the program's sum -/
def wrow (x : Int) (row : List Int) : Nat → Nat → List Int → List Int
 | 0, _, c => c
 | d + 1, i, c => wrow x row d (i + 1) (c.set i (wrap64 (rd c (i : Int) + wrap64 (x * rd row (i : Int)))))
theorem wrow_len (x : Int) (row : List Int) : ∀ (d i : Nat) (c : List Int), (wrow x row d i c).length = c.length := by
 intro d
 induction d with
 | zero => intro i c; rfl
 | succ d ih => intro i c; simp only [wrow]; rw [ih, List.length_set]
theorem wrow_nm (x : Int) (row : List Int) : ∀ (d i : Nat) (c : List Int), Nm c → Nm (wrow x row d i c) := by
 intro d
 induction d with
 | zero => intro i c h; exact h
 | succ d ih => intro i c h; exact ih _ _ (h.set _ _)
theorem rd_wrow (x : Int) (row : List Int) : ∀ (d i : Nat) (c : List Int), i + d ≤ c.length → ∀ j : Nat, rd (wrow x row d i c) (j : Int) = if i ≤ j ∧ j < i + d then wrap64 (rd c (j : Int) + wrap64 (x * rd row (j : Int))) else rd c (j : Int) := by
 intro d
 induction d with
 | zero => intro i c h j; rw [if_neg (by omega)]; rfl
 | succ d ih =>
  intro i c h j
  simp only [wrow]
  rw [ih (i + 1) _ (by rw [List.length_set]; omega), rd_set _ _ _ _ (by omega)]
  by_cases e : j = i
  ·subst e
   rw [if_neg (by omega), if_pos rfl, if_pos (by omega)]
  ·rw [if_neg e]
   by_cases g : i + 1 ≤ j ∧ j < i + 1 + d
   ·rw [if_pos g, if_pos (by omega)]
   ·rw [if_neg g, if_neg (by omega)]
def wth (P : List (List Int)) (m : Nat) (e : Nat → Nat) : List Int → Nat → List Int → List Int
 | [], _, c => c
 | x :: xs, i, c => wth P m e xs (i + 1) (wrow x (rd_L1 P (e i : Int)) m 0 c)
theorem wth_len (P : List (List Int)) (m : Nat) (e : Nat → Nat) : ∀ (x : List Int) (i : Nat) (c : List Int), (wth P m e x i c).length = c.length := by
 intro x
 induction x with
 | nil => intro i c; rfl
 | cons x xs ih => intro i c; simp only [wth]; rw [ih, wrow_len]
theorem wth_nm (P : List (List Int)) (m : Nat) (e : Nat → Nat) : ∀ (x : List Int) (i : Nat) (c : List Int), Nm c → Nm (wth P m e x i c) := by
 intro x
 induction x with
 | nil => intro i c h; exact h
 | cons x xs ih => intro i c h; exact ih _ _ (wrow_nm _ _ _ _ _ h)
theorem rd_wth (P : List (List Int)) (m : Nat) (e : Nat → Nat) : ∀ (x : List Int) (i : Nat) (c : List Int), c.length = m → ∀ j : Nat, j < m → Cg (rd (wth P m e x i c) (j : Int)) (rd c (j : Int) + dot x (fun q => rd (rd_L1 P (e q : Int)) (j : Int)) i) := by
 intro x
 induction x with
 | nil => intro i c h j hj; simp only [wth, dot, Int.add_zero]; exact Cg.rfl_ _
 | cons x xs ih =>
  intro i c h j hj
  simp only [wth, dot]
  refine (ih (i + 1) _ (by rw [wrow_len]; exact h) j hj).trans ?_
  rw [rd_wrow _ _ _ _ _ (by omega), if_pos (by omega), ← Int.add_assoc]
  exact Cg.add ((cg_wrap _).trans (Cg.add (Cg.rfl_ _) (cg_wrap _))) (Cg.rfl_ _)
theorem with_l1 (a : Int) (n : Int) (m : Nat) (hm : m ≤ 12) (P : List (List Int)) (xv : Int) (x : List Int) (i : Int) (row : List Int) (hrow : row.length = m) (r : List Int) : ∀ (d j : Nat) (c : List Int), j + d = m → c.length = m → Ev (fun k => impl_field_with.l0 k a (wrow xv row d j c) x (x.length : Int) (wrap64 (i + 1)) n (m : Int) P) r → Ev (fun k => impl_field_with.l1 k a c xv x (x.length : Int) i row (row.length : Int) (j : Int) n (m : Int) P) r := by
 intro d
 induction d with
 | zero =>
  intro j c h hc hr
  refine Ev.step (fun k => rfl) ?_
  simp only [impl_field_with.l1]
  exact Ev.if_neg (by omega) hr
 | succ d ih =>
  intro j c h hc hr
  have ew : wrap64 ((j : Int) + 1) = ((j + 1 : Nat) : Int) := by rw [wid (by omega) (by omega)]; omega
  refine Ev.step (fun k => rfl) ?_
  simp only [impl_field_with.l1, ew]
  refine Ev.if_pos (by omega) (Ev.if_pos (by omega) (Ev.if_pos (by omega) (Ev.if_pos (by omega) ?_)))
  rw [Int.toNat_natCast]
  exact ih (j + 1) _ (by omega) (by rw [List.length_set]; exact hc) hr
theorem with_l0 (n : Nat) (h : 1 ≤ n ∧ n ≤ 16) (T : Tab n) (a : Int) (e : Nat → Nat) (x : List Int) (hx : x.length ≤ 1000) (he : ∀ i : Nat, i < x.length → e i < n ∧ (impl_clos.f a (i : Int)).bind (fun t => impl_around.f t (n : Int)) = some (e i : Int)) : ∀ (d i : Nat) (c : List Int), i + d = x.length → c.length = phN n → Ev (fun k => impl_field_with.l0 k a c x (x.length : Int) (i : Int) (n : Int) (phN n : Int) (pT n)) (wth (pT n) (phN n) e (x.drop i) i c) := by
 have hp := phN_le n h
 intro d
 induction d with
 | zero =>
  intro i c h1 h2
  refine Ev.step (fun k => rfl) ?_
  simp only [impl_field_with.l0]
  exact Ev.if_neg (by omega) (Ev.val (Ev.now _) (by rw [List.drop_eq_nil_of_le (by omega)]; rfl))
 | succ d ih =>
  intro i c h1 h2
  have ew : wrap64 ((i : Int) + 1) = ((i + 1 : Nat) : Int) := by rw [wid (by omega) (by omega)]; omega
  obtain ⟨e1, e2⟩ := he i (by omega)
  obtain ⟨t, f1, f2⟩ := Option.bind_eq_some_iff.mp e2
  have g : i < x.length := by omega
  have ex : rd x (i : Int) = x[i] := by rw [rd_get, List.getD_eq_getElem?_getD, List.getElem?_eq_getElem g, Option.getD_some]
  refine Ev.step (fun k => rfl) ?_
  simp only [impl_field_with.l0, f1, f2, Option.bind_some]
  refine Ev.if_pos (by omega) (Ev.if_pos (by omega) (Ev.if_pos (by omega) (Ev.if_pos (by omega) (Ev.if_pos (by rw [T.plen]; omega) ?_))))
  refine with_l1 a (n : Int) (phN n) (by omega) (pT n) _ x (i : Int) _ (T.rlen _ e1) _ (phN n) 0 c (by omega) h2 ?_
  rw [ew, List.drop_eq_getElem_cons g, ex]
  exact ih (i + 1) _ (by omega) (by rw [wrow_len]; exact h2)
theorem with_ev (n : Nat) (h : 1 ≤ n ∧ n ≤ 16) (a : Int) (e : Nat → Nat) (x : List Int) (hx : x.length ≤ 1000) (he : ∀ i : Nat, i < x.length → e i < n ∧ (impl_clos.f a (i : Int)).bind (fun t => impl_around.f t (n : Int)) = some (e i : Int)) : Ev (fun k => impl_field_with.f k (n : Int) (phN n : Int) (pT n) x a) (wth (pT n) (phN n) e x 0 (List.replicate (phN n) 0)) := by
 have hp := phN_le n h
 simp only [impl_field_with.f]
 refine Ev.if_pos (by omega) (Ev.if_pos (by omega) ?_)
 rw [Int.toNat_natCast]
 have := with_l0 n h (tab_ev n h) a e x hx he x.length 0 (List.replicate (phN n) 0) (by omega) (by simp)
 rw [List.drop_zero] at this
 exact this
theorem sum_same (n : Nat) (h : 1 ≤ n ∧ n ≤ 16) (x : List Int) (e : Nat → Nat) (c : List Int) (hc : c.length ≤ n) (he : ∀ i, i < x.length → e i < c.length) (hn : Nm c) (hl : ∀ j : Nat, Cg (rd c (j : Int)) (dot x (fun i => if j = e i then 1 else 0) 0)) :
  outL (phN n) (redL (cyT n) (phN n) (c.length - phN n) c) = wth (pT n) (phN n) e x 0 (List.replicate (phN n) 0) := by
 have T := tab_ev n h
 have key : ∀ j : Nat, j < phN n → Cg (rd (redL (cyT n) (phN n) (c.length - phN n) c) (j : Int)) (dot x (fun i => rd (rd_L1 (pT n) (e i : Int)) (j : Int)) 0) := by
  intro j hj
  let M : Nat → List Int := fun i => basis c.length (if e i < c.length then e i else 0)
  by_cases hx : x.length = 0
  ·obtain rfl : x = [] := List.eq_nil_of_length_eq_zero hx
   have hz : ∀ j : Nat, rd c (j : Int) = 0 := fun j => by
    rw [← hn j]
    exact (wrap_of (hl j)).trans wrap_0
   have hce : c = List.replicate c.length 0 := rd_ext (by simp) (fun j _ => by rw [hz, rd_rep])
   have hz2 : ∀ (d : Nat) (c : List Int), (∀ j : Nat, rd c (j : Int) = 0) → phN n + d ≤ c.length → ∀ j : Nat, rd (redL (cyT n) (phN n) d c) (j : Int) = 0 := by
    intro d
    induction d with
    | zero => intro c h _ j; exact h j
    | succ d ih =>
     intro c h hd j
     refine ih _ (fun j => ?_) (by rw [inn_len]; omega) j
     rw [rd_inn _ _ _ _ _ _ (by omega), h, h]
     split
     ·rw [Int.zero_mul, wrap_0]; exact wrap_0
     ·rfl
   by_cases g : phN n ≤ c.length
   ·rw [hz2 _ c hz (by omega)]; exact Cg.rfl_ _
   ·rw [show c.length - phN n = 0 by omega]
    show Cg (rd c (j : Int)) _
    rw [hz]; exact Cg.rfl_ _
  ·have hpos : 0 < c.length := by have := he 0 (by omega); omega
   have hM : ∀ i, (M i).length = c.length := fun i => basis_len _ _
   have hL : LinAt x M c := fun j => by
    refine (hl j).trans (dot_in x 0 (fun i _ hi => ?_))
    have := he i (by omega)
    show Cg _ (rd (basis c.length (if e i < c.length then e i else 0)) (j : Int))
    rw [if_pos this, rd_basis _ _ _ this]
    exact Cg.rfl_ _
   have hr : LinAt x (fun i => redL (cyT n) (phN n) (c.length - phN n) (M i)) (redL (cyT n) (phN n) (c.length - phN n) c) := by
    by_cases g : phN n ≤ c.length
    ·exact lin_red x (cyT n) (phN n) _ c M hM (by omega) hL
    ·rw [show c.length - phN n = 0 by omega]; exact hL
   refine (hr j).trans (dot_in x 0 (fun i _ hi => ?_))
   have := he i (by omega)
   show Cg (rd (redL _ _ _ (basis c.length (if e i < c.length then e i else 0))) (j : Int)) _
   rw [if_pos this, T.same c.length (e i) j hc this hj]
   exact Cg.rfl_ _
 refine rd_ext (by rw [outL_len, wth_len]; simp) (fun j hj => ?_)
 rw [outL_len] at hj
 rw [rd_outL _ _ _ hj]
 have a1 := redL_nm (cyT n) (phN n) (c.length - phN n) c hn j
 have a2 := wth_nm (pT n) (phN n) e x 0 _ (Nm.rep (phN n)) j
 have a3 := rd_wth (pT n) (phN n) e x 0 (List.replicate (phN n) 0) (by simp) j hj
 rw [rd_rep, Int.zero_add] at a3
 rw [← a1, ← a2]
 exact wrap_of ((key j hj).trans a3.symm)
theorem around_ev (t : Int) (n : Nat) (h : 1 ≤ n ∧ n ≤ 16) : ∃ q : Nat, q < n ∧ impl_around.f t (n : Int) = some (q : Int) ∧ Int.tmod (wrap64 (Int.tmod t (n : Int) + (n : Int))) (n : Int) = (q : Int) := by
 have b1 : -(n : Int) < Int.tmod t (n : Int) := by
  have := Int.lt_tmod_of_pos t (show (0 : Int) < (n : Int) by omega); omega
 have b2 : Int.tmod t (n : Int) < n := Int.tmod_lt_of_pos t (by omega)
 have e0 : wrap64 (Int.tmod t (n : Int) + (n : Int)) = Int.tmod t (n : Int) + (n : Int) := wid (by omega) (by omega)
 have b3 : 0 ≤ Int.tmod (Int.tmod t (n : Int) + (n : Int)) (n : Int) := Int.tmod_nonneg _ (by omega)
 have b4 : Int.tmod (Int.tmod t (n : Int) + (n : Int)) (n : Int) < n := Int.tmod_lt_of_pos _ (by omega)
 obtain ⟨q, hq⟩ := Int.eq_ofNat_of_zero_le b3
 refine ⟨q, by omega, ?_, by rw [e0, hq]⟩
 unfold impl_around.f
 rw [if_neg (by omega), e0, hq]

theorem phii_all : ∀ n : Nat, n < 17 → 1 ≤ n → impl_totient.f 60 (n : Int) = some (phiT (n : Int)) := by decide +kernel
theorem phi_impl (n : Int) (h : 1 ≤ n ∧ n ≤ 16) : Ev (fun k => impl_totient.f k n) (phiT n) := by
 obtain ⟨m, rfl⟩ := Int.eq_ofNat_of_zero_le (show 0 ≤ n by omega)
 exact Ev.of (impl_totient.mono _) (phii_all m (by omega) (by omega))
def isCyc (n : Int) (l : List Int) : Bool := decide (1 ≤ n ∧ n ≤ 16) && (decide ((l.length : Int) = phiT n) && l.all (small 1000000000))
theorem is_spec (n : Int) (l : List Int) (hl : l.length ≤ 1048576) : Ev (fun k => spec_l01Is.f k n l) (isCyc n l) := by
 simp only [spec_l01Is.f, in_eq, Option.bind_some]
 by_cases h : 1 ≤ n ∧ n ≤ 16
 ·simp only [decide_eq_true h, if_true]
  refine Ev.bind (phi_spec n h) ?_
  by_cases e : (l.length : Int) = phiT n
  ·simp only [if_pos e]
   refine Ev.bind (fits_spec n l hl) (Ev.val (Ev.now _) ?_)
   simp [isCyc, h, e]
  ·simp only [if_neg e]
   exact Ev.val (Ev.now _) (by simp [isCyc, e])
 ·simp only [decide_eq_false h]
  exact Ev.val (Ev.now _) (by simp [isCyc, h])
theorem is_impl (n : Int) (l : List Int) : Ev (fun k => impl_IsCyclo.f k n l) (isCyc n l) := by
 simp only [impl_IsCyclo.f, impl_isOrder.f, within_eq, Option.bind_some]
 by_cases h : 1 ≤ n ∧ n ≤ 16
 ·simp only [decide_eq_true h, if_true]
  refine Ev.bind (phi_impl n h) ?_
  by_cases e : (l.length : Int) = phiT n
  ·simp only [if_pos e]
   rw [areSmall_eq _ _ (by omega) (by omega)]
   exact Ev.val (Ev.now _) (by simp [isCyc, h, e])
  ·simp only [if_neg e]
   exact Ev.val (Ev.now _) (by simp [isCyc, e])
 ·simp only [decide_eq_false h]
  exact Ev.val (Ev.now _) (by simp [isCyc, h])
theorem sz_eq (n : Int) (l : List Int) (hm : l.length ≤ maxLen) (c : Int) (hc : 0 ≤ c) (hc2 : c ≤ 1048576) : laws_szCyclo.f n l c = some (if c < (l.length : Int) then -1 else c - l.length) := by
 unfold maxLen at hm
 unfold laws_szCyclo.f laws_szInt64S.f
 rw [wid (by omega) (by omega)]
 by_cases h : c < (l.length : Int)
 ·rw [if_pos (by omega), if_pos h]; rfl
 ·rw [if_neg (by omega), if_neg h, Option.bind_some, if_neg (by omega)]
theorem toC (n : Int) (l : List Int) (hl : l.length ≤ 1048576) : Ev (fun k => laws_toCyclo.f k n l) (n, l) := by
 simp only [laws_toCyclo.f]
 exact Ev.bind (toI l hl) (Ev.now _)


def marks (n : Nat) : List Int := (List.range n).map fun (j : Nat) => (j : Int) + 1
theorem marks_at (n i : Nat) (h : i < n) : (marks n)[i]? = some ((i : Int) + 1) := by
 simp [marks, h]
theorem markI_l (m : Nat) (hm : m ≤ 1048576) : ∀ (n i : Nat) (x : List Int), x.length = m → i ≤ m → (∀ j, j < i → x[j]? = some ((j : Int) + 1)) → m - i ≤ n → laws_markInt64S.l0 (n + 1) x ((i : Int) + 1) (i : Int) = some ((m : Int) + 1, marks m) := by
 have fin : ∀ (i : Nat) (x : List Int), x.length = m → (∀ j, j < i → x[j]? = some ((j : Int) + 1)) → m ≤ i → x = marks m := by
  intro i x hx hj hi
  apply List.ext_getElem? fun j => ?_
  by_cases h : j < m
  ·rw [hj j (by omega), marks_at m j h]
  ·rw [List.getElem?_eq_none (by omega), List.getElem?_eq_none (by simp [marks]; omega)]
 intro n
 induction n with
 | zero =>
  intro i x hx hi hj hn
  rw [laws_markInt64S.l0, if_neg (by omega), fin i x hx hj (by omega), show i = m from by omega]
 | succ n ih =>
  intro i x hx hi hj hn
  rw [laws_markInt64S.l0]
  by_cases h : i < m
  ·rw [if_pos (by omega), if_pos (by omega), wid (by omega) (by omega), wid (by omega) (by omega)]
   have := ih (i + 1) (x.set i ((i : Int) + 1)) (by simpa using hx) (by omega) (fun j hjlt => ?_) (by omega)
   ·simpa using this
   ·by_cases e : j = i
    ·subst e
     rw [List.getElem?_set_self (by omega)]
    ·rw [List.getElem?_set_ne (fun e' => e e'.symm)]
     exact hj j (by omega)
  ·rw [if_neg (by omega), fin i x hx hj (by omega), show i = m from by omega]
theorem markI (l : List Int) (hl : l.length ≤ 1048576) : Ev (fun k => laws_markInt64S.f k l 1) ((l.length : Int) + 1, marks l.length) := by
 refine Ev.of (laws_markInt64S.mono l 1) (k := l.length + 1) ?_
 unfold laws_markInt64S.f
 have := markI_l l.length hl l.length 0 l rfl (by omega) (fun j hj => absurd hj (by omega)) (by omega)
 simpa using this
theorem heldI_l (m : Nat) (hm : m ≤ 1048576) : ∀ (n i : Nat), i ≤ m → m - i ≤ n → laws_heldInt64S.l0 (n + 1) (marks m) ((i : Int) + 1) (i : Int) = some ((m : Int) + 1) := by
 have hlen : (marks m).length = m := by simp [marks]
 intro n
 induction n with
 | zero =>
  intro i hi hn
  rw [laws_heldInt64S.l0, if_neg (by omega), show i = m from by omega]
 | succ n ih =>
  intro i hi hn
  rw [laws_heldInt64S.l0]
  by_cases h : i < m
  ·have hr : rd (marks m) (i : Int) = (i : Int) + 1 := by
    simp [rd, List.getD_eq_getElem?_getD, marks_at m i h]
   rw [if_pos (by omega), if_pos (by omega), if_pos hr, wid (by omega) (by omega), wid (by omega) (by omega)]
   have := ih (i + 1) (by omega) (by omega)
   simpa using this
  ·rw [if_neg (by omega), show i = m from by omega]
theorem heldI (l : List Int) (hl : l.length ≤ 1048576) : Ev (fun k => laws_heldInt64S.f k (marks l.length) 1) ((l.length : Int) + 1) := by
 refine Ev.of (laws_heldInt64S.mono _ 1) (k := l.length + 1) ?_
 unfold laws_heldInt64S.f
 have := heldI_l l.length hl l.length 0 (by omega) (by omega)
 simpa using this
theorem markC (n : Int) (l : List Int) (hl : l.length ≤ 1048576) : Ev (fun k => laws_markCyclo.f k n l 1) ((l.length : Int) + 1, marks l.length) := by
 simp only [laws_markCyclo.f]
 exact Ev.bind (markI l hl) (Ev.now _)
theorem heldC (n : Int) (l : List Int) (hl : l.length ≤ 1048576) : Ev (fun k => laws_heldCyclo.f k n (marks l.length) 1) ((l.length : Int) + 1) := by
 simp only [laws_heldCyclo.f]
 exact Ev.bind (heldI l hl) (Ev.if_neg (by omega) (Ev.now _))
theorem told_both (n : Int) (l : List Int) (hl : l.length ≤ 1000) : ∃ (m : Int) (l' : List Int) (c : Int), l'.length ≤ 1000 ∧ Ev (fun k => spec_l01Told.f k n l) (m, l', c) ∧ impl_cycloOf.f n l = some (m, l', c) := by
 have hf := fits_spec n l (by omega)
 simp only [spec_l01Told.f, impl_cycloOf.f]
 rw [areSmall_eq _ _ (by omega) (by omega), Option.bind_some]
 cases h : l.all (small 1000000000) with
 | false =>
  rw [h] at hf
  exact ⟨0, [], 3, by simp, Ev.bind hf (Ev.const fun _ => rfl), rfl⟩
 | true =>
  rw [h] at hf
  exact ⟨n, l, 0, hl, Ev.bind hf (Ev.const fun _ => rfl), rfl⟩
theorem law_tail (n : Int) (x : List Int) (a : Int) (hx : x.length ≤ 1048576) (m : Int) (l : List Int) (c : Int) (hl : l.length ≤ 1000) (hs : Ev (fun k => spec_LiftCyclo.f k n x a) (m, l, c)) (hi : Ev (fun k => impl_LiftCyclo.f k n x a) (m, l, c)) : Ev (fun k => laws_FnExactLiftCyclo.f k n x a) true := by
 have hl2 : l.length ≤ 1048576 := by omega
 simp only [laws_FnExactLiftCyclo.f, sz_eq n x (by unfold maxLen; omega) 1048576 (by omega) (by omega), if_neg (show ¬ (1048576 : Int) < (x.length : Int) by omega), Option.bind_some]
 refine Ev.if_neg (by omega) (Ev.bind (toC n x hx) (Ev.bind hs (Ev.bind (toC n x hx) (Ev.bind hi (Ev.bind (eqC m l hl2 m l) ?_)))))
 simp only [and_self, decide_true, if_true, bne_self_eq_false]
 refine Ev.step (fun k => rfl) ?_
 simp only [laws_FnExactLiftCyclo.j0, Bool.false_eq_true, if_false]
 refine Ev.bind (toC n x hx) (Ev.bind (eqC n x hx n x) ?_)
 simp only [and_self, decide_true, if_true]
 refine Ev.bind (markC n x hx) (Ev.if_neg (by omega) (Ev.bind (eqC m l hl2 m l) ?_))
 simp only [and_self, decide_true, if_true, bne_self_eq_false]
 refine Ev.step (fun k => rfl) ?_
 simp only [laws_FnExactLiftCyclo.j1, Bool.false_eq_true, if_false]
 refine Ev.bind (markC m l hl2) (Ev.bind (heldC m l hl2) (Ev.if_neg (by omega) (Ev.if_pos rfl (Ev.bind (toC n x hx) (Ev.bind hi (Ev.bind (eqC m l hl2 m l) ?_))))))
 simp only [and_self, decide_true, if_true, bne_self_eq_false]
 refine Ev.step (fun k => rfl) ?_
 simp only [laws_FnExactLiftCyclo.j2, Bool.false_eq_true, if_false]
 exact Ev.bind (heldC m l hl2) (Ev.if_neg (by omega) (Ev.if_pos rfl (Ev.now _)))
theorem small_nm {x : List Int} (h : x.all (small 1000000000) = true) : Nm x := by
 intro j
 by_cases g : j < x.length
 ·have : small 1000000000 x[j] = true := by rw [List.all_eq_true] at h; exact h _ (List.getElem_mem g)
  simp only [small, decide_eq_true_eq] at this
  rw [rd_get, List.getD_eq_getElem?_getD, List.getElem?_eq_getElem g, Option.getD_some]
  exact wid (by omega) (by omega)
 ·rw [rd_big x j (by omega)]; exact wrap_0
theorem dot_pick : ∀ (x : List Int) (s j : Nat), dot x (fun i => if j = i then 1 else 0) s = if s ≤ j then rd x ((j - s : Nat) : Int) else 0 := by
 intro x
 induction x with
 | nil =>
  intro s j
  simp only [dot]
  split
  ·rw [rd_big [] _ (by simp)]
  ·rfl
 | cons x xs ih =>
  intro s j
  simp only [dot, ih]
  by_cases e : j = s
  ·subst e
   rw [if_pos rfl, if_neg (by omega), if_pos (by omega), Nat.sub_self]
   simp [rd]
  ·rw [if_neg e]
   by_cases g : s ≤ j
   ·rw [if_pos (by omega), if_pos g]
    have : j - s = (j - (s + 1)) + 1 := by omega
    rw [this, rd_get, rd_get]
    simp
   ·rw [if_neg (by omega), if_neg g]
    simp
theorem pick_mul (x : List Int) (s : Nat) (hs : 1 ≤ s) (j : Nat) : dot x (fun i => if j = i * s then 1 else 0) 0 = if j % s = 0 then rd x ((j / s : Nat) : Int) else 0 := by
 by_cases h : j % s = 0
 ·have hj : j = (j / s) * s := (Nat.div_mul_cancel (Nat.dvd_of_mod_eq_zero h)).symm
  have hf : (fun i : Nat => if j = i * s then (1 : Int) else 0) = fun i => if j / s = i then 1 else 0 := by
   funext i
   by_cases e : j / s = i
   ·rw [if_pos e, if_pos (by rw [← e]; exact hj)]
   ·rw [if_neg e, if_neg (fun z => e (by rw [z]; exact Nat.mul_div_cancel i hs))]
  rw [hf, dot_pick, if_pos h, if_pos (Nat.zero_le _), Nat.sub_zero]
 ·have hf : (fun i : Nat => if j = i * s then (1 : Int) else 0) = fun _ => 0 := by
   funext i
   exact if_neg (fun z => h (by rw [z]; exact Nat.mul_mod_left i s))
  rw [hf, dot_zero, if_neg h]
theorem lt_mul {i m q s N : Nat} (hi : i < m) (hm : m ≤ q) (hN : q * s = N) (hs : 1 ≤ s) : i * s < N := by
 rw [← hN]
 exact Nat.mul_lt_mul_of_pos_right (Nat.lt_of_lt_of_le hi hm) hs
theorem lift_l (q s N : Nat) (hq : 1 ≤ q ∧ q ≤ 16) (hN : q * s = N) (hN2 : 1 ≤ N ∧ N ≤ 16) (hs : 1 ≤ s) (x : List Int) (hx : x.length ≤ q) (hnx : Nm x) (r : Int × List Int) (hr : ∀ c : List Int, c.length = N → Nm c → (∀ j : Nat, rd c (j : Int) = if j % s = 0 ∧ j / s < x.length then rd x ((j / s : Nat) : Int) else 0) → Ev (fun k => spec_l01Reduce.f k (N : Int) c) r) : ∀ (d i : Nat) (c : List Int), i + d = x.length → c.length = N → Nm c → (∀ j : Nat, rd c (j : Int) = if j % s = 0 ∧ j / s < i then rd x ((j / s : Nat) : Int) else 0) → Ev (fun k => spec_l01Lift.l0 k (N : Int) c (s : Int) (i : Int) (q : Int) x) r := by
 have hs16 : s ≤ 16 := by
  have : 1 * s ≤ q * s := Nat.mul_le_mul_right s hq.1
  omega
 intro d
 induction d with
 | zero =>
  intro i c h hl hc hcr
  have hi : i = x.length := h
  rw [hi] at hcr
  refine Ev.step (fun k => rfl) ?_
  simp only [spec_l01Lift.l0]
  exact Ev.if_neg (by omega) (Ev.bind (hr c hl hc hcr) (Ev.now _))
 | succ d ih =>
  intro i c h hl hc hcr
  have hi : i < x.length := by omega
  have hb := lt_mul hi hx hN hs
  have ew : wrap64 ((i : Int) + 1) = ((i + 1 : Nat) : Int) := by rw [wid (by omega) (by omega)]; omega
  have em : wrap64 ((i : Int) * (s : Int)) = ((i * s : Nat) : Int) := by
   rw [← Int.natCast_mul]
   exact wid (by omega) (by omega)
  refine Ev.step (fun k => rfl) ?_
  simp only [spec_l01Lift.l0, ew, em, Int.toNat_natCast]
  refine Ev.if_pos (Int.ofNat_lt.mpr hi) (Ev.if_pos (Int.natCast_nonneg i) (Ev.if_pos (Int.natCast_nonneg (i * s)) (Ev.if_pos (by rw [hl]; exact Int.ofNat_lt.mpr hb) ?_)))
  refine ih (i + 1) _ (by omega) (by rw [List.length_set]; exact hl) ?_ ?_
  ·have := hc.set (i * s) (rd x (i : Int))
   rwa [hnx i] at this
  ·intro j
   rw [rd_set c (i * s) j _ (by rw [hl]; exact hb)]
   by_cases e : j = i * s
   ·have e1 : j % s = 0 := by rw [e]; exact Nat.mul_mod_left i s
    have e2 : j / s = i := by rw [e]; exact Nat.mul_div_cancel i hs
    rw [if_pos e, e2, if_pos ⟨e1, Nat.lt_succ_self i⟩]
   ·rw [if_neg e, hcr j]
    by_cases z : j % s = 0 ∧ j / s < i
    ·rw [if_pos z, if_pos ⟨z.1, Nat.lt_succ_of_lt z.2⟩]
    ·rw [if_neg z]
     by_cases z2 : j % s = 0 ∧ j / s < i + 1
     ·exfalso
      have hj : (j / s) * s = j := Nat.div_mul_cancel (Nat.dvd_of_mod_eq_zero z2.1)
      have : j / s = i := by
       have := fun y => z ⟨z2.1, y⟩
       omega
      rw [this] at hj
      exact e hj.symm
     ·rw [if_neg z2]
theorem lift_exp (N s i : Nat) (hN : 1 ≤ N ∧ N ≤ 16) (hb : i * s < N) : (impl_clos.f (s : Int) (i : Int)).bind (fun t => impl_around.f t (N : Int)) = some ((i * s : Nat) : Int) := by
 have em : wrap64 ((i : Int) * (s : Int)) = ((i * s : Nat) : Int) := by
  rw [← Int.natCast_mul]
  exact wid (by omega) (by omega)
 unfold impl_clos.f
 rw [em, Option.bind_some]
 generalize i * s = p at hb
 clear em
 unfold impl_around.f
 have g1 : Int.tmod (p : Int) (N : Int) = (p : Int) := Int.tmod_eq_of_lt (by omega) (by omega)
 have g2 : wrap64 ((p : Int) + (N : Int)) = (p : Int) + (N : Int) := wid (by omega) (by omega)
 have g3 : Int.tmod ((p : Int) + (N : Int)) (N : Int) = (p : Int) := by rw [Int.tmod_eq_emod_of_nonneg (by omega), Int.add_emod_right, Int.emod_eq_of_lt (by omega) (by omega)]
 rw [if_neg (show ¬ (N : Int) = 0 by omega), g1, g2, g3]
theorem lift_hw (q s N : Nat) (hq : 1 ≤ q ∧ q ≤ 16) (hN : 1 ≤ N ∧ N ≤ 16) (d2 : q * s = N) (d3 : 1 ≤ s) (x : List Int) (hxq : x.length ≤ q) : Ev (fun k => impl_field_with.f k (N : Int) (phN N : Int) (pT N) x (s : Int)) (wth (pT N) (phN N) (fun i => i * s) x 0 (List.replicate (phN N) 0)) :=
 with_ev N hN (s : Int) (fun i => i * s) x (Nat.le_trans hxq (Nat.le_trans hq.2 (by decide))) (fun i hi => ⟨lt_mul hi hxq d2 d3, lift_exp N s i hN (lt_mul hi hxq d2 d3)⟩)
theorem lift_len (N : Nat) (hN : 1 ≤ N ∧ N ≤ 16) (e : Nat → Nat) (x : List Int) : (wth (pT N) (phN N) e x 0 (List.replicate (phN N) 0)).length ≤ 1000 := by
 have := phN_le N hN
 rw [wth_len, List.length_replicate]
 omega
theorem lift_hL (q s N : Nat) (hq : 1 ≤ q ∧ q ≤ 16) (hN : 1 ≤ N ∧ N ≤ 16) (d1 : wrap64 (Int.tdiv (N : Int) (q : Int)) = (s : Int)) (d2 : q * s = N) (d3 : 1 ≤ s) (x : List Int) (hxq : x.length ≤ q) (hnx : Nm x) : Ev (fun k => spec_l01Lift.f k (q : Int) x (N : Int)) ((N : Int), wth (pT N) (phN N) (fun i => i * s) x 0 (List.replicate (phN N) 0)) := by
 have n0 : (0 : Int) ≤ (N : Int) := Int.natCast_nonneg N
 have n1 : N ≤ 1000 := Nat.le_trans hN.2 (by decide)
 have n2 : ¬ ((q : Int) = 0) := by have := hq.1; omega
 simp only [spec_l01Lift.f, d1, Int.toNat_natCast]
 clear d1
 refine Ev.if_pos (by omega) (Ev.if_pos (by omega) (Ev.if_neg n2 ?_))
 refine lift_l q s N hq d2 hN d3 x hxq hnx _ (fun c c1 c2 c3 => ?_) x.length 0 _ (Nat.zero_add _) List.length_replicate (Nm.rep N) (fun j => by rw [rd_rep, if_neg (fun w => absurd w.2 (Nat.not_lt_zero _))])
 have hr := reduce_ev N hN c (by rw [c1]; exact n1)
 have hss := sum_same N hN x (fun i => i * s) c (Nat.le_of_eq c1) (fun i hi => by rw [c1]; exact lt_mul hi hxq d2 d3) c2 (fun j => by
  rw [pick_mul x s d3 j, c3 j]
  by_cases u : j % s = 0
  ·rw [if_pos u]
   by_cases v : j / s < x.length
   ·rw [if_pos ⟨u, v⟩]; exact Cg.rfl_ _
   ·rw [if_neg (fun w => v w.2), rd_big x _ (by omega)]; exact Cg.rfl_ _
  ·rw [if_neg u, if_neg (fun w => u w.1)]; exact Cg.rfl_ _)
 rw [hss] at hr
 exact hr
def lift_ok (N q : Nat) : Bool := q == 0 || N == 0 || !(Int.tmod (N : Int) (q : Int) == 0) || (wrap64 (Int.tdiv (N : Int) (q : Int)) == ((N / q : Nat) : Int) && q * (N / q) == N && Nat.ble 1 (N / q))
theorem lift_tab : ∀ N : Nat, N < 17 → ∀ q : Nat, q < 17 → lift_ok N q = true := by decide +kernel
theorem lift_all (N : Nat) (h1 : N < 17) (q : Nat) (h2 : q < 17) (h3 : 1 ≤ q) (h4 : 1 ≤ N) (h5 : Int.tmod (N : Int) (q : Int) = 0) : wrap64 (Int.tdiv (N : Int) (q : Int)) = ((N / q : Nat) : Int) ∧ q * (N / q) = N ∧ 1 ≤ N / q := by
 have h := lift_tab N h1 q h2
 unfold lift_ok at h
 rw [h5, show (q == 0) = false from beq_eq_false_iff_ne.mpr (by omega), show (N == 0) = false from beq_eq_false_iff_ne.mpr (by omega)] at h
 simp only [Bool.false_or, Bool.or_eq_true, Bool.and_eq_true, beq_iff_eq, Bool.not_eq_true', beq_self_eq_true, Nat.ble_eq, Bool.true_eq_false, false_or] at h
 exact ⟨h.1.1, h.1.2, h.2⟩
set_option maxHeartbeats 2000000 in
theorem FnExactLiftCyclo : laws_FnExactLiftCyclo.Pure := by
 intro n x a hn hm hv ha
 refine Ev.rounds (g := fun k => laws_FnExactLiftCyclo.f k n x a) ?_
 by_cases hx : x.length ≤ 1048576
 ·have h1 := is_spec n x hx
  have h2 := is_impl n x
  have hj : Ev (fun k => spec_LiftCyclo.j0 k a true n x) (0, [], 2) := Ev.step (fun k => rfl) (Ev.const fun _ => rfl)
  have hij : Ev (fun k => impl_LiftCyclo.j0 k a true n x a) (0, [], 2) := Ev.step (fun k => rfl) (Ev.const fun _ => rfl)
  cases hc : isCyc n x with
  | false =>
   rw [hc] at h1 h2
   refine law_tail n x a hx 0 [] 1 (by simp) ?_ ?_
   ·simp only [spec_LiftCyclo.f]; exact Ev.bind h1 (Ev.const fun _ => rfl)
   ·simp only [impl_LiftCyclo.f]; exact Ev.bind h2 (Ev.const fun _ => rfl)
  | true =>
   rw [hc] at h1 h2
   simp only [isCyc, Bool.and_eq_true, decide_eq_true_eq] at hc
   obtain ⟨⟨n1, n2⟩, hlen, hsm⟩ := hc
   by_cases z : 1 ≤ a ∧ a ≤ 16
   ·by_cases y : Int.tmod a n = 0
    ·obtain ⟨q, rfl⟩ := Int.eq_ofNat_of_zero_le (show 0 ≤ n by omega)
     obtain ⟨N, rfl⟩ := Int.eq_ofNat_of_zero_le (show 0 ≤ a by omega)
     have hq : 1 ≤ q ∧ q ≤ 16 := by omega
     have hN : 1 ≤ N ∧ N ≤ 16 := by omega
     have hp := phN_le q hq
     have T := tab_ev N hN
     obtain ⟨d1, d2, d3⟩ := lift_all N (by omega) q (by omega) hq.1 hN.1 y
     obtain ⟨s, hs⟩ : ∃ s, s = N / q := ⟨_, rfl⟩
     rw [← hs] at d1 d2 d3
     have hxq : x.length ≤ q := by
      have h1 : (x.length : Int) = (phN q : Int) := hlen.trans hp.2.2.2
      have h2 := hp.2.2.1
      omega
     have hnx := small_nm hsm
     have hq0 : ¬ ((q : Int) = 0) := by
      have := hq.1
      omega
     clear hlen hsm
     have hw := lift_hw q s N hq hN d2 d3 x hxq
     have hL := lift_hL q s N hq hN d1 d2 d3 x hxq hnx
     obtain ⟨m, l', c, t1, t2, t3⟩ := told_both (N : Int) (wth (pT N) (phN N) (fun i => i * s) x 0 (List.replicate (phN N) 0)) (lift_len N hN _ x)
     refine law_tail (q : Int) x (N : Int) hx m l' c t1 ?_ ?_
     ·simp only [spec_LiftCyclo.f, in_eq, Option.bind_some]
      refine Ev.bind h1 (Ev.if_pos rfl ?_)
      rw [decide_eq_true z, y]
      refine Ev.if_pos rfl (Ev.if_neg hq0 ?_)
      simp only [bne_self_eq_false]
      refine Ev.step (fun k => rfl) ?_
      simp only [spec_LiftCyclo.j0]
      exact Ev.if_neg (by simp) (Ev.bind hL (Ev.bind t2 (Ev.now _)))
     ·simp only [impl_LiftCyclo.f, impl_isOrder.f, within_eq, Option.bind_some]
      refine Ev.bind h2 (Ev.if_pos rfl ?_)
      rw [decide_eq_true z, y]
      refine Ev.if_pos rfl (Ev.if_neg hq0 ?_)
      simp only [bne_self_eq_false]
      refine Ev.step (fun k => rfl) ?_
      simp only [impl_LiftCyclo.j0, d1]
      refine Ev.if_neg (by simp) (Ev.bind T.field (Ev.if_neg hq0 (Ev.bind hw ?_)))
      rw [t3]
      exact Ev.now _
    ·refine law_tail n x a hx 0 [] 2 (by simp) ?_ ?_
     ·simp only [spec_LiftCyclo.f, in_eq, Option.bind_some]
      refine Ev.bind h1 (Ev.if_pos rfl ?_)
      rw [decide_eq_true z, show (Int.tmod a n != 0) = true from by simpa using y]
      exact Ev.if_pos rfl (Ev.if_neg (by omega) hj)
     ·simp only [impl_LiftCyclo.f, impl_isOrder.f, within_eq, Option.bind_some]
      refine Ev.bind h2 (Ev.if_pos rfl ?_)
      rw [decide_eq_true z, show (Int.tmod a n != 0) = true from by simpa using y]
      exact Ev.if_pos rfl (Ev.if_neg (by omega) hij)
   ·refine law_tail n x a hx 0 [] 2 (by simp) ?_ ?_
    ·simp only [spec_LiftCyclo.f, in_eq, Option.bind_some]
     refine Ev.bind h1 (Ev.if_pos rfl ?_)
     rw [decide_eq_false z]
     exact Ev.if_neg (by simp) hj
    ·simp only [impl_LiftCyclo.f, impl_isOrder.f, within_eq, Option.bind_some]
     refine Ev.bind h2 (Ev.if_pos rfl ?_)
     rw [decide_eq_false z]
     exact Ev.if_neg (by simp) hij
 ·simp only [laws_FnExactLiftCyclo.f, sz_eq n x hm 1048576 (by omega) (by omega), if_pos (show (1048576 : Int) < (x.length : Int) by omega), Option.bind_some]
  exact Ev.const fun _ => rfl

end Go.Proofs.Ytilofmfmfagofaa.Pure
