/- The degree of a number, as the program and as the reference tell it, for every order and every list. No condition. -/
import Derived.Test.YtilofmfmfagofaaXFnExactDegreeOfx12
namespace Go.Proofs.Ytilofmfmfagofaa.Pure
open Go.RowKit Go.Proofs.Ytilofmfmfagofaa.XFnExactDegreeOf Go.Proofs.YtilofmfmfagofaaW.PrintWords Go.Proofs.YtilofmfmfagofaaW.PrintLast
set_option linter.unusedVariables false
set_option linter.unusedSimpArgs false

theorem wfb {a : Int} (h : (Lit.int .i64 a).wf = true) : -9223372036854775808 ≤ a ∧ a ≤ 9223372036854775807 := by
 simp only [Lit.wf, IntKind.min, IntKind.max, IntKind.signed, IntKind.bits, Bool.and_eq_true, decide_eq_true_eq, if_true] at h
 omega
theorem wid {a : Int} (h1 : -9223372036854775808 ≤ a) (h2 : a ≤ 9223372036854775807) : wrap64 a = a := by
 unfold wrap64; omega
theorem Ev.const {α : Type} {g : Nat → Option α} {r : α} (h : ∀ k, g k = some r) : Ev g r := ⟨0, fun k _ => h k⟩
theorem Ev.if_pos {α : Type} {c : Prop} [Decidable c] {f g : Nat → Option α} {r : α} (hc : c) (h : Ev f r) : Ev (fun k => if c then f k else g k) r :=
 Ev.congr (fun k => _root_.if_pos hc) h
theorem Ev.if_neg {α : Type} {c : Prop} [Decidable c] {f g : Nat → Option α} {r : α} (hc : ¬ c) (h : Ev g r) : Ev (fun k => if c then f k else g k) r :=
 Ev.congr (fun k => _root_.if_neg hc) h
theorem Ev.val {α : Type} {f : Nat → Option α} {r s : α} (h : Ev f r) (e : r = s) : Ev f s := e ▸ h
theorem within_eq (a b c : Int) : impl_within.f a b c = some (decide (b ≤ a ∧ a ≤ c)) := by
 unfold impl_within.f
 by_cases h : b ≤ a <;> simp [h]
theorem in_eq (a b c : Int) : spec_l01In.f a b c = some (decide (b ≤ a ∧ a ≤ c)) := by
 unfold spec_l01In.f
 by_cases h : b ≤ a <;> simp [h]


theorem rd_get (l : List Int) (i : Nat) : rd l (i : Int) = l.getD i 0 := by simp [rd]
theorem eqI_l (a b : List Int) (h : a.length = b.length) (ha : a.length ≤ 1048576) : ∀ (n i : Nat), i ≤ a.length → (∀ j, j < i → a[j]? = b[j]?) → a.length - i ≤ n → laws_eqInt64S.l0 (n + 1) a b (i : Int) = some (decide (a = b)) := by
 have fin : ∀ i : Nat, (∀ j, j < i → a[j]? = b[j]?) → a.length ≤ i → a = b := by
  intro i hj hi
  apply List.ext_getElem? fun j => ?_
  by_cases h' : j < a.length
  ·exact hj j (by omega)
  ·rw [List.getElem?_eq_none (by omega), List.getElem?_eq_none (by omega)]
 intro n
 induction n with
 | zero =>
  intro i hi hj hn
  rw [laws_eqInt64S.l0, if_neg (by omega), decide_eq_true (fin i hj (by omega))]
 | succ n ih =>
  intro i hi hj hn
  rw [laws_eqInt64S.l0]
  by_cases h' : i < a.length
  ·rw [if_pos (by omega), if_pos (by omega), if_pos (by omega), rd_get, rd_get, wid (by omega) (by omega)]
   have ga : a[i]? = some (a.getD i 0) := by rw [List.getD_eq_getElem?_getD, List.getElem?_eq_getElem h']; rfl
   have gb : b[i]? = some (b.getD i 0) := by rw [List.getD_eq_getElem?_getD, List.getElem?_eq_getElem (by omega : i < b.length)]; rfl
   by_cases e : a.getD i 0 = b.getD i 0
   ·rw [if_pos e]
    have := ih (i + 1) (by omega) (fun j hjlt => ?_) (by omega)
    ·simpa using this
    ·by_cases e' : j = i
     ·rw [e', ga, gb, e]
     ·exact hj j (by omega)
   ·rw [if_neg e, decide_eq_false]
    intro e'
    exact e (by rw [e'])
  ·rw [if_neg (by omega), decide_eq_true (fin i hj (by omega))]
theorem eqI (a b : List Int) (ha : a.length ≤ 1048576) : Ev (fun k => laws_eqInt64S.f k a b) (decide (a = b)) := by
 refine Ev.of (laws_eqInt64S.mono a b) (k := a.length + 1) ?_
 unfold laws_eqInt64S.f
 by_cases h : a.length = b.length
 ·rw [if_pos (by omega)]
  exact eqI_l a b h ha a.length 0 (by omega) (fun j hj => absurd hj (by omega)) (by omega)
 ·rw [if_neg (by omega), decide_eq_false]
  intro e
  exact h (by rw [e])

theorem toI_l (l : List Int) (hl : l.length ≤ 1048576) : ∀ (n i : Nat) (x : List Int), x.length = l.length → i ≤ l.length → (∀ j, j < i → x[j]? = l[j]?) → l.length - i ≤ n → laws_toInt64S.l0 (n + 1) l x (i : Int) = some l := by
 have fin : ∀ (i : Nat) (x : List Int), x.length = l.length → (∀ j, j < i → x[j]? = l[j]?) → l.length ≤ i → x = l := by
  intro i x hx hj hi
  apply List.ext_getElem? fun j => ?_
  by_cases h : j < l.length
  ·exact hj j (by omega)
  ·rw [List.getElem?_eq_none (by omega), List.getElem?_eq_none (by omega)]
 intro n
 induction n with
 | zero =>
  intro i x hx hi hj hn
  rw [laws_toInt64S.l0, if_neg (by omega), fin i x hx hj (by omega)]
 | succ n ih =>
  intro i x hx hi hj hn
  rw [laws_toInt64S.l0]
  by_cases h : i < l.length
  ·rw [if_pos (by omega), if_pos (by omega), if_pos (by omega), wid (by omega) (by omega)]
   have := ih (i + 1) (x.set i (rd l (i : Int))) (by simpa using hx) (by omega) (fun j hjlt => ?_) (by omega)
   ·simpa using this
   ·by_cases e : j = i
    ·subst e
     rw [List.getElem?_set_self (by omega), rd_get, List.getD_eq_getElem?_getD, List.getElem?_eq_getElem h]
     rfl
    ·rw [List.getElem?_set_ne (fun e' => e e'.symm)]
     exact hj j (by omega)
  ·rw [if_neg (by omega), fin i x hx hj (by omega)]
theorem toI (l : List Int) (hl : l.length ≤ 1048576) : Ev (fun k => laws_toInt64S.f k l) l := by
 refine Ev.of (laws_toInt64S.mono l) (k := l.length + 1) ?_
 unfold laws_toInt64S.f
 rw [if_pos (by omega), if_pos (by simp; omega)]
 exact toI_l l hl l.length 0 _ (by simp) (by omega) (fun j hj => absurd hj (by omega)) (by omega)
def small (m x : Int) : Bool := decide (-m ≤ x ∧ x ≤ m)
theorem areSmall_eq (l : List Int) (m : Int) (h0 : 0 ≤ m) (h1 : m ≤ 9223372036854775807) : impl_areSmall.f l m = some (l.all (small m)) := by
 unfold impl_areSmall.f
 rw [wid (by omega) (by omega)]
 rfl
def phiT (n : Int) : Int := [0, 1, 1, 2, 2, 4, 2, 6, 4, 6, 4, 10, 4, 12, 6, 8, 8].getD n.toNat 0
theorem phis_all : ∀ n : Nat, n < 17 → 1 ≤ n → spec_l01Phi.f 60 (n : Int) = some (phiT (n : Int)) := by decide +kernel
theorem phi_spec (n : Int) (h : 1 ≤ n ∧ n ≤ 16) : Ev (fun k => spec_l01Phi.f k n) (phiT n) := by
 obtain ⟨m, rfl⟩ := Int.eq_ofNat_of_zero_le (show 0 ≤ n by omega)
 exact Ev.of (spec_l01Phi.mono _) (phis_all m (by omega) (by omega))
theorem phiT_le (n : Int) (h : 1 ≤ n ∧ n ≤ 16) : 1 ≤ phiT n ∧ phiT n ≤ 12 := by
 obtain ⟨m, rfl⟩ := Int.eq_ofNat_of_zero_le (show 0 ≤ n by omega)
 have : ∀ m : Nat, m < 17 → 1 ≤ m → 1 ≤ phiT (m : Int) ∧ phiT (m : Int) ≤ 12 := by decide +kernel
 exact this m (by omega) (by omega)
theorem fits_l (a : Int) (l : List Int) (hl : l.length ≤ 1048576) : ∀ (n i : Nat), i ≤ l.length → l.length - i ≤ n → spec_l01Fits.l0 (n + 1) (i : Int) a l = some ((l.drop i).all (small 1000000000)) := by
 intro n
 induction n with
 | zero =>
  intro i hi hn
  rw [spec_l01Fits.l0, if_neg (by omega), List.drop_eq_nil_of_le (by omega)]
  rfl
 | succ n ih =>
  intro i hi hn
  rw [spec_l01Fits.l0]
  by_cases h : i < l.length
  ·rw [if_pos (by omega), if_pos (by omega), in_eq, rd_get]
   simp only [Option.bind_some]
   rw [List.drop_eq_getElem_cons h, List.all_cons, List.getD_eq_getElem?_getD, List.getElem?_eq_getElem h, Option.getD_some]
   by_cases e : -1000000000 ≤ l[i] ∧ l[i] ≤ 1000000000
   ·rw [if_pos (by simpa using e), wid (by omega) (by omega)]
    have := ih (i + 1) (by omega) (by omega)
    rw [show ((i : Int) + 1) = ((i + 1 : Nat) : Int) from by omega, this]
    simp [small, e]
   ·rw [if_neg (by simpa using e)]
    simp [small, e]
  ·rw [if_neg (by omega), List.drop_eq_nil_of_le (by omega)]
   rfl
theorem fits_spec (a : Int) (l : List Int) (hl : l.length ≤ 1048576) : Ev (fun k => spec_l01Fits.f k a l) (l.all (small 1000000000)) := by
 refine Ev.of (spec_l01Fits.mono a l) (k := l.length + 1) ?_
 unfold spec_l01Fits.f
 have := fits_l a l hl l.length 0 (by omega) (by omega)
 simpa using this
theorem eqC (n : Int) (l : List Int) (hl : l.length ≤ 1048576) (m : Int) (l' : List Int) : Ev (fun k => laws_eqCyclo.f k n l m l') (decide (n = m ∧ l = l')) := by
 simp only [laws_eqCyclo.f]
 by_cases h : n = m
 ·simp only [if_pos h]
  refine Ev.bind (eqI l l' hl) ?_
  by_cases e : l = l'
  ·exact Ev.val (Ev.const (fun _ => by rw [decide_eq_true e]; rfl)) (by simp [h, e])
  ·exact Ev.val (Ev.const (fun _ => by rw [decide_eq_false e]; rfl)) (by simp [e])
 ·simp only [if_neg h]
  exact Ev.val (Ev.now _) (by simp [h])
/-! numbers by 2^64 -/
def Cg (a b : Int) : Prop := a % 18446744073709551616 = b % 18446744073709551616
theorem Cg.rfl_ (a : Int) : Cg a a := rfl
theorem Cg.symm {a b : Int} (h : Cg a b) : Cg b a := Eq.symm h
theorem Cg.trans {a b c : Int} (h : Cg a b) (k : Cg b c) : Cg a c := Eq.trans h k
theorem cg_wrap (a : Int) : Cg (wrap64 a) a := by unfold Cg wrap64; omega
theorem wrap_of {a b : Int} (h : Cg a b) : wrap64 a = wrap64 b := by unfold Cg at h; unfold wrap64; omega
theorem wrap_wrap (a : Int) : wrap64 (wrap64 a) = wrap64 a := wrap_of (cg_wrap a)
theorem Cg.add {a b c d : Int} (h : Cg a b) (k : Cg c d) : Cg (a + c) (b + d) := by unfold Cg at *; rw [Int.add_emod, h, k, ← Int.add_emod]
theorem Cg.sub {a b c d : Int} (h : Cg a b) (k : Cg c d) : Cg (a - c) (b - d) := by unfold Cg at *; rw [Int.sub_emod, h, k, ← Int.sub_emod]
theorem Cg.mul {a b c d : Int} (h : Cg a b) (k : Cg c d) : Cg (a * c) (b * d) := by unfold Cg at *; rw [Int.mul_emod, h, k, ← Int.mul_emod]
def dot : List Int → (Nat → Int) → Nat → Int
 | [], _, _ => 0
 | x :: xs, c, s => x * c s + dot xs c (s + 1)
theorem dot_cg {c d : Nat → Int} (h : ∀ i, Cg (c i) (d i)) : ∀ (x : List Int) (s : Nat), Cg (dot x c s) (dot x d s) := by
 intro x
 induction x with
 | nil => intro s; exact Cg.rfl_ _
 | cons x xs ih => intro s; exact Cg.add (Cg.mul (Cg.rfl_ x) (h s)) (ih (s + 1))
theorem dot_in {c d : Nat → Int} : ∀ (x : List Int) (s : Nat), (∀ i, s ≤ i → i < s + x.length → Cg (c i) (d i)) → Cg (dot x c s) (dot x d s) := by
 intro x
 induction x with
 | nil => intro s _; exact Cg.rfl_ _
 | cons x xs ih =>
  intro s h
  exact Cg.add (Cg.mul (Cg.rfl_ x) (h s (Nat.le_refl _) (by simp))) (ih (s + 1) (fun i h1 h2 => h i (by omega) (by simp; omega)))
theorem dot_lin (c d : Nat → Int) (k : Int) : ∀ (x : List Int) (s : Nat), dot x (fun i => c i - d i * k) s = dot x c s - dot x d s * k := by
 intro x
 induction x with
 | nil => intro s; simp [dot]
 | cons x xs ih =>
  intro s
  simp only [dot, ih, Int.mul_sub, Int.add_mul, Int.mul_assoc]
  omega
theorem dot_zero : ∀ (x : List Int) (s : Nat), dot x (fun _ => 0) s = 0 := by
 intro x
 induction x with
 | nil => intro s; rfl
 | cons x xs ih => intro s; simp [dot, ih]
/-! lists told by their reads -/
theorem rd_set (c : List Int) (a j : Nat) (v : Int) (h : a < c.length) : rd (c.set a v) (j : Int) = if j = a then v else rd c (j : Int) := by
 rw [rd_get, rd_get, List.getD_eq_getElem?_getD, List.getD_eq_getElem?_getD]
 by_cases e : j = a
 ·subst e; rw [List.getElem?_set_self h, if_pos rfl]; rfl
 ·rw [List.getElem?_set_ne (fun e' => e e'.symm), if_neg e]
theorem rd_rep (n j : Nat) : rd (List.replicate n 0) (j : Int) = 0 := by
 rw [rd_get, List.getD_eq_getElem?_getD, List.getElem?_replicate]
 split <;> rfl
theorem rd_ext {a b : List Int} (h : a.length = b.length) (hr : ∀ j : Nat, j < a.length → rd a (j : Int) = rd b (j : Int)) : a = b := by
 apply List.ext_getElem h
 intro i h1 h2
 have := hr i h1
 rw [rd_get, rd_get, List.getD_eq_getElem?_getD, List.getD_eq_getElem?_getD, List.getElem?_eq_getElem h1, List.getElem?_eq_getElem h2] at this
 exact this
theorem rd_big (c : List Int) (j : Nat) (h : c.length ≤ j) : rd c (j : Int) = 0 := by
 rw [rd_get, List.getD_eq_getElem?_getD, List.getElem?_eq_none h]; rfl
def Nm (c : List Int) : Prop := ∀ j : Nat, wrap64 (rd c (j : Int)) = rd c (j : Int)
theorem Nm.set {c : List Int} (h : Nm c) (a : Nat) (v : Int) : Nm (c.set a (wrap64 v)) := by
 intro j
 by_cases g : a < c.length
 ·rw [rd_set _ _ _ _ g]
  split
  ·exact wrap_wrap v
  ·exact h j
 ·rw [List.set_eq_of_length_le (by omega)]; exact h j
theorem wrap_0 : wrap64 0 = 0 := wid (by omega) (by omega)
theorem Nm.rep (n : Nat) : Nm (List.replicate n 0) := fun j => by rw [rd_rep, wrap_0]
/-! the reduction -/
def inn (f : List Int) (o : Nat) (lead : Int) : Nat → Nat → List Int → List Int
 | 0, _, c => c
 | d + 1, i, c => inn f o lead d (i + 1) (c.set (o + i) (wrap64 (rd c ((o + i : Nat) : Int) - wrap64 (lead * rd f (i : Int)))))
theorem inn_len (f : List Int) (o : Nat) (lead : Int) : ∀ (d i : Nat) (c : List Int), (inn f o lead d i c).length = c.length := by
 intro d
 induction d with
 | zero => intro i c; rfl
 | succ d ih => intro i c; simp only [inn]; rw [ih, List.length_set]
theorem inn_nm (f : List Int) (o : Nat) (lead : Int) : ∀ (d i : Nat) (c : List Int), Nm c → Nm (inn f o lead d i c) := by
 intro d
 induction d with
 | zero => intro i c h; exact h
 | succ d ih => intro i c h; exact ih _ _ (h.set _ _)
theorem rd_inn (f : List Int) (o : Nat) (lead : Int) : ∀ (d i : Nat) (c : List Int), o + i + d ≤ c.length → ∀ j : Nat, rd (inn f o lead d i c) (j : Int) = if o + i ≤ j ∧ j < o + i + d then wrap64 (rd c (j : Int) - wrap64 (lead * rd f ((j - o : Nat) : Int))) else rd c (j : Int) := by
 intro d
 induction d with
 | zero => intro i c h j; rw [if_neg (by omega)]; rfl
 | succ d ih =>
  intro i c h j
  simp only [inn]
  rw [ih (i + 1) _ (by rw [List.length_set]; omega), rd_set _ _ _ _ (by omega)]
  by_cases e : j = o + i
  ·subst e
   rw [if_neg (by omega), if_pos rfl, if_pos (by omega), show o + i - o = i by omega]
  ·rw [if_neg e]
   by_cases g : o + (i + 1) ≤ j ∧ j < o + (i + 1) + d
   ·rw [if_pos g, if_pos (by omega)]
   ·rw [if_neg g, if_neg (by omega)]
def redL (f : List Int) (m : Nat) : Nat → List Int → List Int
 | 0, c => c
 | d + 1, c => redL f m d (inn f d (rd c ((m + d : Nat) : Int)) (m + 1) 0 c)
theorem redL_len (f : List Int) (m : Nat) : ∀ (d : Nat) (c : List Int), (redL f m d c).length = c.length := by
 intro d
 induction d with
 | zero => intro c; rfl
 | succ d ih => intro c; simp only [redL]; rw [ih, inn_len]
theorem redL_nm (f : List Int) (m : Nat) : ∀ (d : Nat) (c : List Int), Nm c → Nm (redL f m d c) := by
 intro d
 induction d with
 | zero => intro c h; exact h
 | succ d ih => intro c h; exact ih _ (inn_nm _ _ _ _ _ _ h)
def LinAt (x : List Int) (M : Nat → List Int) (c : List Int) : Prop := ∀ j : Nat, Cg (rd c (j : Int)) (dot x (fun i => rd (M i) (j : Int)) 0)
theorem lin_red (x f : List Int) (m : Nat) : ∀ (d : Nat) (c : List Int) (M : Nat → List Int), (∀ i, (M i).length = c.length) → m + d ≤ c.length → LinAt x M c → LinAt x (fun i => redL f m d (M i)) (redL f m d c) := by
 intro d
 induction d with
 | zero => intro c M _ _ h; exact h
 | succ d ih =>
  intro c M hM hd h
  simp only [redL]
  refine ih _ (fun i => inn f d (rd (M i) ((m + d : Nat) : Int)) (m + 1) 0 (M i)) (fun i => by rw [inn_len, inn_len, hM]) (by rw [inn_len]; omega) (fun j => ?_)
  rw [rd_inn _ _ _ _ _ _ (by omega)]
  by_cases g : d + 0 ≤ j ∧ j < d + 0 + (m + 1)
  ·rw [if_pos g]
   have e : Cg (dot x (fun i => rd (inn f d (rd (M i) ((m + d : Nat) : Int)) (m + 1) 0 (M i)) (j : Int)) 0) (dot x (fun i => rd (M i) (j : Int) - rd (M i) ((m + d : Nat) : Int) * rd f ((j - d : Nat) : Int)) 0) := by
    refine dot_cg (fun i => ?_) x 0
    rw [rd_inn _ _ _ _ _ _ (by rw [hM]; omega), if_pos g]
    exact (cg_wrap _).trans (Cg.sub (Cg.rfl_ _) (cg_wrap _))
   refine Cg.trans ?_ e.symm
   rw [dot_lin]
   exact (cg_wrap _).trans (Cg.sub (h j) ((cg_wrap _).trans (Cg.mul (h (m + d)) (Cg.rfl_ _))))
  ·rw [if_neg g]
   have e : (fun i => rd (inn f d (rd (M i) ((m + d : Nat) : Int)) (m + 1) 0 (M i)) (j : Int)) = fun i => rd (M i) (j : Int) := by
    funext i
    rw [rd_inn _ _ _ _ _ _ (by rw [hM]; omega), if_neg g]
   rw [e]
   exact h j
def basis (n k : Nat) : List Int := (List.replicate n 0).set k 1
theorem basis_len (n k : Nat) : (basis n k).length = n := by simp [basis]
theorem rd_basis (n k j : Nat) (h : k < n) : rd (basis n k) (j : Int) = if j = k then 1 else 0 := by
 unfold basis
 rw [rd_set _ _ _ _ (by simpa using h), rd_rep]
/-! the tables -/
def cyTs : List (List Int) := [[], [-1, 1], [1, 1], [1, 1, 1], [1, 0, 1], [1, 1, 1, 1, 1], [1, -1, 1], [1, 1, 1, 1, 1, 1, 1], [1, 0, 0, 0, 1], [1, 0, 0, 1, 0, 0, 1], [1, -1, 1, -1, 1], [1, 1, 1, 1, 1, 1, 1, 1, 1, 1, 1], [1, 0, -1, 0, 1], [1, 1, 1, 1, 1, 1, 1, 1, 1, 1, 1, 1, 1], [1, -1, 1, -1, 1, -1, 1], [1, -1, 0, 1, -1, 1, 0, -1, 1], [1, 0, 0, 0, 0, 0, 0, 0, 1]]
def pTs : List (List (List Int)) := [[], [[1]],
 [[1], [-1]],
 [[1, 0], [0, 1], [-1, -1]],
 [[1, 0], [0, 1], [-1, 0], [0, -1]],
 [[1, 0, 0, 0], [0, 1, 0, 0], [0, 0, 1, 0], [0, 0, 0, 1], [-1, -1, -1, -1]],
 [[1, 0], [0, 1], [-1, 1], [-1, 0], [0, -1], [1, -1]],
 [[1, 0, 0, 0, 0, 0], [0, 1, 0, 0, 0, 0], [0, 0, 1, 0, 0, 0], [0, 0, 0, 1, 0, 0], [0, 0, 0, 0, 1, 0], [0, 0, 0, 0, 0, 1], [-1, -1, -1, -1, -1, -1]],
 [[1, 0, 0, 0], [0, 1, 0, 0], [0, 0, 1, 0], [0, 0, 0, 1], [-1, 0, 0, 0], [0, -1, 0, 0], [0, 0, -1, 0], [0, 0, 0, -1]],
 [[1, 0, 0, 0, 0, 0], [0, 1, 0, 0, 0, 0], [0, 0, 1, 0, 0, 0], [0, 0, 0, 1, 0, 0], [0, 0, 0, 0, 1, 0], [0, 0, 0, 0, 0, 1], [-1, 0, 0, -1, 0, 0], [0, -1, 0, 0, -1, 0], [0, 0, -1, 0, 0, -1]],
 [[1, 0, 0, 0], [0, 1, 0, 0], [0, 0, 1, 0], [0, 0, 0, 1], [-1, 1, -1, 1], [-1, 0, 0, 0], [0, -1, 0, 0], [0, 0, -1, 0], [0, 0, 0, -1], [1, -1, 1, -1]],
 [[1, 0, 0, 0, 0, 0, 0, 0, 0, 0], [0, 1, 0, 0, 0, 0, 0, 0, 0, 0], [0, 0, 1, 0, 0, 0, 0, 0, 0, 0], [0, 0, 0, 1, 0, 0, 0, 0, 0, 0], [0, 0, 0, 0, 1, 0, 0, 0, 0, 0], [0, 0, 0, 0, 0, 1, 0, 0, 0, 0], [0, 0, 0, 0, 0, 0, 1, 0, 0, 0], [0, 0, 0, 0, 0, 0, 0, 1, 0, 0], [0, 0, 0, 0, 0, 0, 0, 0, 1, 0], [0, 0, 0, 0, 0, 0, 0, 0, 0, 1], [-1, -1, -1, -1, -1, -1, -1, -1, -1, -1]],
 [[1, 0, 0, 0], [0, 1, 0, 0], [0, 0, 1, 0], [0, 0, 0, 1], [-1, 0, 1, 0], [0, -1, 0, 1], [-1, 0, 0, 0], [0, -1, 0, 0], [0, 0, -1, 0], [0, 0, 0, -1], [1, 0, -1, 0], [0, 1, 0, -1]],
 [[1, 0, 0, 0, 0, 0, 0, 0, 0, 0, 0, 0], [0, 1, 0, 0, 0, 0, 0, 0, 0, 0, 0, 0], [0, 0, 1, 0, 0, 0, 0, 0, 0, 0, 0, 0], [0, 0, 0, 1, 0, 0, 0, 0, 0, 0, 0, 0], [0, 0, 0, 0, 1, 0, 0, 0, 0, 0, 0, 0], [0, 0, 0, 0, 0, 1, 0, 0, 0, 0, 0, 0], [0, 0, 0, 0, 0, 0, 1, 0, 0, 0, 0, 0], [0, 0, 0, 0, 0, 0, 0, 1, 0, 0, 0, 0], [0, 0, 0, 0, 0, 0, 0, 0, 1, 0, 0, 0], [0, 0, 0, 0, 0, 0, 0, 0, 0, 1, 0, 0], [0, 0, 0, 0, 0, 0, 0, 0, 0, 0, 1, 0], [0, 0, 0, 0, 0, 0, 0, 0, 0, 0, 0, 1], [-1, -1, -1, -1, -1, -1, -1, -1, -1, -1, -1, -1]],
 [[1, 0, 0, 0, 0, 0], [0, 1, 0, 0, 0, 0], [0, 0, 1, 0, 0, 0], [0, 0, 0, 1, 0, 0], [0, 0, 0, 0, 1, 0], [0, 0, 0, 0, 0, 1], [-1, 1, -1, 1, -1, 1], [-1, 0, 0, 0, 0, 0], [0, -1, 0, 0, 0, 0], [0, 0, -1, 0, 0, 0], [0, 0, 0, -1, 0, 0], [0, 0, 0, 0, -1, 0], [0, 0, 0, 0, 0, -1], [1, -1, 1, -1, 1, -1]],
 [[1, 0, 0, 0, 0, 0, 0, 0], [0, 1, 0, 0, 0, 0, 0, 0], [0, 0, 1, 0, 0, 0, 0, 0], [0, 0, 0, 1, 0, 0, 0, 0], [0, 0, 0, 0, 1, 0, 0, 0], [0, 0, 0, 0, 0, 1, 0, 0], [0, 0, 0, 0, 0, 0, 1, 0], [0, 0, 0, 0, 0, 0, 0, 1], [-1, 1, 0, -1, 1, -1, 0, 1], [-1, 0, 1, -1, 0, 0, -1, 1], [-1, 0, 0, 0, 0, -1, 0, 0], [0, -1, 0, 0, 0, 0, -1, 0], [0, 0, -1, 0, 0, 0, 0, -1], [1, -1, 0, 0, -1, 1, 0, -1], [1, 0, -1, 1, -1, 0, 1, -1]],
 [[1, 0, 0, 0, 0, 0, 0, 0], [0, 1, 0, 0, 0, 0, 0, 0], [0, 0, 1, 0, 0, 0, 0, 0], [0, 0, 0, 1, 0, 0, 0, 0], [0, 0, 0, 0, 1, 0, 0, 0], [0, 0, 0, 0, 0, 1, 0, 0], [0, 0, 0, 0, 0, 0, 1, 0], [0, 0, 0, 0, 0, 0, 0, 1], [-1, 0, 0, 0, 0, 0, 0, 0], [0, -1, 0, 0, 0, 0, 0, 0], [0, 0, -1, 0, 0, 0, 0, 0], [0, 0, 0, -1, 0, 0, 0, 0], [0, 0, 0, 0, -1, 0, 0, 0], [0, 0, 0, 0, 0, -1, 0, 0], [0, 0, 0, 0, 0, 0, -1, 0], [0, 0, 0, 0, 0, 0, 0, -1]]]
def cyT (n : Nat) : List Int := cyTs.getD n []
def pT (n : Nat) : List (List Int) := pTs.getD n []
def phN (n : Nat) : Nat := (phiT (n : Int)).toNat
def phNs : List Nat := [0, 1, 1, 2, 2, 4, 2, 6, 4, 6, 4, 10, 4, 12, 6, 8, 8]
theorem phN_all : ∀ n : Nat, n < 17 → phN n = phNs.getD n 0 := by decide +kernel
def redOk (n m : Nat) (f : List Int) (P : List (List Int)) : Bool :=
 (List.range (n + 1)).all fun len => (List.range len).all fun k => decide ((List.range m).map (fun (j : Nat) => rd (redL f m (len - m) (basis len k)) (j : Int)) = P.getD k [])
def tabOk (n : Nat) : Bool :=
 decide (spec_l01Cyclotomic.f 500 (n : Int) = some (cyT n)) && (decide ((cyT n).length = phNs.getD n 0 + 1) && (decide (impl_fieldOf.f 500 (n : Int) = some ((n : Int), ((phNs.getD n 0 : Nat) : Int), pT n)) && (decide ((pT n).length = n) && ((pT n).all (fun r => decide (r.length = phNs.getD n 0)) &&
  redOk n (phNs.getD n 0) (cyT n) (pT n)))))
set_option maxHeartbeats 20000000 in
theorem tab_all : ∀ n : Nat, n < 17 → 1 ≤ n → tabOk n = true := by decide +kernel
theorem phN_le (n : Nat) (h : 1 ≤ n ∧ n ≤ 16) : 1 ≤ phN n ∧ phN n ≤ 12 ∧ phN n ≤ n ∧ phiT (n : Int) = (phN n : Int) := by
 have : ∀ m : Nat, m < 17 → 1 ≤ m → 1 ≤ phN m ∧ phN m ≤ 12 ∧ phN m ≤ m ∧ phiT (m : Int) = (phN m : Int) := by decide +kernel
 exact this n (by omega) (by omega)
def outL (m : Nat) (c : List Int) : List Int := (List.range m).map fun (j : Nat) => rd c (j : Int)
theorem outL_len (m : Nat) (c : List Int) : (outL m c).length = m := by simp [outL]
theorem rd_outL (m : Nat) (c : List Int) (j : Nat) (h : j < m) : rd (outL m c) (j : Int) = rd c (j : Int) := by
 rw [rd_get, List.getD_eq_getElem?_getD]
 simp [outL, h]
structure Tab (n : Nat) : Prop where
 cyc : Ev (fun k => spec_l01Cyclotomic.f k (n : Int)) (cyT n)
 clen : (cyT n).length = phN n + 1
 field : Ev (fun k => impl_fieldOf.f k (n : Int)) ((n : Int), (phN n : Int), pT n)
 plen : (pT n).length = n
 rlen : ∀ k : Nat, k < n → (rd_L1 (pT n) (k : Int)).length = phN n
 same : ∀ len k j : Nat, len ≤ n → k < len → j < phN n → rd (redL (cyT n) (phN n) (len - phN n) (basis len k)) (j : Int) = rd (rd_L1 (pT n) (k : Int)) (j : Int)
theorem tab_ev (n : Nat) (h : 1 ≤ n ∧ n ≤ 16) : Tab n := by
 have hk := tab_all n (by omega) (by omega)
 simp only [tabOk, redOk, Bool.and_eq_true, List.all_eq_true, List.mem_range, decide_eq_true_eq, ← phN_all n (by omega)] at hk
 obtain ⟨h1, h2, h3, h4, h5, h6⟩ := hk
 refine ⟨Ev.of (fun k => spec_l01Cyclotomic.mono _ k) h1, h2, Ev.of (impl_fieldOf.mono _) h3, h4, fun k hk => ?_, fun len k j a b c => ?_⟩
 rotate_left
 ·have e := h6 len (by omega) k b
  have e1 : rd_L1 (pT n) (k : Int) = (pT n).getD k [] := by unfold rd_L1; rw [Int.toNat_natCast]
  rw [e1, ← e]
  exact (rd_outL (phN n) _ j c).symm
 have g : k < (pT n).length := by omega
 have e2 : rd_L1 (pT n) (k : Int) = (pT n)[k] := by unfold rd_L1; rw [Int.toNat_natCast, List.getD_eq_getElem?_getD, List.getElem?_eq_getElem g]; rfl
 rw [e2]
 exact h5 _ (List.getElem_mem g)
/-! the reference's reduction -/
theorem zero_ev (n : Nat) (h : 1 ≤ n ∧ n ≤ 16) : Ev (fun k => spec_l01Zero.f k (n : Int)) ((n : Int), List.replicate (phN n) 0) := by
 have hp := phN_le n h
 simp only [spec_l01Zero.f]
 refine Ev.bind (phi_spec (n : Int) (by omega)) ?_
 rw [hp.2.2.2]
 exact Ev.if_pos (by omega) (Ev.if_pos (by omega) (Ev.now _))
theorem red_l2 (a : Int) (m : Nat) (hm : m ≤ 12) (c : List Int) (hc : c.length ≤ 1048576) : ∀ (d i : Nat) (z : List Int), i + d = m → z.length = m → (∀ j : Nat, j < m → rd z (j : Int) = if j < i then rd c (j : Int) else 0) → Ev (fun k => spec_l01Reduce.l2 k c (m : Int) (i : Int) a z) (a, outL m c) := by
 intro d
 induction d with
 | zero =>
  intro i z h hz hr
  refine Ev.step (fun k => rfl) ?_
  simp only [spec_l01Reduce.l2]
  refine Ev.if_neg (by omega) (Ev.val (Ev.now _) ?_)
  rw [rd_ext (a := z) (b := outL m c) (by rw [outL_len, hz]) (fun j hj => by rw [hr j (by omega), if_pos (by omega), rd_outL m c j (by omega)])]
 | succ d ih =>
  intro i z h hz hr
  have ew : wrap64 ((i : Int) + 1) = ((i + 1 : Nat) : Int) := by rw [wid (by omega) (by omega)]; omega
  refine Ev.step (fun k => rfl) ?_
  simp only [spec_l01Reduce.l2, ew]
  refine Ev.if_pos (by omega) ?_
  by_cases g : i < c.length
  ·refine Ev.if_pos (by omega) (Ev.if_pos (by omega) (Ev.if_pos (by omega) ?_))
   rw [Int.toNat_natCast]
   refine ih (i + 1) _ (by omega) (by rw [List.length_set]; exact hz) (fun j hj => ?_)
   rw [rd_set _ _ _ _ (by omega)]
   by_cases e : j = i
   ·rw [if_pos e, e, if_pos (by omega)]
   ·rw [if_neg e, hr j hj]
    by_cases q : j < i
    ·rw [if_pos q, if_pos (by omega)]
    ·rw [if_neg q, if_neg (by omega)]
  ·refine Ev.if_neg (by omega) (Ev.val (Ev.now _) ?_)
   rw [rd_ext (a := z) (b := outL m c) (by rw [outL_len, hz]) (fun j hj => by
    rw [hr j (by omega), rd_outL m c j (by omega)]
    by_cases q : j < i
    ·rw [if_pos q]
    ·rw [if_neg q, rd_big c j (by omega)])]
theorem red_l1 (n : Int) (f : List Int) (m d : Nat) (hm : m ≤ 12) (hd : d ≤ 1000) (hf : f.length = m + 1) (lead : Int) (r : Int × List Int) : ∀ (q i : Nat) (c : List Int), i + q = m + 1 → m + d < c.length → c.length ≤ 2000 → Ev (fun k => spec_l01Reduce.l0 k n f (inn f d lead q i c) (m : Int) (((m + d : Nat) : Int) - 1)) r → Ev (fun k => spec_l01Reduce.l1 k n f c (m : Int) ((m + d : Nat) : Int) lead (i : Int)) r := by
 intro q
 induction q with
 | zero =>
  intro i c h h1 h2 hr
  refine Ev.step (fun k => rfl) ?_
  simp only [spec_l01Reduce.l1]
  rw [wid (a := ((m + d : Nat) : Int) - 1) (by omega) (by omega)]
  exact Ev.if_neg (by omega) hr
 | succ q ih =>
  intro i c h h1 h2 hr
  have ew : wrap64 ((i : Int) + 1) = ((i + 1 : Nat) : Int) := by rw [wid (by omega) (by omega)]; omega
  have ei : wrap64 (wrap64 (((m + d : Nat) : Int) - (m : Int)) + (i : Int)) = ((d + i : Nat) : Int) := by
   rw [wid (a := ((m + d : Nat) : Int) - (m : Int)) (by omega) (by omega), wid (by omega) (by omega)]; omega
  refine Ev.step (fun k => rfl) ?_
  simp only [spec_l01Reduce.l1, ew, ei]
  refine Ev.if_pos (by omega) (Ev.if_pos (by omega) (Ev.if_pos (by omega) (Ev.if_pos (by omega) (Ev.if_pos (by omega) ?_))))
  rw [Int.toNat_natCast]
  exact ih (i + 1) _ (by omega) (by rw [List.length_set]; exact h1) (by rw [List.length_set]; exact h2) hr
theorem red_l0 (n : Nat) (h : 1 ≤ n ∧ n ≤ 16) (T : Tab n) : ∀ (d : Nat) (c : List Int), phN n + d ≤ c.length → d ≤ 1000 → c.length ≤ 2000 → Ev (fun k => spec_l01Reduce.l0 k (n : Int) (cyT n) c (phN n : Int) (((phN n + d : Nat) : Int) - 1)) ((n : Int), outL (phN n) (redL (cyT n) (phN n) d c)) := by
 have hp := phN_le n h
 intro d
 induction d with
 | zero =>
  intro c h1 h2 h3
  refine Ev.step (fun k => rfl) ?_
  simp only [spec_l01Reduce.l0]
  refine Ev.if_neg (by omega) (Ev.bind (zero_ev n h) ?_)
  exact red_l2 (n : Int) (phN n) (by omega) c (by omega) (phN n) 0 _ (by omega) (by simp) (fun j hj => by rw [rd_rep, if_neg (by omega)])
 | succ d ih =>
  intro c h1 h2 h3
  have e : ((phN n + (d + 1) : Nat) : Int) - 1 = ((phN n + d : Nat) : Int) := by omega
  rw [e]
  refine Ev.step (fun k => rfl) ?_
  simp only [spec_l01Reduce.l0]
  refine Ev.if_pos (by omega) (Ev.if_pos (by omega) (Ev.if_pos (by omega) ?_))
  refine red_l1 (n : Int) (cyT n) (phN n) d (by omega) (by omega) T.clen _ _ (phN n + 1) 0 c (by omega) (by omega) h3 ?_
  exact ih _ (by rw [inn_len]; omega) (by omega) (by rw [inn_len]; exact h3)
theorem reduce_ev (n : Nat) (h : 1 ≤ n ∧ n ≤ 16) (c : List Int) (hc : c.length ≤ 1000) : Ev (fun k => spec_l01Reduce.f k (n : Int) c) ((n : Int), outL (phN n) (redL (cyT n) (phN n) (c.length - phN n) c)) := by
 have T := tab_ev n h
 have hp := phN_le n h
 have ho : spec_l01Own.f c = some c := by
  unfold spec_l01Own.f
  simp only [Option.bind_some, List.nil_append, List.length_nil]
  rw [if_pos (by omega)]
 simp only [spec_l01Reduce.f, ho, Option.bind_some]
 refine Ev.bind T.cyc ?_
 rw [T.clen, wid (a := ((phN n + 1 : Nat) : Int) - 1) (by omega) (by omega), wid (a := (c.length : Int) - 1) (by omega) (by omega), show ((phN n + 1 : Nat) : Int) - 1 = (phN n : Int) by omega]
 by_cases g : phN n ≤ c.length
 ·have := red_l0 n h T (c.length - phN n) c (by omega) (by omega) (by omega)
  rw [show ((phN n + (c.length - phN n) : Nat) : Int) - 1 = (c.length : Int) - 1 by omega] at this
  exact this
 ·rw [show c.length - phN n = 0 by omega]
  refine Ev.step (fun k => rfl) ?_
  simp only [spec_l01Reduce.l0]
  refine Ev.if_neg (by omega) (Ev.bind (zero_ev n h) ?_)
  exact red_l2 (n : Int) (phN n) (by omega) c (by omega) (phN n) 0 _ (by omega) (by simp) (fun j hj => by rw [rd_rep, if_neg (by omega)])
/-! the program's sum -/
def wrow (x : Int) (row : List Int) : Nat → Nat → List Int → List Int
 | 0, _, c => c
 | d + 1, i, c => wrow x row d (i + 1) (c.set i (wrap64 (rd c (i : Int) + wrap64 (x * rd row (i : Int)))))
theorem wrow_len (x : Int) (row : List Int) : ∀ (d i : Nat) (c : List Int), (wrow x row d i c).length = c.length := by
 intro d
 induction d with
 | zero => intro i c; rfl
 | succ d ih => intro i c; simp only [wrow]; rw [ih, List.length_set]
theorem wrow_nm (x : Int) (row : List Int) : ∀ (d i : Nat) (c : List Int), Nm c → Nm (wrow x row d i c) := by
 intro d
 induction d with
 | zero => intro i c h; exact h
 | succ d ih => intro i c h; exact ih _ _ (h.set _ _)
theorem rd_wrow (x : Int) (row : List Int) : ∀ (d i : Nat) (c : List Int), i + d ≤ c.length → ∀ j : Nat, rd (wrow x row d i c) (j : Int) = if i ≤ j ∧ j < i + d then wrap64 (rd c (j : Int) + wrap64 (x * rd row (j : Int))) else rd c (j : Int) := by
 intro d
 induction d with
 | zero => intro i c h j; rw [if_neg (by omega)]; rfl
 | succ d ih =>
  intro i c h j
  simp only [wrow]
  rw [ih (i + 1) _ (by rw [List.length_set]; omega), rd_set _ _ _ _ (by omega)]
  by_cases e : j = i
  ·subst e
   rw [if_neg (by omega), if_pos rfl, if_pos (by omega)]
  ·rw [if_neg e]
   by_cases g : i + 1 ≤ j ∧ j < i + 1 + d
   ·rw [if_pos g, if_pos (by omega)]
   ·rw [if_neg g, if_neg (by omega)]
def wth (P : List (List Int)) (m : Nat) (e : Nat → Nat) : List Int → Nat → List Int → List Int
 | [], _, c => c
 | x :: xs, i, c => wth P m e xs (i + 1) (wrow x (rd_L1 P (e i : Int)) m 0 c)
theorem wth_len (P : List (List Int)) (m : Nat) (e : Nat → Nat) : ∀ (x : List Int) (i : Nat) (c : List Int), (wth P m e x i c).length = c.length := by
 intro x
 induction x with
 | nil => intro i c; rfl
 | cons x xs ih => intro i c; simp only [wth]; rw [ih, wrow_len]
theorem wth_nm (P : List (List Int)) (m : Nat) (e : Nat → Nat) : ∀ (x : List Int) (i : Nat) (c : List Int), Nm c → Nm (wth P m e x i c) := by
 intro x
 induction x with
 | nil => intro i c h; exact h
 | cons x xs ih => intro i c h; exact ih _ _ (wrow_nm _ _ _ _ _ h)
theorem rd_wth (P : List (List Int)) (m : Nat) (e : Nat → Nat) : ∀ (x : List Int) (i : Nat) (c : List Int), c.length = m → ∀ j : Nat, j < m → Cg (rd (wth P m e x i c) (j : Int)) (rd c (j : Int) + dot x (fun q => rd (rd_L1 P (e q : Int)) (j : Int)) i) := by
 intro x
 induction x with
 | nil => intro i c h j hj; simp only [wth, dot, Int.add_zero]; exact Cg.rfl_ _
 | cons x xs ih =>
  intro i c h j hj
  simp only [wth, dot]
  refine (ih (i + 1) _ (by rw [wrow_len]; exact h) j hj).trans ?_
  rw [rd_wrow _ _ _ _ _ (by omega), if_pos (by omega), ← Int.add_assoc]
  exact Cg.add ((cg_wrap _).trans (Cg.add (Cg.rfl_ _) (cg_wrap _))) (Cg.rfl_ _)
theorem with_l1 (a : Int) (n : Int) (m : Nat) (hm : m ≤ 12) (P : List (List Int)) (xv : Int) (x : List Int) (i : Int) (row : List Int) (hrow : row.length = m) (r : List Int) : ∀ (d j : Nat) (c : List Int), j + d = m → c.length = m → Ev (fun k => impl_field_with.l0 k a (wrow xv row d j c) x (x.length : Int) (wrap64 (i + 1)) n (m : Int) P) r → Ev (fun k => impl_field_with.l1 k a c xv x (x.length : Int) i row (row.length : Int) (j : Int) n (m : Int) P) r := by
 intro d
 induction d with
 | zero =>
  intro j c h hc hr
  refine Ev.step (fun k => rfl) ?_
  simp only [impl_field_with.l1]
  exact Ev.if_neg (by omega) hr
 | succ d ih =>
  intro j c h hc hr
  have ew : wrap64 ((j : Int) + 1) = ((j + 1 : Nat) : Int) := by rw [wid (by omega) (by omega)]; omega
  refine Ev.step (fun k => rfl) ?_
  simp only [impl_field_with.l1, ew]
  refine Ev.if_pos (by omega) (Ev.if_pos (by omega) (Ev.if_pos (by omega) (Ev.if_pos (by omega) ?_)))
  rw [Int.toNat_natCast]
  exact ih (j + 1) _ (by omega) (by rw [List.length_set]; exact hc) hr
theorem with_l0 (n : Nat) (h : 1 ≤ n ∧ n ≤ 16) (T : Tab n) (a : Int) (e : Nat → Nat) (x : List Int) (hx : x.length ≤ 1000) (he : ∀ i : Nat, i < x.length → e i < n ∧ (impl_clos.f a (i : Int)).bind (fun t => impl_around.f t (n : Int)) = some (e i : Int)) : ∀ (d i : Nat) (c : List Int), i + d = x.length → c.length = phN n → Ev (fun k => impl_field_with.l0 k a c x (x.length : Int) (i : Int) (n : Int) (phN n : Int) (pT n)) (wth (pT n) (phN n) e (x.drop i) i c) := by
 have hp := phN_le n h
 intro d
 induction d with
 | zero =>
  intro i c h1 h2
  refine Ev.step (fun k => rfl) ?_
  simp only [impl_field_with.l0]
  exact Ev.if_neg (by omega) (Ev.val (Ev.now _) (by rw [List.drop_eq_nil_of_le (by omega)]; rfl))
 | succ d ih =>
  intro i c h1 h2
  have ew : wrap64 ((i : Int) + 1) = ((i + 1 : Nat) : Int) := by rw [wid (by omega) (by omega)]; omega
  obtain ⟨e1, e2⟩ := he i (by omega)
  obtain ⟨t, f1, f2⟩ := Option.bind_eq_some_iff.mp e2
  have g : i < x.length := by omega
  have ex : rd x (i : Int) = x[i] := by rw [rd_get, List.getD_eq_getElem?_getD, List.getElem?_eq_getElem g, Option.getD_some]
  refine Ev.step (fun k => rfl) ?_
  simp only [impl_field_with.l0, f1, f2, Option.bind_some]
  refine Ev.if_pos (by omega) (Ev.if_pos (by omega) (Ev.if_pos (by omega) (Ev.if_pos (by omega) (Ev.if_pos (by rw [T.plen]; omega) ?_))))
  refine with_l1 a (n : Int) (phN n) (by omega) (pT n) _ x (i : Int) _ (T.rlen _ e1) _ (phN n) 0 c (by omega) h2 ?_
  rw [ew, List.drop_eq_getElem_cons g, ex]
  exact ih (i + 1) _ (by omega) (by rw [wrow_len]; exact h2)
theorem with_ev (n : Nat) (h : 1 ≤ n ∧ n ≤ 16) (a : Int) (e : Nat → Nat) (x : List Int) (hx : x.length ≤ 1000) (he : ∀ i : Nat, i < x.length → e i < n ∧ (impl_clos.f a (i : Int)).bind (fun t => impl_around.f t (n : Int)) = some (e i : Int)) : Ev (fun k => impl_field_with.f k (n : Int) (phN n : Int) (pT n) x a) (wth (pT n) (phN n) e x 0 (List.replicate (phN n) 0)) := by
 have hp := phN_le n h
 simp only [impl_field_with.f]
 refine Ev.if_pos (by omega) (Ev.if_pos (by omega) ?_)
 rw [Int.toNat_natCast]
 have := with_l0 n h (tab_ev n h) a e x hx he x.length 0 (List.replicate (phN n) 0) (by omega) (by simp)
 rw [List.drop_zero] at this
 exact this
theorem sum_same (n : Nat) (h : 1 ≤ n ∧ n ≤ 16) (x : List Int) (e : Nat → Nat) (c : List Int) (hc : c.length ≤ n) (he : ∀ i, i < x.length → e i < c.length) (hn : Nm c) (hl : ∀ j : Nat, Cg (rd c (j : Int)) (dot x (fun i => if j = e i then 1 else 0) 0)) :
  outL (phN n) (redL (cyT n) (phN n) (c.length - phN n) c) = wth (pT n) (phN n) e x 0 (List.replicate (phN n) 0) := by
 have T := tab_ev n h
 have key : ∀ j : Nat, j < phN n → Cg (rd (redL (cyT n) (phN n) (c.length - phN n) c) (j : Int)) (dot x (fun i => rd (rd_L1 (pT n) (e i : Int)) (j : Int)) 0) := by
  intro j hj
  let M : Nat → List Int := fun i => basis c.length (if e i < c.length then e i else 0)
  by_cases hx : x.length = 0
  ·obtain rfl : x = [] := List.eq_nil_of_length_eq_zero hx
   have hz : ∀ j : Nat, rd c (j : Int) = 0 := fun j => by
    rw [← hn j]
    exact (wrap_of (hl j)).trans wrap_0
   have hce : c = List.replicate c.length 0 := rd_ext (by simp) (fun j _ => by rw [hz, rd_rep])
   have hz2 : ∀ (d : Nat) (c : List Int), (∀ j : Nat, rd c (j : Int) = 0) → phN n + d ≤ c.length → ∀ j : Nat, rd (redL (cyT n) (phN n) d c) (j : Int) = 0 := by
    intro d
    induction d with
    | zero => intro c h _ j; exact h j
    | succ d ih =>
     intro c h hd j
     refine ih _ (fun j => ?_) (by rw [inn_len]; omega) j
     rw [rd_inn _ _ _ _ _ _ (by omega), h, h]
     split
     ·rw [Int.zero_mul, wrap_0]; exact wrap_0
     ·rfl
   by_cases g : phN n ≤ c.length
   ·rw [hz2 _ c hz (by omega)]; exact Cg.rfl_ _
   ·rw [show c.length - phN n = 0 by omega]
    show Cg (rd c (j : Int)) _
    rw [hz]; exact Cg.rfl_ _
  ·have hpos : 0 < c.length := by have := he 0 (by omega); omega
   have hM : ∀ i, (M i).length = c.length := fun i => basis_len _ _
   have hL : LinAt x M c := fun j => by
    refine (hl j).trans (dot_in x 0 (fun i _ hi => ?_))
    have := he i (by omega)
    show Cg _ (rd (basis c.length (if e i < c.length then e i else 0)) (j : Int))
    rw [if_pos this, rd_basis _ _ _ this]
    exact Cg.rfl_ _
   have hr : LinAt x (fun i => redL (cyT n) (phN n) (c.length - phN n) (M i)) (redL (cyT n) (phN n) (c.length - phN n) c) := by
    by_cases g : phN n ≤ c.length
    ·exact lin_red x (cyT n) (phN n) _ c M hM (by omega) hL
    ·rw [show c.length - phN n = 0 by omega]; exact hL
   refine (hr j).trans (dot_in x 0 (fun i _ hi => ?_))
   have := he i (by omega)
   show Cg (rd (redL _ _ _ (basis c.length (if e i < c.length then e i else 0))) (j : Int)) _
   rw [if_pos this, T.same c.length (e i) j hc this hj]
   exact Cg.rfl_ _
 refine rd_ext (by rw [outL_len, wth_len]; simp) (fun j hj => ?_)
 rw [outL_len] at hj
 rw [rd_outL _ _ _ hj]
 have a1 := redL_nm (cyT n) (phN n) (c.length - phN n) c hn j
 have a2 := wth_nm (pT n) (phN n) e x 0 _ (Nm.rep (phN n)) j
 have a3 := rd_wth (pT n) (phN n) e x 0 (List.replicate (phN n) 0) (by simp) j hj
 rw [rd_rep, Int.zero_add] at a3
 rw [← a1, ← a2]
 exact wrap_of ((key j hj).trans a3.symm)
theorem around_ev (t : Int) (n : Nat) (h : 1 ≤ n ∧ n ≤ 16) : ∃ q : Nat, q < n ∧ impl_around.f t (n : Int) = some (q : Int) ∧ Int.tmod (wrap64 (Int.tmod t (n : Int) + (n : Int))) (n : Int) = (q : Int) := by
 have b1 : -(n : Int) < Int.tmod t (n : Int) := by
  have := Int.lt_tmod_of_pos t (show (0 : Int) < (n : Int) by omega); omega
 have b2 : Int.tmod t (n : Int) < n := Int.tmod_lt_of_pos t (by omega)
 have e0 : wrap64 (Int.tmod t (n : Int) + (n : Int)) = Int.tmod t (n : Int) + (n : Int) := wid (by omega) (by omega)
 have b3 : 0 ≤ Int.tmod (Int.tmod t (n : Int) + (n : Int)) (n : Int) := Int.tmod_nonneg _ (by omega)
 have b4 : Int.tmod (Int.tmod t (n : Int) + (n : Int)) (n : Int) < n := Int.tmod_lt_of_pos _ (by omega)
 obtain ⟨q, hq⟩ := Int.eq_ofNat_of_zero_le b3
 refine ⟨q, by omega, ?_, by rw [e0, hq]⟩
 unfold impl_around.f
 rw [if_neg (by omega), e0, hq]

theorem phii_all : ∀ n : Nat, n < 17 → 1 ≤ n → impl_totient.f 60 (n : Int) = some (phiT (n : Int)) := by decide +kernel
theorem phi_impl (n : Int) (h : 1 ≤ n ∧ n ≤ 16) : Ev (fun k => impl_totient.f k n) (phiT n) := by
 obtain ⟨m, rfl⟩ := Int.eq_ofNat_of_zero_le (show 0 ≤ n by omega)
 exact Ev.of (impl_totient.mono _) (phii_all m (by omega) (by omega))
def isCyc (n : Int) (l : List Int) : Bool := decide (1 ≤ n ∧ n ≤ 16) && (decide ((l.length : Int) = phiT n) && l.all (small 1000000000))
theorem is_spec (n : Int) (l : List Int) (hl : l.length ≤ 1048576) : Ev (fun k => spec_l01Is.f k n l) (isCyc n l) := by
 simp only [spec_l01Is.f, in_eq, Option.bind_some]
 by_cases h : 1 ≤ n ∧ n ≤ 16
 ·simp only [decide_eq_true h, if_true]
  refine Ev.bind (phi_spec n h) ?_
  by_cases e : (l.length : Int) = phiT n
  ·simp only [if_pos e]
   refine Ev.bind (fits_spec n l hl) (Ev.val (Ev.now _) ?_)
   simp [isCyc, h, e]
  ·simp only [if_neg e]
   exact Ev.val (Ev.now _) (by simp [isCyc, e])
 ·simp only [decide_eq_false h]
  exact Ev.val (Ev.now _) (by simp [isCyc, h])
theorem is_impl (n : Int) (l : List Int) : Ev (fun k => impl_IsCyclo.f k n l) (isCyc n l) := by
 simp only [impl_IsCyclo.f, impl_isOrder.f, within_eq, Option.bind_some]
 by_cases h : 1 ≤ n ∧ n ≤ 16
 ·simp only [decide_eq_true h, if_true]
  refine Ev.bind (phi_impl n h) ?_
  by_cases e : (l.length : Int) = phiT n
  ·simp only [if_pos e]
   rw [areSmall_eq _ _ (by omega) (by omega)]
   exact Ev.val (Ev.now _) (by simp [isCyc, h, e])
  ·simp only [if_neg e]
   exact Ev.val (Ev.now _) (by simp [isCyc, e])
 ·simp only [decide_eq_false h]
  exact Ev.val (Ev.now _) (by simp [isCyc, h])
theorem sz_eq (n : Int) (l : List Int) (hm : l.length ≤ maxLen) (c : Int) (hc : 0 ≤ c) (hc2 : c ≤ 1048576) : laws_szCyclo.f n l c = some (if c < (l.length : Int) then -1 else c - l.length) := by
 unfold maxLen at hm
 unfold laws_szCyclo.f laws_szInt64S.f
 rw [wid (by omega) (by omega)]
 by_cases h : c < (l.length : Int)
 ·rw [if_pos (by omega), if_pos h]; rfl
 ·rw [if_neg (by omega), if_neg h, Option.bind_some, if_neg (by omega)]
theorem toC (n : Int) (l : List Int) (hl : l.length ≤ 1048576) : Ev (fun k => laws_toCyclo.f k n l) (n, l) := by
 simp only [laws_toCyclo.f]
 exact Ev.bind (toI l hl) (Ev.now _)
def exI (a : Int) (n i : Nat) : Nat := (Int.tmod (wrap64 (Int.tmod (wrap64 ((i : Int) * a)) (n : Int) + (n : Int))) (n : Int)).toNat
theorem exI_ev (a : Int) (n i : Nat) (h : 1 ≤ n ∧ n ≤ 16) : exI a n i < n ∧ Int.tmod (wrap64 (Int.tmod (wrap64 ((i : Int) * a)) (n : Int) + (n : Int))) (n : Int) = (exI a n i : Int) := by
 obtain ⟨q, h1, _, h3⟩ := around_ev (wrap64 ((i : Int) * a)) n h
 unfold exI
 rw [h3]
 exact ⟨by simpa using h1, by simp⟩
def galL (e : Nat → Nat) : List Int → Nat → List Int → List Int
 | [], _, c => c
 | x :: xs, i, c => galL e xs (i + 1) (c.set (e i) (wrap64 (rd c (e i : Int) + x)))
theorem galL_len (e : Nat → Nat) : ∀ (x : List Int) (i : Nat) (c : List Int), (galL e x i c).length = c.length := by
 intro x
 induction x with
 | nil => intro i c; rfl
 | cons x xs ih => intro i c; simp only [galL]; rw [ih, List.length_set]
theorem galL_nm (e : Nat → Nat) : ∀ (x : List Int) (i : Nat) (c : List Int), Nm c → Nm (galL e x i c) := by
 intro x
 induction x with
 | nil => intro i c h; exact h
 | cons x xs ih => intro i c h; exact ih _ _ (h.set _ _)
theorem rd_galL (e : Nat → Nat) : ∀ (x : List Int) (i : Nat) (c : List Int), (∀ q, e q < c.length) → ∀ j : Nat, Cg (rd (galL e x i c) (j : Int)) (rd c (j : Int) + dot x (fun q => if j = e q then 1 else 0) i) := by
 intro x
 induction x with
 | nil => intro i c h j; simp only [galL, dot, Int.add_zero]; exact Cg.rfl_ _
 | cons x xs ih =>
  intro i c h j
  simp only [galL, dot]
  refine (ih (i + 1) _ (fun q => by rw [List.length_set]; exact h q) j).trans ?_
  rw [rd_set _ _ _ _ (h i), ← Int.add_assoc]
  refine Cg.add ?_ (Cg.rfl_ _)
  by_cases g : j = e i
  ·rw [if_pos g, if_pos g, Int.mul_one, g]; exact cg_wrap _
  ·rw [if_neg g, if_neg g, Int.mul_zero, Int.add_zero]; exact Cg.rfl_ _
theorem gal_l0 (n : Nat) (h : 1 ≤ n ∧ n ≤ 16) (a : Int) (x : List Int) (hx : x.length ≤ 1000) : ∀ (d i : Nat) (c : List Int), i + d = x.length → c.length = n → Ev (fun k => spec_l01Galois.l0 k a (n : Int) c (i : Int) (n : Int) x) ((n : Int), outL (phN n) (redL (cyT n) (phN n) (n - phN n) (galL (exI a n) (x.drop i) i c))) := by
 intro d
 induction d with
 | zero =>
  intro i c h1 h2
  refine Ev.step (fun k => rfl) ?_
  simp only [spec_l01Galois.l0]
  rw [List.drop_eq_nil_of_le (by omega)]
  refine Ev.if_neg (by omega) (Ev.bind (reduce_ev n h c (by omega)) (Ev.val (Ev.now _) ?_))
  rw [h2]; rfl
 | succ d ih =>
  intro i c h1 h2
  have ew : wrap64 ((i : Int) + 1) = ((i + 1 : Nat) : Int) := by rw [wid (by omega) (by omega)]; omega
  obtain ⟨e1, e2⟩ := exI_ev a n i h
  have g : i < x.length := by omega
  have ex : rd x (i : Int) = x[i] := by rw [rd_get, List.getD_eq_getElem?_getD, List.getElem?_eq_getElem g, Option.getD_some]
  refine Ev.step (fun k => rfl) ?_
  simp only [spec_l01Galois.l0, ew, e2]
  refine Ev.if_pos (by omega) (Ev.if_neg (by omega) (Ev.if_pos (by omega) (Ev.if_pos (by omega) (Ev.if_pos (by omega) ?_))))
  rw [Int.toNat_natCast, List.drop_eq_getElem_cons g, ex]
  exact ih (i + 1) _ (by omega) (by rw [List.length_set]; exact h2)
def imgL (n : Nat) (a : Int) (x : List Int) : List Int := wth (pT n) (phN n) (exI a n) x 0 (List.replicate (phN n) 0)
theorem imgL_len (n : Nat) (a : Int) (x : List Int) : (imgL n a x).length = phN n := by unfold imgL; rw [wth_len]; simp
theorem image_at (n : Nat) (h : 1 ≤ n ∧ n ≤ 16) (a : Int) (x : List Int) (hx : x.length ≤ 1000) : Ev (fun k => impl_field_image.f k (n : Int) (phN n : Int) (pT n) x a) (imgL n a x) ∧ Ev (fun k => spec_l01Galois.f k (n : Int) x a) ((n : Int), imgL n a x) := by
 unfold imgL
 have hw := with_ev n h a (exI a n) x hx (fun i _ => by
  obtain ⟨e1, e2⟩ := exI_ev a n i h
  refine ⟨e1, ?_⟩
  unfold impl_clos.f
  rw [Option.bind_some]
  unfold impl_around.f
  rw [if_neg (by omega), Int.mul_comm a (i : Int), e2])
 have hl : (galL (exI a n) x 0 (List.replicate n 0)).length = n := by rw [galL_len]; simp
 have hs := sum_same n h x (exI a n) (galL (exI a n) x 0 (List.replicate n 0)) (by omega) (fun i _ => by rw [hl]; exact (exI_ev a n i h).1) (galL_nm _ _ _ _ (Nm.rep n)) (fun j => by
  have := rd_galL (exI a n) x 0 (List.replicate n 0) (fun q => by simp; exact (exI_ev a n q h).1) j
  rwa [rd_rep, Int.zero_add] at this)
 rw [hl] at hs
 refine ⟨hw, ?_⟩
 simp only [spec_l01Galois.f]
 refine Ev.if_pos (by omega) (Ev.if_pos (by omega) ?_)
 rw [Int.toNat_natCast]
 have := gal_l0 n h a x hx x.length 0 (List.replicate n 0) (by omega) (by simp)
 rw [List.drop_zero, hs] at this
 exact this
theorem image_both (n : Nat) (h : 1 ≤ n ∧ n ≤ 16) (a : Int) (x : List Int) (hx : x.length ≤ 1000) : ∃ l : List Int, l.length = phN n ∧ Ev (fun k => impl_field_image.f k (n : Int) (phN n : Int) (pT n) x a) l ∧ Ev (fun k => spec_l01Galois.f k (n : Int) x a) ((n : Int), l) :=
 ⟨imgL n a x, imgL_len n a x, (image_at n h a x hx).1, (image_at n h a x hx).2⟩
def unL (n : Nat) : Nat → Nat → List Nat
 | 0, _ => []
 | d + 1, a => if Nat.gcd a n = 1 then a :: unL n d (a + 1) else unL n d (a + 1)
def units (n : Nat) : List Nat := unL n n 1
theorem unL_len (n : Nat) : ∀ d a, (unL n d a).length ≤ d := by
 intro d
 induction d with
 | zero => intro a; simp [unL]
 | succ d ih =>
  intro a
  simp only [unL]
  have := ih (a + 1)
  split <;> simp <;> omega
theorem gcds : ∀ n : Nat, n < 17 → ∀ a : Nat, a ≤ n → 1 ≤ a → spec_l01Gcd.f 40 (a : Int) (n : Int) = some ((Nat.gcd a n : Nat) : Int) := by decide +kernel
theorem units_all : ∀ n : Nat, n < 17 → 1 ≤ n → impl_unitsOf.f 200 (n : Int) = some ((units n).map fun (a : Nat) => (a : Int)) := by decide +kernel
theorem units_ev (n : Nat) (h : 1 ≤ n ∧ n ≤ 16) : Ev (fun k => impl_unitsOf.f k (n : Int)) ((units n).map fun (a : Nat) => (a : Int)) := Ev.of (impl_unitsOf.mono _) (units_all n (by omega) (by omega))
theorem rd_cast (l : List Nat) (i : Nat) (h : i < l.length) : rd (l.map fun (a : Nat) => (a : Int)) (i : Int) = (l[i] : Int) := by
 rw [rd_get, List.getD_eq_getElem?_getD]
 simp [h]
def im28 (n : Nat) (x : List Int) (a : Nat) : S28 := ⟨(n : Int), imgL n (a : Int) x⟩
theorem simg_l (n : Nat) (h : 1 ≤ n ∧ n ≤ 16) (x : List Int) (hx : x.length ≤ 1000) : ∀ (d a : Nat) (xs : List S28) (ys : List Int), a + d = n + 1 → 1 ≤ a → xs.length ≤ a → ys.length ≤ a → Ev (fun k => spec_l02Images.l0 k xs ys (a : Int) (n : Int) x) (xs ++ (unL n d a).map (im28 n x), ys ++ (unL n d a).map fun (a : Nat) => (a : Int)) := by
 intro d
 induction d with
 | zero =>
  intro a xs ys h1 h2 h3 h4
  refine Ev.step (fun k => rfl) ?_
  simp only [spec_l02Images.l0]
  exact Ev.if_neg (by omega) (Ev.val (Ev.now _) (by simp [unL]))
 | succ d ih =>
  intro a xs ys h1 h2 h3 h4
  have ew : wrap64 ((a : Int) + 1) = ((a + 1 : Nat) : Int) := by rw [wid (by omega) (by omega)]; omega
  have hg : Ev (fun k => spec_l01Gcd.f k (a : Int) (n : Int)) ((Nat.gcd a n : Nat) : Int) := Ev.of (spec_l01Gcd.mono _ _) (gcds n (by omega) a (by omega) h2)
  refine Ev.step (fun k => rfl) ?_
  simp only [spec_l02Images.l0, ew]
  refine Ev.if_pos (by omega) (Ev.bind hg ?_)
  by_cases z : Nat.gcd a n = 1
  ·refine Ev.if_pos (by omega) (Ev.bind (image_at n h (a : Int) x hx).2 (Ev.if_pos (by omega) (Ev.if_pos (by omega) (Ev.val (ih (a + 1) _ _ (by omega) (by omega) (by simp; omega) (by simp; omega)) ?_))))
   simp [unL, z, im28]
  ·refine Ev.if_neg (by omega) (Ev.val (ih (a + 1) _ _ (by omega) (by omega) (by omega) (by omega)) ?_)
   simp [unL, z]
theorem simg_ev (n : Nat) (h : 1 ≤ n ∧ n ≤ 16) (x : List Int) (hx : x.length ≤ 1000) : Ev (fun k => spec_l02Images.f k (n : Int) x) ((units n).map (im28 n x), (units n).map fun (a : Nat) => (a : Int)) := by
 simp only [spec_l02Images.f]
 have := simg_l n h x hx n 1 [] [] (by omega) (by omega) (by simp) (by simp)
 simpa [units] using this
theorem units_len (n : Nat) : (units n).length ≤ n := unL_len n n 1
theorem rd28 (n : Nat) (x : List Int) (l : List Nat) (i : Nat) (h : i < l.length) : rd_T28 (l.map (im28 n x)) (i : Int) = im28 n x l[i] := by
 unfold rd_T28
 rw [Int.toNat_natCast, List.getD_eq_getElem?_getD]
 simp [h]
theorem fimg_l (n : Nat) (h : 1 ≤ n ∧ n ≤ 16) (x : List Int) (hx : x.length ≤ 1000) (us : List Nat) (hu : us.length ≤ 1000) : ∀ (d i : Nat) (xs : List (List Int)), i + d = us.length → xs.length ≤ i → Ev (fun k => impl_field_images.l0 k x xs (us.map fun (a : Nat) => (a : Int)) (us.length : Int) (i : Int) (n : Int) (phN n : Int) (pT n)) (xs ++ (us.drop i).map fun (a : Nat) => imgL n (a : Int) x) := by
 intro d
 induction d with
 | zero =>
  intro i xs h1 h2
  refine Ev.step (fun k => rfl) ?_
  simp only [impl_field_images.l0]
  exact Ev.if_neg (by omega) (Ev.val (Ev.now _) (by rw [List.drop_eq_nil_of_le (by omega)]; simp))
 | succ d ih =>
  intro i xs h1 h2
  have ew : wrap64 ((i : Int) + 1) = ((i + 1 : Nat) : Int) := by rw [wid (by omega) (by omega)]; omega
  have g : i < us.length := by omega
  refine Ev.step (fun k => rfl) ?_
  simp only [impl_field_images.l0, ew, rd_cast us i g, List.length_map]
  refine Ev.if_pos (by omega) (Ev.if_pos (by omega) (Ev.if_pos (by omega) (Ev.bind (image_at n h (us[i] : Int) x hx).1 (Ev.if_pos (by omega) (Ev.val (ih (i + 1) _ (by omega) (by simp; omega)) ?_)))))
  rw [List.drop_eq_getElem_cons g, List.map_cons, List.append_assoc]
  rfl
theorem fimg_ev (n : Nat) (h : 1 ≤ n ∧ n ≤ 16) (x : List Int) (hx : x.length ≤ 1000) : Ev (fun k => impl_field_images.f k (n : Int) (phN n : Int) (pT n) x) ((units n).map fun (a : Nat) => imgL n (a : Int) x) := by
 simp only [impl_field_images.f]
 refine Ev.bind (units_ev n h) ?_
 have := fimg_l n h x hx (units n) (by have := units_len n; omega) (units n).length 0 [] (by omega) (by simp)
 simpa using this

theorem sEq_l (a b : List Int) (h : a.length = b.length) (ha : a.length ≤ 1048576) : ∀ (n i : Nat), i ≤ a.length → (∀ j, j < i → a[j]? = b[j]?) → a.length - i ≤ n → slices_Equal_int64_int64.l0 (n + 1) a b (a.length : Int) (i : Int) = some (decide (a = b)) := by
 have fin : ∀ i : Nat, (∀ j, j < i → a[j]? = b[j]?) → a.length ≤ i → a = b := by
  intro i hj hi
  apply List.ext_getElem? fun j => ?_
  by_cases h' : j < a.length
  ·exact hj j (by omega)
  ·rw [List.getElem?_eq_none (by omega), List.getElem?_eq_none (by omega)]
 intro n
 induction n with
 | zero =>
  intro i hi hj hn
  rw [slices_Equal_int64_int64.l0, if_neg (by omega), decide_eq_true (fin i hj (by omega))]
 | succ n ih =>
  intro i hi hj hn
  rw [slices_Equal_int64_int64.l0]
  by_cases h' : i < a.length
  ·rw [if_pos (by omega), if_pos (by omega), if_pos (by omega), if_pos (by omega), rd_get, rd_get, wid (by omega) (by omega)]
   have ga : a[i]? = some (a.getD i 0) := by rw [List.getD_eq_getElem?_getD, List.getElem?_eq_getElem h']; rfl
   have gb : b[i]? = some (b.getD i 0) := by rw [List.getD_eq_getElem?_getD, List.getElem?_eq_getElem (by omega : i < b.length)]; rfl
   by_cases e : a.getD i 0 = b.getD i 0
   ·rw [if_pos e]
    have := ih (i + 1) (by omega) (fun j hjlt => ?_) (by omega)
    ·simpa using this
    ·by_cases e' : j = i
     ·rw [e', ga, gb, e]
     ·exact hj j (by omega)
   ·rw [if_neg e, decide_eq_false]
    intro e'
    exact e (by rw [e'])
  ·rw [if_neg (by omega), decide_eq_true (fin i hj (by omega))]
theorem sEq (a b : List Int) (ha : a.length ≤ 1048576) : Ev (fun k => slices_Equal_int64_int64.f k a b) (decide (a = b)) := by
 refine Ev.of (slices_Equal_int64_int64.mono a b) (k := a.length + 1) ?_
 unfold slices_Equal_int64_int64.f
 by_cases h : a.length = b.length
 ·rw [if_pos (by omega)]
  exact sEq_l a b h ha a.length 0 (by omega) (fun j hj => absurd hj (by omega)) (by omega)
 ·rw [if_neg (by omega), decide_eq_false]
  intro e
  exact h (by rw [e])
theorem same_l (n : Int) (a b : List Int) (h : a.length = b.length) (ha : a.length ≤ 1048576) : ∀ (d i : Nat), i ≤ a.length → (∀ j, j < i → a[j]? = b[j]?) → a.length - i ≤ d → spec_l01Same.l0 (d + 1) (i : Int) n a n b = some (decide (a = b)) := by
 have fin : ∀ i : Nat, (∀ j, j < i → a[j]? = b[j]?) → a.length ≤ i → a = b := by
  intro i hj hi
  apply List.ext_getElem? fun j => ?_
  by_cases h' : j < a.length
  ·exact hj j (by omega)
  ·rw [List.getElem?_eq_none (by omega), List.getElem?_eq_none (by omega)]
 intro d
 induction d with
 | zero =>
  intro i hi hj hn
  rw [spec_l01Same.l0, if_neg (by omega), decide_eq_true (fin i hj (by omega))]
 | succ d ih =>
  intro i hi hj hn
  rw [spec_l01Same.l0]
  by_cases h' : i < a.length
  ·rw [if_pos (by omega), if_pos (by omega), if_pos (by omega), rd_get, rd_get, wid (by omega) (by omega)]
   have ga : a[i]? = some (a.getD i 0) := by rw [List.getD_eq_getElem?_getD, List.getElem?_eq_getElem h']; rfl
   have gb : b[i]? = some (b.getD i 0) := by rw [List.getD_eq_getElem?_getD, List.getElem?_eq_getElem (by omega : i < b.length)]; rfl
   by_cases e : a.getD i 0 = b.getD i 0
   ·rw [if_pos e]
    have := ih (i + 1) (by omega) (fun j hjlt => ?_) (by omega)
    ·simpa using this
    ·by_cases e' : j = i
     ·rw [e', ga, gb, e]
     ·exact hj j (by omega)
   ·rw [if_neg e, decide_eq_false]
    intro e'
    exact e (by rw [e'])
  ·rw [if_neg (by omega), decide_eq_true (fin i hj (by omega))]
theorem same_ev (n : Int) (a b : List Int) (ha : a.length ≤ 1048576) : Ev (fun k => spec_l01Same.f k n a n b) (decide (a = b)) := by
 simp only [spec_l01Same.f, if_true]
 refine Ev.step (fun k => rfl) ?_
 simp only [spec_l01Same.j0]
 by_cases h : a.length = b.length
 ·refine Ev.if_neg (by simp [h]) ?_
  refine Ev.of (g := fun k => spec_l01Same.l0 k 0 n a n b) (fun k => (spec_l01Same.mono_l k).2 _ _ _ _ _) (k := a.length + 1) ?_
  exact same_l n a b h ha a.length 0 (by omega) (fun j hj => absurd hj (by omega)) (by omega)
 ·refine Ev.if_pos (by rw [bne_iff_ne]; omega) (Ev.val (Ev.now _) ?_)
  rw [decide_eq_false]
  intro e
  exact h (by rw [e])
theorem law_tail0 (n : Int) (l : List Int) (h : l.length ≤ 1048576) : Ev (fun k => laws_FnExactDegreeOf.j0 k false n l n l) true := by
 refine Ev.step (fun k => rfl) ?_
 simp only [laws_FnExactDegreeOf.j0, Bool.false_eq_true, if_false]
 refine Ev.bind (toC n l h) ?_
 refine Ev.bind (eqC n l h n l) ?_
 exact Ev.const (fun _ => by simp)
theorem cf_ev (y : List Int) (hy : y.length ≤ 1048576) : ∀ out : List (List Int), Ev (fun k => slices_ContainsFunc_int64_int64_86.f k out y) (decide (y ∈ out)) := by
 intro out
 induction out with
 | nil => exact Ev.val (Ev.const fun _ => rfl) (by simp)
 | cons z zs ih =>
  simp only [slices_ContainsFunc_int64_int64_86.f]
  refine Ev.bind (sEq y z hy) ?_
  by_cases e : y = z
  ·rw [decide_eq_true e]
   exact Ev.if_pos rfl (Ev.val (Ev.now _) (by simp [e]))
  ·rw [decide_eq_false e]
   exact Ev.if_neg (by simp) (Ev.val ih (by simp [e]))
def imgs (q : Nat) (x : List Int) (us : List Nat) : List (List Int) := us.map fun (a : Nat) => imgL q (a : Int) x
theorem imgs_len (q : Nat) (x : List Int) (us : List Nat) : (imgs q x us).length = us.length := by simp [imgs]
theorem imgs_at (q : Nat) (x : List Int) (us : List Nat) (i : Nat) (h : i < us.length) : rd_L1 (imgs q x us) (i : Int) = imgL q (us[i] : Int) x := by
 unfold rd_L1 imgs
 rw [Int.toNat_natCast, List.getD_eq_getElem?_getD]
 simp [h]
theorem imgs_take (q : Nat) (x : List Int) (us : List Nat) (i : Nat) (h : i < us.length) : (imgs q x us).take (i + 1) = (imgs q x us).take i ++ [imgL q (us[i] : Int) x] := by
 unfold imgs
 rw [List.take_add_one]
 simp [h]
theorem inner (q : Nat) (hq : 1 ≤ q ∧ q ≤ 16) (x : List Int) (us : List Nat) (hu : us.length ≤ 1000) (i : Nat) (hi : i < us.length) (c : Int) (r : Int × Int)
  (hr : Ev (fun k => if decide (imgL q (us[i] : Int) x ∈ (imgs q x us).take i) = true then spec_DegreeOf.l0 k (us.map (im28 q x)) c ((i + 1 : Nat) : Int) else spec_DegreeOf.l0 k (us.map (im28 q x)) (wrap64 (c + 1)) ((i + 1 : Nat) : Int)) r) :
  ∀ (d j : Nat), j + d = i → Ev (fun k => spec_DegreeOf.l1 k (us.map (im28 q x)) c (i : Int) (decide (imgL q (us[i] : Int) x ∈ (imgs q x us).take j)) (j : Int)) r := by
 have hp := phN_le q hq
 have ei : wrap64 ((i : Int) + 1) = ((i + 1 : Nat) : Int) := by rw [wid (by omega) (by omega)]; omega
 intro d
 induction d with
 | zero =>
  intro j h
  obtain rfl : j = i := by omega
  refine Ev.step (fun k => rfl) ?_
  simp only [spec_DegreeOf.l1, ei]
  exact Ev.if_neg (by omega) hr
 | succ d ih =>
  intro j h
  have g : j < us.length := by omega
  have ew : wrap64 ((j : Int) + 1) = ((j + 1 : Nat) : Int) := by rw [wid (by omega) (by omega)]; omega
  have hn := ih (j + 1) (by omega)
  rw [imgs_take q x us j g] at hn
  refine Ev.step (fun k => rfl) ?_
  by_cases z : imgL q (us[i] : Int) x ∈ (imgs q x us).take j
  ·have e : decide (imgL q (us[i] : Int) x ∈ (imgs q x us).take j ++ [imgL q (us[j] : Int) x]) = true := decide_eq_true (List.mem_append.mpr (.inl z))
   rw [e] at hn
   rw [decide_eq_true z]
   simp only [spec_DegreeOf.l1, ew]
   exact Ev.if_pos (by omega) (Ev.if_pos (by first | trivial | rfl) hn)
  ·have hs := same_ev (q : Int) (imgL q (us[j] : Int) x) (imgL q (us[i] : Int) x) (by rw [imgL_len]; omega)
   have e : decide (imgL q (us[i] : Int) x ∈ (imgs q x us).take j ++ [imgL q (us[j] : Int) x]) = decide (imgL q (us[j] : Int) x = imgL q (us[i] : Int) x) := by
    rw [decide_eq_decide, List.mem_append, List.mem_singleton]
    exact ⟨fun w => w.elim (fun w => absurd w z) (fun w => w.symm), fun w => .inr w.symm⟩
   rw [e] at hn
   rw [decide_eq_false z]
   simp only [spec_DegreeOf.l1, ew, rd28 q x us j g, rd28 q x us i hi, im28, List.length_map]
   exact Ev.if_pos (by omega) (Ev.if_neg (by simp) (Ev.if_pos (by omega) (Ev.if_pos (by omega) (Ev.if_pos (by omega) (Ev.if_pos (by omega) (Ev.bind hs hn))))))
theorem both_l (q : Nat) (hq : 1 ≤ q ∧ q ≤ 16) (x : List Int) (us : List Nat) (hu : us.length ≤ 1000) : ∀ (d i : Nat) (out : List (List Int)), i + d = us.length → out.length ≤ i → (∀ y, y ∈ out ↔ y ∈ (imgs q x us).take i) →
  ∃ o : List (List Int), Ev (fun k => spec_DegreeOf.l0 k (us.map (im28 q x)) (out.length : Int) (i : Int)) ((o.length : Int), 0) ∧ Ev (fun k => impl_different.l0 k out (imgs q x us) (us.length : Int) (i : Int)) o := by
 have hp := phN_le q hq
 intro d
 induction d with
 | zero =>
  intro i out h h2 hm
  refine ⟨out, Ev.step (fun k => rfl) ?_, Ev.step (fun k => rfl) ?_⟩
  ·simp only [spec_DegreeOf.l0, List.length_map]; exact Ev.if_neg (by omega) (Ev.now _)
  ·simp only [impl_different.l0]; exact Ev.if_neg (by omega) (Ev.now _)
 | succ d ih =>
  intro i out h h2 hm
  have g : i < us.length := by omega
  have ew : wrap64 ((i : Int) + 1) = ((i + 1 : Nat) : Int) := by rw [wid (by omega) (by omega)]; omega
  have ec : wrap64 ((out.length : Int) + 1) = ((out.length + 1 : Nat) : Int) := by rw [wid (by omega) (by omega)]; omega
  have hc := cf_ev (imgL q (us[i] : Int) x) (by rw [imgL_len]; omega) out
  have e0 : decide (imgL q (us[i] : Int) x ∈ (imgs q x us).take 0) = false := by simp
  by_cases z : imgL q (us[i] : Int) x ∈ (imgs q x us).take i
  ·have zo := (hm _).mpr z
   obtain ⟨o, s, t⟩ := ih (i + 1) out (by omega) (by omega) (fun y => by
    rw [imgs_take q x us i g, List.mem_append, List.mem_singleton, hm y]
    exact ⟨fun w => .inl w, fun w => w.elim id (fun w => w ▸ z)⟩)
   have hr := inner q hq x us hu i g (out.length : Int) ((o.length : Int), 0) (by rw [decide_eq_true z]; exact Ev.if_pos rfl s) i 0 (by omega)
   rw [e0] at hr
   refine ⟨o, Ev.step (fun k => rfl) ?_, Ev.step (fun k => rfl) ?_⟩
   ·simp only [spec_DegreeOf.l0, List.length_map]
    exact Ev.if_pos (by omega) hr
   ·simp only [impl_different.l0, ew, imgs_len, imgs_at q x us i g]
    rw [decide_eq_true zo] at hc
    exact Ev.if_pos (by omega) (Ev.if_pos (by omega) (Ev.if_pos (by omega) (Ev.bind hc (Ev.if_pos rfl t))))
  ·have zo : ¬ imgL q (us[i] : Int) x ∈ out := fun w => z ((hm _).mp w)
   obtain ⟨o, s, t⟩ := ih (i + 1) (out ++ [imgL q (us[i] : Int) x]) (by omega) (by simp; omega) (fun y => by
    rw [imgs_take q x us i g, List.mem_append, List.mem_append, hm y])
   rw [List.length_append, List.length_singleton] at s
   have hr := inner q hq x us hu i g (out.length : Int) ((o.length : Int), 0) (by rw [decide_eq_false z, ec]; exact Ev.if_neg (by simp) s) i 0 (by omega)
   rw [e0] at hr
   refine ⟨o, Ev.step (fun k => rfl) ?_, Ev.step (fun k => rfl) ?_⟩
   ·simp only [spec_DegreeOf.l0, List.length_map]
    exact Ev.if_pos (by omega) hr
   ·simp only [impl_different.l0, ew, imgs_len, imgs_at q x us i g]
    rw [decide_eq_false zo] at hc
    exact Ev.if_pos (by omega) (Ev.if_pos (by omega) (Ev.if_pos (by omega) (Ev.bind hc (Ev.if_neg (by simp) (Ev.if_pos (by omega) t)))))
theorem FnExactDegreeOf : laws_FnExactDegreeOf.Pure := by
 intro n x hn hm hv
 refine Ev.rounds (g := fun k => laws_FnExactDegreeOf.f k n x) ?_
 by_cases hx : x.length ≤ 1048576
 ·have h1 := is_spec n x hx
  have h2 := is_impl n x
  simp only [laws_FnExactDegreeOf.f, sz_eq n x (by unfold maxLen; omega) 1048576 (by omega) (by omega), if_neg (show ¬ (1048576 : Int) < (x.length : Int) by omega), Option.bind_some]
  suffices h : ∃ r : Int × Int, Ev (fun k => spec_DegreeOf.f k n x) r ∧ Ev (fun k => impl_DegreeOf.f k n x) r by
   obtain ⟨r, s, t⟩ := h
   refine Ev.if_neg (by omega) (Ev.bind (toC n x hx) (Ev.bind s (Ev.bind (toC n x hx) (Ev.bind t ?_))))
   refine Ev.if_pos rfl ?_
   simp only [bne_self_eq_false]
   exact law_tail0 n x hx
  cases hc : isCyc n x with
  | false =>
   rw [hc] at h1 h2
   refine ⟨(0, 1), ?_, ?_⟩
   ·simp only [spec_DegreeOf.f]; exact Ev.bind h1 (Ev.const fun _ => rfl)
   ·simp only [impl_DegreeOf.f]; exact Ev.bind h2 (Ev.const fun _ => rfl)
  | true =>
   rw [hc] at h1 h2
   simp only [isCyc, Bool.and_eq_true, decide_eq_true_eq] at hc
   obtain ⟨⟨n1, n2⟩, hlen, _⟩ := hc
   obtain ⟨q, rfl⟩ := Int.eq_ofNat_of_zero_le (show 0 ≤ n by omega)
   have hq : 1 ≤ q ∧ q ≤ 16 := by omega
   have hp := phN_le q hq
   have T := tab_ev q hq
   have hul := units_len q
   have hx2 : x.length ≤ 1000 := by omega
   obtain ⟨o, s, t⟩ := both_l q hq x (units q) (by omega) (units q).length 0 [] (by omega) (by simp) (fun y => by simp)
   have hf := fimg_ev q hq x hx2
   refine ⟨((o.length : Int), 0), ?_, ?_⟩
   ·simp only [spec_DegreeOf.f]
    exact Ev.bind h1 (Ev.if_pos rfl (Ev.bind (simg_ev q hq x hx2) s))
   ·simp only [impl_DegreeOf.f, impl_different.f]
    refine Ev.bind h2 (Ev.if_pos rfl (Ev.bind T.field (Ev.bind hf (Ev.bind ?_ (Ev.now _)))))
    rw [List.length_map]
    exact t
 ·simp only [laws_FnExactDegreeOf.f, sz_eq n x hm 1048576 (by omega) (by omega), if_pos (show (1048576 : Int) < (x.length : Int) by omega), Option.bind_some]
  exact Ev.const fun _ => rfl

end Go.Proofs.Ytilofmfmfagofaa.Pure
