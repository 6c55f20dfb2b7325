-- Written by px.py, a program of this session's, for this claim.
import Derived.Test.YtakjogepokmbfaaXFnExactAddCyclosx0
import Derived.Test.YtakjogepokmbfaaXFnExactAddCyclosx1
import Derived.Test.YtakjogepokmbfaaXFnExactAddCyclosx4
import Derived.Test.YtakjogepokmbfaaXFnExactAddCyclosx6
namespace Go.Proofs.Ytakjogepokmbfaa.XFnExactAddCyclos
open Go.RowKit Go.Proofs.YtakjogepokmbfaaW.PrintWords Go.Proofs.YtakjogepokmbfaaW.PrintLast Go.Proofs.YtakjogepokmbfaaW.PrintMore
set_option maxHeartbeats 8000000
set_option maxRecDepth 100000
open Aside0 renaming mk → Am
open Kd (R_alloc R_base R_below R_drew R_drewN R_elder' R_far R_keptB R_lower R_lt R_mono R_ne R_new' R_reads' R_reok R_slice R_tight R_types)
open Go.Proofs.YtakjogepokmbfaaW.PrintWords renaming below_alloc → bA, pw_below_drewN → bN, below_drew1 → b1, below_set → bS
open List (setIfInBounds_toArray set_cons_zero set_cons_succ map_toArray map_cons map_nil)
attribute [local go_sem] max2_int min2_int max_two min_two max_three min_three max_four min_four   -- for this text's walks alone
set_option linter.unusedVariables false
set_option linter.unusedSimpArgs false

theorem bb {W W' : World} {g : Nat} {o : Obj} (hb : Below W.heap.size W W') (h : W.heap[g]? = some o) : W'.heap[g]? = some o := blk_below h hb
/-! ### laws_FnExactAddCyclos: function 12 -/
mutual
def laws_FnExactAddCyclos.j0 : Nat → Int → Int → Int → Bool → Int → List Int → Int → List Int → Int → List Int → Int → List Int → Int → List Int → Int → List Int → Option (Bool)
 | 0, _, _, _, _, _, _, _, _, _, _, _, _, _, _, _, _ => none
 | k + 1, x2, x9, x13, x57, x203000, x203001, x204000, x204001, x220000, x220001, x225000, x225001, x230000, x230001, x236000, x236001 => if x57 = true then (none) else ((laws_toCyclo.f k x203000 x203001).bind fun bt237 => ((laws_eqCyclo.f k x225000 x225001 bt237.1 bt237.2).bind fun t241 => (if t241 = true then ((laws_toCyclo.f k x204000 x204001).bind fun bt242 => ((laws_eqCyclo.f k x230000 x230001 bt242.1 bt242.2).bind fun t246 => (if t246 = true then ((laws_markCyclo.f k x225000 x225001 1).bind fun bt247 => ((laws_markCyclo.f k x230000 x230001 bt247.1).bind fun bt249 => (if bt249.1 < 0 then (laws_FnExactAddCyclos.j1 k x2 x9 true x203000 x203001 x204000 x204001 x220000 x220001 x236000 x236001) else ((laws_eqCyclo.f k x236000 x236001 x220000 x220001).bind fun t251 => (if t251 = true then (laws_FnExactAddCyclos.j1 k x2 x9 (x13 != x9) x203000 x203001 x204000 x204001 x220000 x220001 x236000 x236001) else (laws_FnExactAddCyclos.j1 k x2 x9 true x203000 x203001 x204000 x204001 x220000 x220001 x236000 x236001)))))) else (none)))) else (none))))
def laws_FnExactAddCyclos.j1 : Nat → Int → Int → Bool → Int → List Int → Int → List Int → Int → List Int → Int → List Int → Option (Bool)
 | 0, _, _, _, _, _, _, _, _, _, _, _ => none
 | k + 1, x2, x9, x86, x203000, x203001, x204000, x204001, x220000, x220001, x236000, x236001 => if x86 = true then (none) else ((laws_markCyclo.f k x236000 x236001 1).bind fun bt252 => ((laws_heldCyclo.f k x236000 bt252.2 1).bind fun t254 => (if t254 < 0 then (none) else (if t254 = bt252.1 then ((laws_toCyclo.f k x203000 x203001).bind fun bt255 => ((laws_toCyclo.f k x204000 x204001).bind fun bt259 => ((impl_AddCyclos.f k bt255.1 bt255.2 bt259.1 bt259.2 x2).bind fun bt263 => ((laws_eqCyclo.f k bt263.1 bt263.2.1 x220000 x220001).bind fun t269 => (if t269 = true then (laws_FnExactAddCyclos.j2 k bt252.1 (bt263.2.2 != x9) x236000 bt252.2) else (laws_FnExactAddCyclos.j2 k bt252.1 true x236000 bt252.2)))))) else (none)))))
def laws_FnExactAddCyclos.j2 : Nat → Int → Bool → Int → List Int → Option (Bool)
 | 0, _, _, _, _ => none
 | k + 1, x15, x115, x236000, x236001 => if x115 = true then (none) else ((laws_heldCyclo.f k x236000 x236001 1).bind fun t270 => (if t270 < 0 then (none) else (if t270 = x15 then (some true) else (none))))
end
def laws_FnExactAddCyclos.f (k : Nat) (a0_0 : Int) (l0_1 : List Int) (a1_0 : Int) (l1_1 : List Int) (a2 : Int) : Option (Bool) := (laws_szCyclo.f a0_0 l0_1 1048576).bind fun t204 => (if t204 < 0 then (some true) else ((laws_szCyclo.f a1_0 l1_1 t204).bind fun t205 => (if t205 < 0 then (some true) else ((laws_toCyclo.f k a0_0 l0_1).bind fun bt206 => ((laws_toCyclo.f k a1_0 l1_1).bind fun bt210 => ((spec_AddCyclos.f k bt206.1 bt206.2 bt210.1 bt210.2 a2).bind fun bt214 => ((laws_toCyclo.f k a0_0 l0_1).bind fun bt220 => ((laws_toCyclo.f k a1_0 l1_1).bind fun bt225 => ((impl_AddCyclos.f k bt220.1 bt220.2 bt225.1 bt225.2 a2).bind fun bt230 => ((laws_eqCyclo.f k bt230.1 bt230.2.1 bt214.1 bt214.2.1).bind fun t236 => (if t236 = true then (laws_FnExactAddCyclos.j0 k a2 bt214.2.2 bt230.2.2 (bt230.2.2 != bt214.2.2) a0_0 l0_1 a1_0 l1_1 bt214.1 bt214.2.1 bt220.1 bt220.2 bt225.1 bt225.2 bt230.1 bt230.2.1) else (laws_FnExactAddCyclos.j0 k a2 bt214.2.2 bt230.2.2 true a0_0 l0_1 a1_0 l1_1 bt214.1 bt214.2.1 bt220.1 bt220.2 bt225.1 bt225.2 bt230.1 bt230.2.1))))))))))))
theorem laws_FnExactAddCyclos.mono_l : ∀ k, (∀ y0 y1 y2 y3 y4 y5 y6 y7 y8 y9 y10 y11 y12 y13 y14 y15, LeO (laws_FnExactAddCyclos.j0 k y0 y1 y2 y3 y4 y5 y6 y7 y8 y9 y10 y11 y12 y13 y14 y15) (laws_FnExactAddCyclos.j0 (k + 1) y0 y1 y2 y3 y4 y5 y6 y7 y8 y9 y10 y11 y12 y13 y14 y15)) ∧ (∀ y0 y1 y2 y3 y4 y5 y6 y7 y8 y9 y10, LeO (laws_FnExactAddCyclos.j1 k y0 y1 y2 y3 y4 y5 y6 y7 y8 y9 y10) (laws_FnExactAddCyclos.j1 (k + 1) y0 y1 y2 y3 y4 y5 y6 y7 y8 y9 y10)) ∧ (∀ y0 y1 y2 y3, LeO (laws_FnExactAddCyclos.j2 k y0 y1 y2 y3) (laws_FnExactAddCyclos.j2 (k + 1) y0 y1 y2 y3))
 | 0 => ⟨fun _ _ _ _ _ _ _ _ _ _ _ _ _ _ _ _ r h => by simp [laws_FnExactAddCyclos.j0] at h, fun _ _ _ _ _ _ _ _ _ _ _ r h => by simp [laws_FnExactAddCyclos.j1] at h, fun _ _ _ _ r h => by simp [laws_FnExactAddCyclos.j2] at h⟩
 | k + 1 => by
  obtain ⟨ih0, ih1, ih2⟩ := laws_FnExactAddCyclos.mono_l k
  refine ⟨?_, ?_, ?_⟩
  ·intro y0 y1 y2 y3 y4 y5 y6 y7 y8 y9 y10 y11 y12 y13 y14 y15
   unfold laws_FnExactAddCyclos.j0
   repeat' first
   | (with_reducible exact ih0 _ _ _ _ _ _ _ _ _ _ _ _ _ _ _ _)
   | (with_reducible exact ih1 _ _ _ _ _ _ _ _ _ _ _)
   | (with_reducible exact ih2 _ _ _ _)
   | (with_reducible exact impl_AddCyclos.mono _ _ _ _ _ _)
   | (with_reducible exact laws_eqCyclo.mono _ _ _ _ _)
   | (with_reducible exact laws_heldCyclo.mono _ _ _ _)
   | (with_reducible exact laws_markCyclo.mono _ _ _ _)
   | (with_reducible exact laws_toCyclo.mono _ _ _)
   | (with_reducible exact spec_AddCyclos.mono _ _ _ _ _ _)
   | (with_reducible exact LeO.refl _)
   | (with_reducible exact LeO.none _)
   | (with_reducible refine LeO.ite ?_ ?_)
   | (with_reducible refine LeO.bind ?_ (fun _ => ?_))
   | exact LeO.none _
   | refine LeO.ite ?_ ?_
   | refine LeO.bind ?_ (fun _ => ?_)
  ·intro y0 y1 y2 y3 y4 y5 y6 y7 y8 y9 y10
   unfold laws_FnExactAddCyclos.j1
   repeat' first
   | (with_reducible exact ih0 _ _ _ _ _ _ _ _ _ _ _ _ _ _ _ _)
   | (with_reducible exact ih1 _ _ _ _ _ _ _ _ _ _ _)
   | (with_reducible exact ih2 _ _ _ _)
   | (with_reducible exact impl_AddCyclos.mono _ _ _ _ _ _)
   | (with_reducible exact laws_eqCyclo.mono _ _ _ _ _)
   | (with_reducible exact laws_heldCyclo.mono _ _ _ _)
   | (with_reducible exact laws_markCyclo.mono _ _ _ _)
   | (with_reducible exact laws_toCyclo.mono _ _ _)
   | (with_reducible exact spec_AddCyclos.mono _ _ _ _ _ _)
   | (with_reducible exact LeO.refl _)
   | (with_reducible exact LeO.none _)
   | (with_reducible refine LeO.ite ?_ ?_)
   | (with_reducible refine LeO.bind ?_ (fun _ => ?_))
   | exact LeO.none _
   | refine LeO.ite ?_ ?_
   | refine LeO.bind ?_ (fun _ => ?_)
  ·intro y0 y1 y2 y3
   unfold laws_FnExactAddCyclos.j2
   repeat' first
   | (with_reducible exact ih0 _ _ _ _ _ _ _ _ _ _ _ _ _ _ _ _)
   | (with_reducible exact ih1 _ _ _ _ _ _ _ _ _ _ _)
   | (with_reducible exact ih2 _ _ _ _)
   | (with_reducible exact impl_AddCyclos.mono _ _ _ _ _ _)
   | (with_reducible exact laws_eqCyclo.mono _ _ _ _ _)
   | (with_reducible exact laws_heldCyclo.mono _ _ _ _)
   | (with_reducible exact laws_markCyclo.mono _ _ _ _)
   | (with_reducible exact laws_toCyclo.mono _ _ _)
   | (with_reducible exact spec_AddCyclos.mono _ _ _ _ _ _)
   | (with_reducible exact LeO.refl _)
   | (with_reducible exact LeO.none _)
   | (with_reducible refine LeO.ite ?_ ?_)
   | (with_reducible refine LeO.bind ?_ (fun _ => ?_))
   | exact LeO.none _
   | refine LeO.ite ?_ ?_
   | refine LeO.bind ?_ (fun _ => ?_)
theorem laws_FnExactAddCyclos.mono : ∀ a0 a1 a2 a3 a4 k, LeO (laws_FnExactAddCyclos.f k a0 a1 a2 a3 a4) (laws_FnExactAddCyclos.f (k + 1) a0 a1 a2 a3 a4) := by
 intro a0 a1 a2 a3 a4 k
 obtain ⟨ih0, ih1, ih2⟩ := laws_FnExactAddCyclos.mono_l k
 unfold laws_FnExactAddCyclos.f
 repeat' first
   | (with_reducible exact ih0 _ _ _ _ _ _ _ _ _ _ _ _ _ _ _ _)
   | (with_reducible exact ih1 _ _ _ _ _ _ _ _ _ _ _)
   | (with_reducible exact ih2 _ _ _ _)
   | (with_reducible exact impl_AddCyclos.mono _ _ _ _ _ _)
   | (with_reducible exact laws_eqCyclo.mono _ _ _ _ _)
   | (with_reducible exact laws_heldCyclo.mono _ _ _ _)
   | (with_reducible exact laws_markCyclo.mono _ _ _ _)
   | (with_reducible exact laws_toCyclo.mono _ _ _)
   | (with_reducible exact spec_AddCyclos.mono _ _ _ _ _ _)
   | (with_reducible exact LeO.refl _)
   | (with_reducible exact LeO.none _)
   | (with_reducible refine LeO.ite ?_ ?_)
   | (with_reducible refine LeO.bind ?_ (fun _ => ?_))
   | exact LeO.none _
   | refine LeO.ite ?_ ?_
   | refine LeO.bind ?_ (fun _ => ?_)
def laws_FnExactAddCyclos.T8 : Bool × List (List Nat × List Nat) := (true, [([], []), ([0], [0]), ([], []), ([2, 1], [2]), ([], []), ([1, 3, 4, 3], [1, 3, 4]), ([5], [5]), ([6], [6]), ([6], [6]), ([], []), ([9, 7, 5, 0, 1, 2, 3, 4, 5, 6, 7, 9], [7, 9]), ([8, 10, 0, 1, 2, 3, 4, 5, 6, 7, 8, 9, 10], [8])])
def laws_FnExactAddCyclos.B8 : List Nat := [0, 1, 0, 7, 0, 31, 63, 127, 127, 0, 767, 2047]
theorem laws_FnExactAddCyclos.tab8 : rtab .any (opsOf Try.f12 8) = laws_FnExactAddCyclos.T8 := by kernel_rfl
theorem laws_FnExactAddCyclos.bits8 : waitsOk laws_FnExactAddCyclos.T8.2 laws_FnExactAddCyclos.B8 = true := by kernel_rfl
def laws_FnExactAddCyclos.T31 : Bool × List (List Nat × List Nat) := (true, [([], []), ([0], [0]), ([], []), ([2, 1], [2]), ([], []), ([1, 3, 4, 3], [1, 3, 4]), ([5], [5]), ([6], [6]), ([6], [6]), ([], []), ([9, 7, 5, 0, 1, 2, 3, 4, 5, 6, 7, 9], [7, 9]), ([8, 10, 0, 1, 2, 3, 4, 5, 6, 7, 8, 9, 10], [8])])
def laws_FnExactAddCyclos.B31 : List Nat := [0, 1, 0, 7, 0, 31, 63, 127, 127, 0, 767, 2047]
theorem laws_FnExactAddCyclos.tab31 : rtab .any (opsOf Try.f12 31) = laws_FnExactAddCyclos.T31 := by kernel_rfl
theorem laws_FnExactAddCyclos.bits31 : waitsOk laws_FnExactAddCyclos.T31.2 laws_FnExactAddCyclos.B31 = true := by kernel_rfl
theorem laws_FnExactAddCyclos.calls (k : Nat) (a0_0 : Int) (A0_1 : Option Addr) (c0_1 : Nat) (l0_1 : List Int) (a1_0 : Int) (A1_1 : Option Addr) (c1_1 : Nat) (l1_1 : List Int) (a2 : Int) (r : Bool) (w : World) (hr0_1 : Kd.C (Kd.int .i64) w A0_1 l0_1.length l0_1) (hc0_1 : l0_1.length ≤ c0_1) (hr1_1 : Kd.C (Kd.int .i64) w A1_1 l1_1.length l1_1) (hc1_1 : l1_1.length ≤ c1_1) (h : f k a0_0 l0_1 a1_0 l1_1 a2 = some r) :
  Calls Try.prog 12 #[.agg #[.int .i64 a0_0, .slice A0_1 l0_1.length c0_1], .agg #[.int .i64 a1_0, .slice A1_1 l1_1.length c1_1], .int .i64 a2] w fun e w' => e = .returned (.bool r) ∧ Below w.heap.size w w' := by
 have hu32 := Try.underlying32
 have hu35 := Try.underlying35
 have HR0_1 := Am hr0_1
 have HC0_1 := Am hc0_1
 clear hr0_1 hc0_1
 have HR1_1 := Am hr1_1
 have HC1_1 := Am hc1_1
 clear hr1_1 hc1_1
 have HB := Am (Below.refl w.heap.size w)
 have H : ((laws_szCyclo.f a0_0 l0_1 1048576).bind fun t204 => (if t204 < 0 then (some true) else ((laws_szCyclo.f a1_0 l1_1 t204).bind fun t205 => (if t205 < 0 then (some true) else ((laws_toCyclo.f k a0_0 l0_1).bind fun bt206 => ((laws_toCyclo.f k a1_0 l1_1).bind fun bt210 => ((spec_AddCyclos.f k bt206.1 bt206.2 bt210.1 bt210.2 a2).bind fun bt214 => ((laws_toCyclo.f k a0_0 l0_1).bind fun bt220 => ((laws_toCyclo.f k a1_0 l1_1).bind fun bt225 => ((impl_AddCyclos.f k bt220.1 bt220.2 bt225.1 bt225.2 a2).bind fun bt230 => ((laws_eqCyclo.f k bt230.1 bt230.2.1 bt214.1 bt214.2.1).bind fun t236 => (if t236 = true then (j0 k a2 bt214.2.2 bt230.2.2 (bt230.2.2 != bt214.2.2) a0_0 l0_1 a1_0 l1_1 bt214.1 bt214.2.1 bt220.1 bt220.2 bt225.1 bt225.2 bt230.1 bt230.2.1) else (j0 k a2 bt214.2.2 bt230.2.2 true a0_0 l0_1 a1_0 l1_1 bt214.1 bt214.2.1 bt220.1 bt220.2 bt225.1 bt225.2 bt230.1 bt230.2.1))))))))))))) = some r := h
 clear h
 replace H := Option.bind_eq_some_iff.mp H
 obtain ⟨t204, A40, H⟩ := H
 replace H : (if t204 < 0 then (some true) else ((laws_szCyclo.f a1_0 l1_1 t204).bind fun t205 => (if t205 < 0 then (some true) else ((laws_toCyclo.f k a0_0 l0_1).bind fun bt206 => ((laws_toCyclo.f k a1_0 l1_1).bind fun bt210 => ((spec_AddCyclos.f k bt206.1 bt206.2 bt210.1 bt210.2 a2).bind fun bt214 => ((laws_toCyclo.f k a0_0 l0_1).bind fun bt220 => ((laws_toCyclo.f k a1_0 l1_1).bind fun bt225 => ((impl_AddCyclos.f k bt220.1 bt220.2 bt225.1 bt225.2 a2).bind fun bt230 => ((laws_eqCyclo.f k bt230.1 bt230.2.1 bt214.1 bt214.2.1).bind fun t236 => (if t236 = true then (j0 k a2 bt214.2.2 bt230.2.2 (bt230.2.2 != bt214.2.2) a0_0 l0_1 a1_0 l1_1 bt214.1 bt214.2.1 bt220.1 bt220.2 bt225.1 bt225.2 bt230.1 bt230.2.1) else (j0 k a2 bt214.2.2 bt230.2.2 true a0_0 l0_1 a1_0 l1_1 bt214.1 bt214.2.1 bt220.1 bt220.2 bt225.1 bt225.2 bt230.1 bt230.2.1)))))))))))) = some r := H
 have A4 := Am A40
 clear A40
 by_cases c5 : t204 < 0
 ·rw [if_pos c5] at H
  have c5b0 : decide (t204 < 0) = true := decide_eq_true c5
  clear c5
  obtain rfl := Option.some.inj H
  go_enter Try.func12, Try.ntmps12
  go_wp2_with (first|((with_reducible refine gate_dst (N := 3) rfl ?_); refine box_event ?hg (N := 3) ?hd (cs := #[.int .i64 a0_0, .slice A0_1 l0_1.length c0_1]) (t := 32) ?hr ?_; (case hd => rfl); (case hg => rfl); (case hr => first|(go_simp; done)|(go_simp; rfl)); intro gb202 hg w6 hbox hb; have n0_ := Am (below_step (by repeat (first|(with_reducible first|exact HB.out|apply bA|apply bN|apply b1)|exact HB.out)) hb); have n1_ := Am (hbox); have n2_ := Am ((by rw [hg]; exact (below_size (by repeat (first|(with_reducible first|exact HB.out|apply bA|apply bN|apply b1)|exact HB.out))) : w.heap.size ≤ gb202)); have n3_ := Am ((by rw [hg]; exact (below_size (by repeat (first|(with_reducible first|exact HB.out|apply bA|apply bN|apply b1)|exact HB.out))) : w.heap.size ≤ gb202)); clear HB; have HB := n0_; have BK202 := n1_; have GW202 := n2_; have GE202 := n3_; clear n0_ n1_ n2_ n3_; clear hb hbox hg)|((with_reducible refine gate_dst (N := 4) rfl ?_); refine box_event ?hg (N := 4) ?hd (cs := #[.int .i64 a1_0, .slice A1_1 l1_1.length c1_1]) (t := 32) ?hr ?_; (case hd => rfl); (case hg => rfl); (case hr => first|(go_simp; done)|(go_simp; rfl)); intro gb203 hg w7 hbox hb; have n0_ := Am (bb hb BK202.out); have n1_ := Am (below_step (by repeat (first|(with_reducible first|exact HB.out|apply bA|apply bN|apply b1)|exact HB.out)) hb); have n2_ := Am (hbox); have n3_ := Am ((by rw [hg]; exact (below_size (by repeat (first|(with_reducible first|exact HB.out|apply bA|apply bN|apply b1)|exact HB.out))) : w.heap.size ≤ gb203)); have n4_ := Am ((by rw [hg]; exact (below_size (by repeat (first|(with_reducible first|exact HB.out|apply bA|apply bN|apply b1)|exact HB.out))) : w.heap.size ≤ gb203)); have n5_ := Am ((by rw [hg]; exact Nat.ne_of_lt (blk_lt BK202.out) : gb202 ≠ gb203)); have n6_ := Am ((by rw [hg]; exact Nat.ne_of_gt (blk_lt BK202.out) : gb203 ≠ gb202)); clear BK202; clear HB; have BK202 := n0_; have HB := n1_; have BK203 := n2_; have GW203 := n3_; have GE203 := n4_; have NB202_203 := n5_; have NB203_202 := n6_; clear n0_ n1_ n2_ n3_ n4_ n5_ n6_; clear hb hbox hg; have hnb8 := NB202_203.out; have hnc8 := NB203_202.out; have hcz9_0 : w7.cell? ⟨gb202, 0, none⟩ = some (.int .i64 a0_0) := (blk_cell BK202.out 0).trans rfl; have hcz9_1 : w7.cell? ⟨gb202, 1, none⟩ = some (.slice A0_1 l0_1.length c0_1) := (blk_cell BK202.out 1).trans rfl; have hfz9_0 := blk_frozen BK202.out 0; have hfz9_1 := blk_frozen BK202.out 1)|((with_reducible refine gate_callee (f := 22) rfl ?_); refine goesL_ (some 21) rfl rfl Try.func22 (by kernel_rfl) rfl #[.agg #[.int .i64 a0_0, .slice A0_1 l0_1.length c0_1], .int .i64 1048576] rfl (by (try simp only [map_toArray, map_cons, map_nil]); first | done | rfl|(simp only [List.length_drop, List.length_take]; rfl)) ?_; (with_reducible refine (laws_szCyclo.calls a0_0 _ _ l0_1 1048576 t204 _ ?side1 ?side2 A4.out).mono ?_); (case side1 => repeat (first|exact (Kd.C_below HR0_1.out HB.out)|(with_reducible first|refine Kd.C_alloc ?_ _|refine Kd.C_drewN ?_ _|refine Kd.C_drew ?_))); (case side2 => exact HC0_1.out); rintro e w10 ⟨rfl, hb⟩; refine ⟨_, rfl, ?_⟩; have n0_ := Am (bb hb BK202.out); have n1_ := Am (bb hb BK203.out); have n2_ := Am (below_step (by repeat (first|(with_reducible first|exact HB.out|apply bA|apply bN|apply b1)|exact HB.out)) hb); clear BK202; clear BK203; clear HB; have BK202 := n0_; have BK203 := n1_; have HB := n2_; clear n0_ n1_ n2_; (try clear hb)))
  go_ret
  exact ⟨by first | rfl|(simp [errW_none, errW_some] <;> rfl)|(simp [*, errW_none, errW_some] <;> rfl), by repeat (first|(with_reducible first|exact HB.out|apply bA|apply bN|apply b1)|exact HB.out)⟩
 ·rw [if_neg c5] at H
  have c5b0 : decide (t204 < 0) = false := decide_eq_false c5
  clear c5
  replace H := Option.bind_eq_some_iff.mp H
  obtain ⟨t205, A110, H⟩ := H
  replace H : (if t205 < 0 then (some true) else ((laws_toCyclo.f k a0_0 l0_1).bind fun bt206 => ((laws_toCyclo.f k a1_0 l1_1).bind fun bt210 => ((spec_AddCyclos.f k bt206.1 bt206.2 bt210.1 bt210.2 a2).bind fun bt214 => ((laws_toCyclo.f k a0_0 l0_1).bind fun bt220 => ((laws_toCyclo.f k a1_0 l1_1).bind fun bt225 => ((impl_AddCyclos.f k bt220.1 bt220.2 bt225.1 bt225.2 a2).bind fun bt230 => ((laws_eqCyclo.f k bt230.1 bt230.2.1 bt214.1 bt214.2.1).bind fun t236 => (if t236 = true then (j0 k a2 bt214.2.2 bt230.2.2 (bt230.2.2 != bt214.2.2) a0_0 l0_1 a1_0 l1_1 bt214.1 bt214.2.1 bt220.1 bt220.2 bt225.1 bt225.2 bt230.1 bt230.2.1) else (j0 k a2 bt214.2.2 bt230.2.2 true a0_0 l0_1 a1_0 l1_1 bt214.1 bt214.2.1 bt220.1 bt220.2 bt225.1 bt225.2 bt230.1 bt230.2.1)))))))))) = some r := H
  have A11 := Am A110
  clear A110
  by_cases c12 : t205 < 0
  ·rw [if_pos c12] at H
   have c12b0 : decide (t205 < 0) = true := decide_eq_true c12
   clear c12
   obtain rfl := Option.some.inj H
   go_enter Try.func12, Try.ntmps12
   go_wp2_with (first|((with_reducible refine gate_dst (N := 3) rfl ?_); refine box_event ?hg (N := 3) ?hd (cs := #[.int .i64 a0_0, .slice A0_1 l0_1.length c0_1]) (t := 32) ?hr ?_; (case hd => rfl); (case hg => rfl); (case hr => first|(go_simp; done)|(go_simp; rfl)); intro gb202 hg w13 hbox hb; have n0_ := Am (below_step (by repeat (first|(with_reducible first|exact HB.out|apply bA|apply bN|apply b1)|exact HB.out)) hb); have n1_ := Am (hbox); have n2_ := Am ((by rw [hg]; exact (below_size (by repeat (first|(with_reducible first|exact HB.out|apply bA|apply bN|apply b1)|exact HB.out))) : w.heap.size ≤ gb202)); have n3_ := Am ((by rw [hg]; exact (below_size (by repeat (first|(with_reducible first|exact HB.out|apply bA|apply bN|apply b1)|exact HB.out))) : w.heap.size ≤ gb202)); clear HB; have HB := n0_; have BK202 := n1_; have GW202 := n2_; have GE202 := n3_; clear n0_ n1_ n2_ n3_; clear hb hbox hg)|((with_reducible refine gate_dst (N := 4) rfl ?_); refine box_event ?hg (N := 4) ?hd (cs := #[.int .i64 a1_0, .slice A1_1 l1_1.length c1_1]) (t := 32) ?hr ?_; (case hd => rfl); (case hg => rfl); (case hr => first|(go_simp; done)|(go_simp; rfl)); intro gb203 hg w14 hbox hb; have n0_ := Am (bb hb BK202.out); have n1_ := Am (below_step (by repeat (first|(with_reducible first|exact HB.out|apply bA|apply bN|apply b1)|exact HB.out)) hb); have n2_ := Am (hbox); have n3_ := Am ((by rw [hg]; exact (below_size (by repeat (first|(with_reducible first|exact HB.out|apply bA|apply bN|apply b1)|exact HB.out))) : w.heap.size ≤ gb203)); have n4_ := Am ((by rw [hg]; exact (below_size (by repeat (first|(with_reducible first|exact HB.out|apply bA|apply bN|apply b1)|exact HB.out))) : w.heap.size ≤ gb203)); have n5_ := Am ((by rw [hg]; exact Nat.ne_of_lt (blk_lt BK202.out) : gb202 ≠ gb203)); have n6_ := Am ((by rw [hg]; exact Nat.ne_of_gt (blk_lt BK202.out) : gb203 ≠ gb202)); clear BK202; clear HB; have BK202 := n0_; have HB := n1_; have BK203 := n2_; have GW203 := n3_; have GE203 := n4_; have NB202_203 := n5_; have NB203_202 := n6_; clear n0_ n1_ n2_ n3_ n4_ n5_ n6_; clear hb hbox hg; have hnb15 := NB202_203.out; have hnc15 := NB203_202.out; have hcz16_0 : w14.cell? ⟨gb202, 0, none⟩ = some (.int .i64 a0_0) := (blk_cell BK202.out 0).trans rfl; have hcz16_1 : w14.cell? ⟨gb202, 1, none⟩ = some (.slice A0_1 l0_1.length c0_1) := (blk_cell BK202.out 1).trans rfl; have hfz16_0 := blk_frozen BK202.out 0; have hfz16_1 := blk_frozen BK202.out 1)|((with_reducible refine gate_callee (f := 22) rfl ?_); refine goesL_ (some 21) rfl rfl Try.func22 (by kernel_rfl) rfl #[.agg #[.int .i64 a0_0, .slice A0_1 l0_1.length c0_1], .int .i64 1048576] rfl (by (try simp only [map_toArray, map_cons, map_nil]); first | done | rfl|(simp only [List.length_drop, List.length_take]; rfl)) ?_; (with_reducible refine (laws_szCyclo.calls a0_0 _ _ l0_1 1048576 t204 _ ?side1 ?side2 A4.out).mono ?_); (case side1 => repeat (first|exact (Kd.C_below HR0_1.out HB.out)|(with_reducible first|refine Kd.C_alloc ?_ _|refine Kd.C_drewN ?_ _|refine Kd.C_drew ?_))); (case side2 => exact HC0_1.out); rintro e w17 ⟨rfl, hb⟩; refine ⟨_, rfl, ?_⟩; have n0_ := Am (bb hb BK202.out); have n1_ := Am (bb hb BK203.out); have n2_ := Am (below_step (by repeat (first|(with_reducible first|exact HB.out|apply bA|apply bN|apply b1)|exact HB.out)) hb); clear BK202; clear BK203; clear HB; have BK202 := n0_; have BK203 := n1_; have HB := n2_; clear n0_ n1_ n2_; (try clear hb); have hcz18_0 : w17.cell? ⟨gb203, 0, none⟩ = some (.int .i64 a1_0) := (blk_cell BK203.out 0).trans rfl; have hcz18_1 : w17.cell? ⟨gb203, 1, none⟩ = some (.slice A1_1 l1_1.length c1_1) := (blk_cell BK203.out 1).trans rfl; have hfz18_0 := blk_frozen BK203.out 0; have hfz18_1 := blk_frozen BK203.out 1)|((with_reducible refine gate_callee (f := 22) rfl ?_); refine goesL_ (some 26) rfl rfl Try.func22 (by kernel_rfl) rfl #[.agg #[.int .i64 a1_0, .slice A1_1 l1_1.length c1_1], .int .i64 t204] rfl (by (try simp only [map_toArray, map_cons, map_nil]); first | done | rfl|(simp only [List.length_drop, List.length_take]; rfl)) ?_; (with_reducible refine (laws_szCyclo.calls a1_0 _ _ l1_1 t204 t205 _ ?side1 ?side2 A11.out).mono ?_); (case side1 => repeat (first|exact (Kd.C_below HR1_1.out HB.out)|(with_reducible first|refine Kd.C_alloc ?_ _|refine Kd.C_drewN ?_ _|refine Kd.C_drew ?_))); (case side2 => exact HC1_1.out); rintro e w19 ⟨rfl, hb⟩; refine ⟨_, rfl, ?_⟩; have n0_ := Am (bb hb BK202.out); have n1_ := Am (bb hb BK203.out); have n2_ := Am (below_step (by repeat (first|(with_reducible first|exact HB.out|apply bA|apply bN|apply b1)|exact HB.out)) hb); clear BK202; clear BK203; clear HB; have BK202 := n0_; have BK203 := n1_; have HB := n2_; clear n0_ n1_ n2_; (try clear hb)))
   go_ret
   exact ⟨by first | rfl|(simp [errW_none, errW_some] <;> rfl)|(simp [*, errW_none, errW_some] <;> rfl), by repeat (first|(with_reducible first|exact HB.out|apply bA|apply bN|apply b1)|exact HB.out)⟩
  ·rw [if_neg c12] at H
   have c12b0 : decide (t205 < 0) = false := decide_eq_false c12
   clear c12
   replace H := Option.bind_eq_some_iff.mp H
   obtain ⟨⟨t206, t207⟩, A200, H⟩ := H
   replace H : ((laws_toCyclo.f k a1_0 l1_1).bind fun bt210 => ((spec_AddCyclos.f k t206 t207 bt210.1 bt210.2 a2).bind fun bt214 => ((laws_toCyclo.f k a0_0 l0_1).bind fun bt220 => ((laws_toCyclo.f k a1_0 l1_1).bind fun bt225 => ((impl_AddCyclos.f k bt220.1 bt220.2 bt225.1 bt225.2 a2).bind fun bt230 => ((laws_eqCyclo.f k bt230.1 bt230.2.1 bt214.1 bt214.2.1).bind fun t236 => (if t236 = true then (j0 k a2 bt214.2.2 bt230.2.2 (bt230.2.2 != bt214.2.2) a0_0 l0_1 a1_0 l1_1 bt214.1 bt214.2.1 bt220.1 bt220.2 bt225.1 bt225.2 bt230.1 bt230.2.1) else (j0 k a2 bt214.2.2 bt230.2.2 true a0_0 l0_1 a1_0 l1_1 bt214.1 bt214.2.1 bt220.1 bt220.2 bt225.1 bt225.2 bt230.1 bt230.2.1)))))))) = some r := H
   have A20 := Am A200
   clear A200
   replace H := Option.bind_eq_some_iff.mp H
   obtain ⟨⟨t210, t211⟩, A210, H⟩ := H
   replace H : ((spec_AddCyclos.f k t206 t207 t210 t211 a2).bind fun bt214 => ((laws_toCyclo.f k a0_0 l0_1).bind fun bt220 => ((laws_toCyclo.f k a1_0 l1_1).bind fun bt225 => ((impl_AddCyclos.f k bt220.1 bt220.2 bt225.1 bt225.2 a2).bind fun bt230 => ((laws_eqCyclo.f k bt230.1 bt230.2.1 bt214.1 bt214.2.1).bind fun t236 => (if t236 = true then (j0 k a2 bt214.2.2 bt230.2.2 (bt230.2.2 != bt214.2.2) a0_0 l0_1 a1_0 l1_1 bt214.1 bt214.2.1 bt220.1 bt220.2 bt225.1 bt225.2 bt230.1 bt230.2.1) else (j0 k a2 bt214.2.2 bt230.2.2 true a0_0 l0_1 a1_0 l1_1 bt214.1 bt214.2.1 bt220.1 bt220.2 bt225.1 bt225.2 bt230.1 bt230.2.1))))))) = some r := H
   have A21 := Am A210
   clear A210
   replace H := Option.bind_eq_some_iff.mp H
   obtain ⟨⟨t214, t215, t218⟩, A220, H⟩ := H
   replace H : ((laws_toCyclo.f k a0_0 l0_1).bind fun bt220 => ((laws_toCyclo.f k a1_0 l1_1).bind fun bt225 => ((impl_AddCyclos.f k bt220.1 bt220.2 bt225.1 bt225.2 a2).bind fun bt230 => ((laws_eqCyclo.f k bt230.1 bt230.2.1 t214 t215).bind fun t236 => (if t236 = true then (j0 k a2 t218 bt230.2.2 (bt230.2.2 != t218) a0_0 l0_1 a1_0 l1_1 t214 t215 bt220.1 bt220.2 bt225.1 bt225.2 bt230.1 bt230.2.1) else (j0 k a2 t218 bt230.2.2 true a0_0 l0_1 a1_0 l1_1 t214 t215 bt220.1 bt220.2 bt225.1 bt225.2 bt230.1 bt230.2.1)))))) = some r := H
   have A22 := Am A220
   clear A220
   replace H := Option.bind_eq_some_iff.mp H
   obtain ⟨⟨t220, t221⟩, A230, H⟩ := H
   replace H : ((laws_toCyclo.f k a1_0 l1_1).bind fun bt225 => ((impl_AddCyclos.f k t220 t221 bt225.1 bt225.2 a2).bind fun bt230 => ((laws_eqCyclo.f k bt230.1 bt230.2.1 t214 t215).bind fun t236 => (if t236 = true then (j0 k a2 t218 bt230.2.2 (bt230.2.2 != t218) a0_0 l0_1 a1_0 l1_1 t214 t215 t220 t221 bt225.1 bt225.2 bt230.1 bt230.2.1) else (j0 k a2 t218 bt230.2.2 true a0_0 l0_1 a1_0 l1_1 t214 t215 t220 t221 bt225.1 bt225.2 bt230.1 bt230.2.1))))) = some r := H
   have A23 := Am A230
   clear A230
   replace H := Option.bind_eq_some_iff.mp H
   obtain ⟨⟨t225, t226⟩, A240, H⟩ := H
   replace H : ((impl_AddCyclos.f k t220 t221 t225 t226 a2).bind fun bt230 => ((laws_eqCyclo.f k bt230.1 bt230.2.1 t214 t215).bind fun t236 => (if t236 = true then (j0 k a2 t218 bt230.2.2 (bt230.2.2 != t218) a0_0 l0_1 a1_0 l1_1 t214 t215 t220 t221 t225 t226 bt230.1 bt230.2.1) else (j0 k a2 t218 bt230.2.2 true a0_0 l0_1 a1_0 l1_1 t214 t215 t220 t221 t225 t226 bt230.1 bt230.2.1)))) = some r := H
   have A24 := Am A240
   clear A240
   replace H := Option.bind_eq_some_iff.mp H
   obtain ⟨⟨t230, t231, t234⟩, A250, H⟩ := H
   replace H : ((laws_eqCyclo.f k t230 t231 t214 t215).bind fun t236 => (if t236 = true then (j0 k a2 t218 t234 (t234 != t218) a0_0 l0_1 a1_0 l1_1 t214 t215 t220 t221 t225 t226 t230 t231) else (j0 k a2 t218 t234 true a0_0 l0_1 a1_0 l1_1 t214 t215 t220 t221 t225 t226 t230 t231))) = some r := H
   have A25 := Am A250
   clear A250
   have HC26 := Am H
   clear H
   go_enter Try.func12, Try.ntmps12
   try go_wp2_with (first|((with_reducible refine gate_dst (N := 3) rfl ?_); refine box_event ?hg (N := 3) ?hd (cs := #[.int .i64 a0_0, .slice A0_1 l0_1.length c0_1]) (t := 32) ?hr ?_; (case hd => rfl); (case hg => rfl); (case hr => first|(go_simp; done)|(go_simp; rfl)); intro gb202 hg w27 hbox hb; have n0_ := Am (below_step (by repeat (first|(with_reducible first|exact HB.out|apply bA|apply bN|apply b1)|exact HB.out)) hb); have n1_ := Am (hbox); have n2_ := Am ((by rw [hg]; exact (below_size (by repeat (first|(with_reducible first|exact HB.out|apply bA|apply bN|apply b1)|exact HB.out))) : w.heap.size ≤ gb202)); have n3_ := Am ((by rw [hg]; exact (below_size (by repeat (first|(with_reducible first|exact HB.out|apply bA|apply bN|apply b1)|exact HB.out))) : w.heap.size ≤ gb202)); clear HB; have HB := n0_; have BK202 := n1_; have GW202 := n2_; have GE202 := n3_; clear n0_ n1_ n2_ n3_; clear hb hbox hg)|((with_reducible refine gate_dst (N := 4) rfl ?_); refine box_event ?hg (N := 4) ?hd (cs := #[.int .i64 a1_0, .slice A1_1 l1_1.length c1_1]) (t := 32) ?hr ?_; (case hd => rfl); (case hg => rfl); (case hr => first|(go_simp; done)|(go_simp; rfl)); intro gb203 hg w28 hbox hb; have n0_ := Am (bb hb BK202.out); have n1_ := Am (below_step (by repeat (first|(with_reducible first|exact HB.out|apply bA|apply bN|apply b1)|exact HB.out)) hb); have n2_ := Am (hbox); have n3_ := Am ((by rw [hg]; exact (below_size (by repeat (first|(with_reducible first|exact HB.out|apply bA|apply bN|apply b1)|exact HB.out))) : w.heap.size ≤ gb203)); have n4_ := Am ((by rw [hg]; exact (below_size (by repeat (first|(with_reducible first|exact HB.out|apply bA|apply bN|apply b1)|exact HB.out))) : w.heap.size ≤ gb203)); have n5_ := Am ((by rw [hg]; exact Nat.ne_of_lt (blk_lt BK202.out) : gb202 ≠ gb203)); have n6_ := Am ((by rw [hg]; exact Nat.ne_of_gt (blk_lt BK202.out) : gb203 ≠ gb202)); clear BK202; clear HB; have BK202 := n0_; have HB := n1_; have BK203 := n2_; have GW203 := n3_; have GE203 := n4_; have NB202_203 := n5_; have NB203_202 := n6_; clear n0_ n1_ n2_ n3_ n4_ n5_ n6_; clear hb hbox hg; have hnb29 := NB202_203.out; have hnc29 := NB203_202.out; have hcz30_0 : w28.cell? ⟨gb202, 0, none⟩ = some (.int .i64 a0_0) := (blk_cell BK202.out 0).trans rfl; have hcz30_1 : w28.cell? ⟨gb202, 1, none⟩ = some (.slice A0_1 l0_1.length c0_1) := (blk_cell BK202.out 1).trans rfl; have hfz30_0 := blk_frozen BK202.out 0; have hfz30_1 := blk_frozen BK202.out 1)|((with_reducible refine gate_callee (f := 22) rfl ?_); refine goesL_ (some 21) rfl rfl Try.func22 (by kernel_rfl) rfl #[.agg #[.int .i64 a0_0, .slice A0_1 l0_1.length c0_1], .int .i64 1048576] rfl (by (try simp only [map_toArray, map_cons, map_nil]); first | done | rfl|(simp only [List.length_drop, List.length_take]; rfl)) ?_; (with_reducible refine (laws_szCyclo.calls a0_0 _ _ l0_1 1048576 t204 _ ?side1 ?side2 A4.out).mono ?_); (case side1 => repeat (first|exact (Kd.C_below HR0_1.out HB.out)|(with_reducible first|refine Kd.C_alloc ?_ _|refine Kd.C_drewN ?_ _|refine Kd.C_drew ?_))); (case side2 => exact HC0_1.out); rintro e w31 ⟨rfl, hb⟩; refine ⟨_, rfl, ?_⟩; have n0_ := Am (bb hb BK202.out); have n1_ := Am (bb hb BK203.out); have n2_ := Am (below_step (by repeat (first|(with_reducible first|exact HB.out|apply bA|apply bN|apply b1)|exact HB.out)) hb); clear BK202; clear BK203; clear HB; have BK202 := n0_; have BK203 := n1_; have HB := n2_; clear n0_ n1_ n2_; (try clear hb); have hcz32_0 : w31.cell? ⟨gb203, 0, none⟩ = some (.int .i64 a1_0) := (blk_cell BK203.out 0).trans rfl; have hcz32_1 : w31.cell? ⟨gb203, 1, none⟩ = some (.slice A1_1 l1_1.length c1_1) := (blk_cell BK203.out 1).trans rfl; have hfz32_0 := blk_frozen BK203.out 0; have hfz32_1 := blk_frozen BK203.out 1)|((with_reducible refine gate_callee (f := 22) rfl ?_); refine goesL_ (some 26) rfl rfl Try.func22 (by kernel_rfl) rfl #[.agg #[.int .i64 a1_0, .slice A1_1 l1_1.length c1_1], .int .i64 t204] rfl (by (try simp only [map_toArray, map_cons, map_nil]); first | done | rfl|(simp only [List.length_drop, List.length_take]; rfl)) ?_; (with_reducible refine (laws_szCyclo.calls a1_0 _ _ l1_1 t204 t205 _ ?side1 ?side2 A11.out).mono ?_); (case side1 => repeat (first|exact (Kd.C_below HR1_1.out HB.out)|(with_reducible first|refine Kd.C_alloc ?_ _|refine Kd.C_drewN ?_ _|refine Kd.C_drew ?_))); (case side2 => exact HC1_1.out); rintro e w33 ⟨rfl, hb⟩; refine ⟨_, rfl, ?_⟩; have n0_ := Am (bb hb BK202.out); have n1_ := Am (bb hb BK203.out); have n2_ := Am (below_step (by repeat (first|(with_reducible first|exact HB.out|apply bA|apply bN|apply b1)|exact HB.out)) hb); clear BK202; clear BK203; clear HB; have BK202 := n0_; have BK203 := n1_; have HB := n2_; clear n0_ n1_ n2_; (try clear hb)))
   have n0_ := Am (blk_drew BK202.out)
   have n1_ := Am (blk_drew BK203.out)
   have n2_ := Am (below_drew1 HB.out)
   clear BK202 BK203 HB; have BK202 := n0_; have BK203 := n1_; have HB := n2_; clear n0_ n1_ n2_
   refine start_ (n := 12) (S := fun w' => w'.cell? ⟨gb202, 0, none⟩ = some (.int .i64 a0_0) ∧ w'.cell? ⟨gb202, 1, none⟩ = some (.slice A0_1 l0_1.length c0_1) ∧ w'.cell? ⟨gb203, 0, none⟩ = some (.int .i64 a1_0) ∧ w'.cell? ⟨gb203, 1, none⟩ = some (.slice A1_1 l1_1.length c1_1)) (ds := []) #[false, false, false, false, false, false, false, false, false, false, false, false] (by kernel_rfl) rfl rfl ⟨(blk_cell BK202.out 0).trans rfl, (blk_cell BK202.out 1).trans rfl, (blk_cell BK203.out 0).trans rfl, (blk_cell BK203.out 1).trans rfl⟩ (fun hHeld => ?_); refine with_tabW tab8 bits8 (fun HT_ HW_ => ?_)
   generalize w33.drew = w34 at BK202 BK203 HB hHeld ⊢
   refine pure_ (i := 4) (N := some 34) (v := ?_) (a' := ?_) #[false, false, false, false, true, false, false, false, false, false, false, false] rfl rfl (any_of HT_.out (by kernel_rfl)) (fun _ _ _ h => h) (Or.inl ⟨by rfl, ?_⟩) ?_ ?_
   rotate_left
   ·intro w'
    go_simp
    with_reducible rfl
   rotate_left
   ·simp only [Act.put, setIfInBounds_toArray, set_cons_zero, set_cons_succ, i64_w, i32_w]
    rfl
   refine take_ (i := 0) (N := some 30) (v := ?_) (a' := ?_) #[true, false, false, false, true, false, false, false, false, false, false, false] rfl rfl (take_ofW HT_.out HW_.out (by kernel_rfl)) (fun _ _ _ h => h) (Or.inl ⟨by rfl, ?_⟩) hHeld ?_ ?_
   rotate_left
   ·rintro w' ⟨s0, s1, s2, s3⟩
    go_simp
    with_reducible rfl
   rotate_left
   ·simp only [Act.put, setIfInBounds_toArray, set_cons_zero, set_cons_succ, i64_w, i32_w]
    rfl
   refine take_ (i := 2) (N := some 32) (v := ?_) (a' := ?_) #[true, false, true, false, true, false, false, false, false, false, false, false] rfl rfl (take_ofW HT_.out HW_.out (by kernel_rfl)) (fun _ _ _ h => h) (Or.inl ⟨by rfl, ?_⟩) hHeld ?_ ?_
   rotate_left
   ·rintro w' ⟨s0, s1, s2, s3⟩
    go_simp
    with_reducible rfl
   rotate_left
   ·simp only [Act.put, setIfInBounds_toArray, set_cons_zero, set_cons_succ, i64_w, i32_w]
    rfl
   refine join_ (σ := Value × Value × Value × Nat) 2 #[true, true, true, true, true, true, true, true, true, true, false, false] (fun s_ => [(31, .agg #[.int .i64 t206, s_.1]), (33, .agg #[.int .i64 t210, s_.2.1]), (35, .tuple #[.agg #[.int .i64 t214, s_.2.2.1], .int .i64 t218]), (8, .pointer (some ⟨s_.2.2.2, 0, none⟩)), (29, .tuple #[.agg #[.int .i64 t214, s_.2.2.1], .int .i64 t218]), (36, .agg #[.int .i64 t214, s_.2.2.1]), (37, .int .i64 t218)]) (fun s_ w' => (w'.cell? ⟨gb202, 0, none⟩ = some (.int .i64 a0_0) ∧ w'.cell? ⟨gb202, 1, none⟩ = some (.slice A0_1 l0_1.length c0_1) ∧ w'.cell? ⟨gb203, 0, none⟩ = some (.int .i64 a1_0) ∧ w'.cell? ⟨gb203, 1, none⟩ = some (.slice A1_1 l1_1.length c1_1)) ∧ (Kd.R (Kd.int .i64) 2 w' w.heap.size (fun k_ => some k_ ≠ (s_.2.1 : Value).ownBlock ∧ some k_ ≠ (s_.2.2.1 : Value).ownBlock) s_.1 t207) ∧ (Kd.R (Kd.int .i64) 2 w' w.heap.size (fun k_ => some k_ ≠ (s_.1 : Value).ownBlock ∧ some k_ ≠ (s_.2.2.1 : Value).ownBlock) s_.2.1 t211) ∧ (Kd.R (Kd.int .i64) 2 w' w.heap.size (fun k_ => some k_ ≠ (s_.1 : Value).ownBlock ∧ some k_ ≠ (s_.2.1 : Value).ownBlock) s_.2.2.1 t215) ∧ (w'.heap[gb202]? = some (.cells #[.int .i64 a0_0, .slice A0_1 l0_1.length c0_1] 32 (0, 0))) ∧ (w'.heap[gb203]? = some (.cells #[.int .i64 a1_0, .slice A1_1 l1_1.length c1_1] 32 (0, 0))) ∧ (w'.heap[s_.2.2.2]? = some (.cells #[.int .i64 0, .slice none 0 0] 35 (0, 0))) ∧ (w.heap.size ≤ s_.2.2.2) ∧ (w.heap.size ≤ s_.2.2.2) ∧ (gb202 ≠ s_.2.2.2) ∧ (s_.2.2.2 ≠ gb202) ∧ (gb203 ≠ s_.2.2.2) ∧ (s_.2.2.2 ≠ gb203) ∧ (Below w.heap.size w w')) ?_ ?_
   rotate_left
   ·intro hCont
    refine two_ (i := 1) (j := 9) (Ni := some 31) (Nj := some 8) #[true, true, true, false, true, false, false, false, false, false, false, false] #[true, false, true, false, true, false, false, false, false, true, false, false] rfl rfl rfl rfl (two_of HT_.out (by kernel_rfl)) (by decide) (by decide) (fun K hK => ?_) (fun K hK => ?_)
    ·skip
     refine goes_ Try.func24 (by kernel_rfl) rfl #[.agg #[.int .i64 a0_0, .slice A0_1 l0_1.length c0_1]] (by rfl) rfl rfl (by (try simp only [map_toArray, map_cons, map_nil]); first | done | rfl|(simp only [List.length_drop, List.length_take]; rfl)) ?_
     with_reducible refine (laws_toCyclo.calls k a0_0 _ _ l0_1 t206 t207 _ ?side1 ?side2 A20.out).mono ?_
     (case side1 => repeat (first|exact (Kd.C_below HR0_1.out HB.out)|(with_reducible first|refine Kd.C_alloc ?_ _|refine Kd.C_drewN ?_ _|refine Kd.C_drew ?_)))
     (case side2 => exact HC0_1.out)
     rintro e w35 ⟨v208, rfl, ho0, hb⟩
     refine ⟨_, rfl, ?_⟩
     have n0_ := Am (R_lower ho0 (below_size (by repeat (first|(with_reducible first|exact HB.out|apply bA|apply bN|apply b1)|exact HB.out))))
     have n1_ := Am (bb hb BK202.out)
     have n2_ := Am (bb hb BK203.out)
     have n3_ := Am (below_step (by repeat (first|(with_reducible first|exact HB.out|apply bA|apply bN|apply b1)|exact HB.out)) hb)
     clear BK202 BK203 HB; have HO209 := n0_; have BK202 := n1_; have BK203 := n2_; have HB := n3_; clear n0_ n1_ n2_ n3_; (try clear hb); (try clear ho0)
     refine hK.out _ _ ⟨(blk_cell BK202.out 0).trans rfl, (blk_cell BK202.out 1).trans rfl, (blk_cell BK203.out 0).trans rfl, (blk_cell BK203.out 1).trans rfl⟩ (fun hHeld => ?_)
     clear hK K
     refine norm_ (a' := ?_) ?_ ?_
     rotate_left
     ·show Act.put _ (some 31) _ = _
      simp only [Act.put, setIfInBounds_toArray, set_cons_zero, set_cons_succ, i64_w, i32_w]
      rfl
     refine two_ (i := 3) (j := 9) (Ni := some 33) (Nj := some 8) #[true, true, true, true, true, false, false, false, false, false, false, false] #[true, true, true, false, true, false, false, false, false, true, false, false] rfl rfl rfl rfl (two_of HT_.out (by kernel_rfl)) (by decide) (by decide) (fun K hK => ?_) (fun K hK => ?_)
     ·skip
      refine goes_ Try.func24 (by kernel_rfl) rfl #[.agg #[.int .i64 a1_0, .slice A1_1 l1_1.length c1_1]] (by rfl) rfl rfl (by (try simp only [map_toArray, map_cons, map_nil]); first | done | rfl|(simp only [List.length_drop, List.length_take]; rfl)) ?_
      with_reducible refine (laws_toCyclo.calls k a1_0 _ _ l1_1 t210 t211 _ ?side1 ?side2 A21.out).mono ?_
      (case side1 => repeat (first|exact (Kd.C_below HR1_1.out HB.out)|(with_reducible first|refine Kd.C_alloc ?_ _|refine Kd.C_drewN ?_ _|refine Kd.C_drew ?_)))
      (case side2 => exact HC1_1.out)
      rintro e w36 ⟨v212, rfl, ho0, hb⟩
      refine ⟨_, rfl, ?_⟩
      have n0_ := Am (R_elder' HO209.out (R_base ho0) hb)
      have n1_ := Am (R_lower (R_new' ho0 (R_lt HO209.out)) (below_size (by repeat (first|(with_reducible first|exact HB.out|apply bA|apply bN|apply b1)|exact HB.out))))
      have n2_ := Am (bb hb BK202.out)
      have n3_ := Am (bb hb BK203.out)
      have n4_ := Am (below_step (by repeat (first|(with_reducible first|exact HB.out|apply bA|apply bN|apply b1)|exact HB.out)) hb)
      clear HO209 BK202 BK203 HB; have HO209 := n0_; have HO213 := n1_; have BK202 := n2_; have BK203 := n3_; have HB := n4_; clear n0_ n1_ n2_ n3_ n4_; (try clear hb); (try clear ho0)
      obtain ⟨Ao37, co37, eo37⟩ := R_slice HO209.out
      (first|subst eo37|(injection eo37 with f1_ f2_ f3_; have f4_ := f1_.symm; have f5_ := f3_.symm; clear f1_ f2_ f3_; subst f4_; subst f5_))
      obtain ⟨Ao38, co38, eo38⟩ := R_slice HO213.out
      (first|subst eo38|(injection eo38 with f1_ f2_ f3_; have f4_ := f1_.symm; have f5_ := f3_.symm; clear f1_ f2_ f3_; subst f4_; subst f5_))
      refine hK.out _ _ ⟨(blk_cell BK202.out 0).trans rfl, (blk_cell BK202.out 1).trans rfl, (blk_cell BK203.out 0).trans rfl, (blk_cell BK203.out 1).trans rfl⟩ (fun hHeld => ?_)
      clear hK K
      refine norm_ (a' := ?_) ?_ ?_
      rotate_left
      ·show Act.put _ (some 33) _ = _
       simp only [Act.put, setIfInBounds_toArray, set_cons_zero, set_cons_succ, i64_w, i32_w]
       rfl
      refine two_ (i := 5) (j := 9) (Ni := some 35) (Nj := some 8) #[true, true, true, true, true, true, false, false, false, false, false, false] #[true, true, true, true, true, false, false, false, false, true, false, false] rfl rfl rfl rfl (two_of HT_.out (by kernel_rfl)) (by decide) (by decide) (fun K hK => ?_) (fun K hK => ?_)
      ·skip
       refine goes_ Try.func35 (by kernel_rfl) rfl #[.agg #[.int .i64 t206, .slice Ao37 t207.length co37], .agg #[.int .i64 t210, .slice Ao38 t211.length co38], .int .i64 a2] (by rfl) rfl rfl (by (try simp only [map_toArray, map_cons, map_nil]); first | done | rfl|(simp only [List.length_drop, List.length_take]; rfl)) ?_
       with_reducible refine (spec_AddCyclos.calls k t206 _ _ t207 t210 _ _ t211 a2 t214 t215 t218 _ ?side1 ?side2 ?side3 ?side4 A22.out).mono ?_
       (case side1 => repeat (first|exact (R_reads' HO209.out).2.2|(with_reducible first|refine Kd.C_alloc ?_ _|refine Kd.C_drewN ?_ _|refine Kd.C_drew ?_)))
       (case side2 => exact (R_reads' HO209.out).2.1)
       (case side3 => repeat (first|exact (R_reads' HO213.out).2.2|(with_reducible first|refine Kd.C_alloc ?_ _|refine Kd.C_drewN ?_ _|refine Kd.C_drew ?_)))
       (case side4 => exact (R_reads' HO213.out).2.1)
       rintro e w39 ⟨v216, rfl, ho0, hb⟩
       refine ⟨_, rfl, ?_⟩
       have n0_ := Am (R_elder' HO209.out (R_base ho0) hb)
       have n1_ := Am (R_elder' HO213.out (R_base ho0) hb)
       have n2_ := Am (R_lower (R_new' (R_new' ho0 (R_lt HO209.out)) (R_lt HO213.out)) (below_size (by repeat (first|(with_reducible first|exact HB.out|apply bA|apply bN|apply b1)|exact HB.out))))
       have n3_ := Am (bb hb BK202.out)
       have n4_ := Am (bb hb BK203.out)
       have n5_ := Am (below_step (by repeat (first|(with_reducible first|exact HB.out|apply bA|apply bN|apply b1)|exact HB.out)) hb)
       clear HO209 HO213 BK202 BK203 HB; have HO209 := n0_; have HO213 := n1_; have HO217 := n2_; have BK202 := n3_; have BK203 := n4_; have HB := n5_; clear n0_ n1_ n2_ n3_ n4_ n5_; (try clear hb); (try clear ho0)
       refine hK.out _ _ ⟨(blk_cell BK202.out 0).trans rfl, (blk_cell BK202.out 1).trans rfl, (blk_cell BK203.out 0).trans rfl, (blk_cell BK203.out 1).trans rfl⟩ (fun hHeld => ?_)
       clear hK K
       refine norm_ (a' := ?_) ?_ ?_
       rotate_left
       ·show Act.put _ (some 35) _ = _
        simp only [Act.put, setIfInBounds_toArray, set_cons_zero, set_cons_succ, i64_w, i32_w]
        rfl
       refine pure_ (i := 6) (N := some 29) (v := ?_) (a' := ?_) #[true, true, true, true, true, true, true, false, false, false, false, false] rfl rfl (any_of HT_.out (by kernel_rfl)) (fun _ _ _ h => h) (Or.inl ⟨by rfl, ?_⟩) ?_ ?_
       rotate_left
       ·intro w'
        go_simp
        with_reducible rfl
       rotate_left
       ·simp only [Act.put, setIfInBounds_toArray, set_cons_zero, set_cons_succ, i64_w, i32_w]
        rfl
       refine pure_ (i := 7) (N := some 36) (v := ?_) (a' := ?_) #[true, true, true, true, true, true, true, true, false, false, false, false] rfl rfl (any_of HT_.out (by kernel_rfl)) (fun _ _ _ h => h) (Or.inl ⟨by rfl, ?_⟩) ?_ ?_
       rotate_left
       ·intro w'
        go_simp
        with_reducible rfl
       rotate_left
       ·simp only [Act.put, setIfInBounds_toArray, set_cons_zero, set_cons_succ, i64_w, i32_w]
        rfl
       refine pure_ (i := 8) (N := some 37) (v := ?_) (a' := ?_) #[true, true, true, true, true, true, true, true, true, false, false, false] rfl rfl (any_of HT_.out (by kernel_rfl)) (fun _ _ _ h => h) (Or.inl ⟨by rfl, ?_⟩) ?_ ?_
       rotate_left
       ·intro w'
        go_simp
        with_reducible rfl
       rotate_left
       ·simp only [Act.put, setIfInBounds_toArray, set_cons_zero, set_cons_succ, i64_w, i32_w]
        rfl
       refine one_ (i := 9) (N := some 8) #[true, true, true, true, true, true, true, true, true, true, false, false] rfl rfl (one_of HT_.out (by kernel_rfl)) (by decide) (fun K hK => ?_)
       refine box_step ?hg (N := 8) ?hd (cs := #[.int .i64 0, .slice none 0 0]) (t := 35) ?hr ?_; (case hd => rfl); (case hg => rfl); (case hr => first|(go_simp; done)|(go_simp; rfl))
       intro gb219 hg w40 hbox hb
       have n0_ := Am (R_below HO209.out hb)
       have n1_ := Am (R_below HO213.out hb)
       have n2_ := Am (R_below HO217.out hb)
       have n3_ := Am (bb hb BK202.out)
       have n4_ := Am (bb hb BK203.out)
       have n5_ := Am (below_step (by repeat (first|(with_reducible first|exact HB.out|apply bA|apply bN|apply b1)|exact HB.out)) hb)
       have n6_ := Am (hbox)
       have n7_ := Am ((by rw [hg]; exact (below_size (by repeat (first|(with_reducible first|exact HB.out|apply bA|apply bN|apply b1)|exact HB.out))) : w.heap.size ≤ gb219))
       have n8_ := Am ((by rw [hg]; exact (below_size (by repeat (first|(with_reducible first|exact HB.out|apply bA|apply bN|apply b1)|exact HB.out))) : w.heap.size ≤ gb219))
       have n9_ := Am ((by rw [hg]; exact Nat.ne_of_lt (blk_lt BK202.out) : gb202 ≠ gb219))
       have n10_ := Am ((by rw [hg]; exact Nat.ne_of_gt (blk_lt BK202.out) : gb219 ≠ gb202))
       have n11_ := Am ((by rw [hg]; exact Nat.ne_of_lt (blk_lt BK203.out) : gb203 ≠ gb219))
       have n12_ := Am ((by rw [hg]; exact Nat.ne_of_gt (blk_lt BK203.out) : gb219 ≠ gb203))
       clear HO209 HO213 HO217 BK202 BK203 HB; have HO209 := n0_; have HO213 := n1_; have HO217 := n2_; have BK202 := n3_; have BK203 := n4_; have HB := n5_; have BK219 := n6_; have GW219 := n7_; have GE219 := n8_; have NB202_219 := n9_; have NB219_202 := n10_; have NB203_219 := n11_; have NB219_203 := n12_; clear n0_ n1_ n2_ n3_ n4_ n5_ n6_ n7_ n8_ n9_ n10_ n11_ n12_ hb hbox hg
       refine hK.out _ _ ⟨(blk_cell BK202.out 0).trans rfl, (blk_cell BK202.out 1).trans rfl, (blk_cell BK203.out 0).trans rfl, (blk_cell BK203.out 1).trans rfl⟩ (fun hHeld => ?_)
       clear hK K
       refine norm_ (a' := ?_) ?_ ?_
       rotate_left
       ·show Act.put _ (some 8) _ = _
        simp only [Act.put, setIfInBounds_toArray, set_cons_zero, set_cons_succ, i64_w, i32_w]
        rfl
       exact norm_ (by simp only [putAll, Act.put, setIfInBounds_toArray, set_cons_zero, set_cons_succ]) (hCont (.slice Ao37 t207.length co37, .slice Ao38 t211.length co38, v216, gb219) _ ⟨hHeld, (by exact R_mono HO209.out (fun _ hk => ⟨hk.1.2, hk.2⟩)), (by exact R_mono HO213.out (fun _ hk => ⟨hk.1.2, hk.2⟩)), (by exact R_mono HO217.out (fun _ hk => ⟨hk.1.2, hk.2⟩)), BK202.out, BK203.out, BK219.out, GW219.out, GE219.out, NB202_219.out, NB219_202.out, NB203_219.out, NB219_203.out, (by repeat (first|(with_reducible first|exact HB.out|apply bA|apply bN|apply b1|refine bS ?_ GE219.out)|exact HB.out))⟩)
      ·skip
       refine box_step ?hg (N := 8) ?hd (cs := #[.int .i64 0, .slice none 0 0]) (t := 35) ?hr ?_; (case hd => rfl); (case hg => rfl); (case hr => first|(go_simp; done)|(go_simp; rfl))
       intro gb219 hg w37 hbox hb
       have n0_ := Am (R_below HO209.out hb)
       have n1_ := Am (R_below HO213.out hb)
       have n2_ := Am (bb hb BK202.out)
       have n3_ := Am (bb hb BK203.out)
       have n4_ := Am (below_step (by repeat (first|(with_reducible first|exact HB.out|apply bA|apply bN|apply b1)|exact HB.out)) hb)
       have n5_ := Am (hbox)
       have n6_ := Am ((by rw [hg]; exact (below_size (by repeat (first|(with_reducible first|exact HB.out|apply bA|apply bN|apply b1)|exact HB.out))) : w.heap.size ≤ gb219))
       have n7_ := Am ((by rw [hg]; exact (below_size (by repeat (first|(with_reducible first|exact HB.out|apply bA|apply bN|apply b1)|exact HB.out))) : w.heap.size ≤ gb219))
       have n8_ := Am ((by rw [hg]; exact Nat.ne_of_lt (blk_lt BK202.out) : gb202 ≠ gb219))
       have n9_ := Am ((by rw [hg]; exact Nat.ne_of_gt (blk_lt BK202.out) : gb219 ≠ gb202))
       have n10_ := Am ((by rw [hg]; exact Nat.ne_of_lt (blk_lt BK203.out) : gb203 ≠ gb219))
       have n11_ := Am ((by rw [hg]; exact Nat.ne_of_gt (blk_lt BK203.out) : gb219 ≠ gb203))
       clear HO209 HO213 BK202 BK203 HB; have HO209 := n0_; have HO213 := n1_; have BK202 := n2_; have BK203 := n3_; have HB := n4_; have BK219 := n5_; have GW219 := n6_; have GE219 := n7_; have NB202_219 := n8_; have NB219_202 := n9_; have NB203_219 := n10_; have NB219_203 := n11_; clear n0_ n1_ n2_ n3_ n4_ n5_ n6_ n7_ n8_ n9_ n10_ n11_ hb hbox hg
       obtain ⟨Ao38, co38, eo38⟩ := R_slice HO209.out
       (first|subst eo38|(injection eo38 with f1_ f2_ f3_; have f4_ := f1_.symm; have f5_ := f3_.symm; clear f1_ f2_ f3_; subst f4_; subst f5_))
       obtain ⟨Ao39, co39, eo39⟩ := R_slice HO213.out
       (first|subst eo39|(injection eo39 with f1_ f2_ f3_; have f4_ := f1_.symm; have f5_ := f3_.symm; clear f1_ f2_ f3_; subst f4_; subst f5_))
       refine hK.out _ _ ⟨(blk_cell BK202.out 0).trans rfl, (blk_cell BK202.out 1).trans rfl, (blk_cell BK203.out 0).trans rfl, (blk_cell BK203.out 1).trans rfl⟩ (fun hHeld => ?_)
       clear hK K
       refine norm_ (a' := ?_) ?_ ?_
       rotate_left
       ·show Act.put _ (some 8) _ = _
        simp only [Act.put, setIfInBounds_toArray, set_cons_zero, set_cons_succ, i64_w, i32_w]
        rfl
       refine one_ (i := 5) (N := some 35) #[true, true, true, true, true, true, false, false, false, true, false, false] rfl rfl (one_of HT_.out (by kernel_rfl)) (by decide) (fun K hK => ?_)
       refine goes_ Try.func35 (by kernel_rfl) rfl #[.agg #[.int .i64 t206, .slice Ao38 t207.length co38], .agg #[.int .i64 t210, .slice Ao39 t211.length co39], .int .i64 a2] (by rfl) rfl rfl (by (try simp only [map_toArray, map_cons, map_nil]); first | done | rfl|(simp only [List.length_drop, List.length_take]; rfl)) ?_
       with_reducible refine (spec_AddCyclos.calls k t206 _ _ t207 t210 _ _ t211 a2 t214 t215 t218 _ ?side1 ?side2 ?side3 ?side4 A22.out).mono ?_
       (case side1 => repeat (first|exact (R_reads' HO209.out).2.2|(with_reducible first|refine Kd.C_alloc ?_ _|refine Kd.C_drewN ?_ _|refine Kd.C_drew ?_)))
       (case side2 => exact (R_reads' HO209.out).2.1)
       (case side3 => repeat (first|exact (R_reads' HO213.out).2.2|(with_reducible first|refine Kd.C_alloc ?_ _|refine Kd.C_drewN ?_ _|refine Kd.C_drew ?_)))
       (case side4 => exact (R_reads' HO213.out).2.1)
       rintro e w40 ⟨v216, rfl, ho0, hb⟩
       refine ⟨_, rfl, ?_⟩
       have n0_ := Am (R_elder' HO209.out (R_base ho0) hb)
       have n1_ := Am (R_elder' HO213.out (R_base ho0) hb)
       have n2_ := Am (R_lower (R_new' (R_new' ho0 (R_lt HO209.out)) (R_lt HO213.out)) (below_size (by repeat (first|(with_reducible first|exact HB.out|apply bA|apply bN|apply b1|refine bS ?_ GE219.out)|exact HB.out))))
       have n3_ := Am (bb hb BK202.out)
       have n4_ := Am (bb hb BK203.out)
       have n5_ := Am (bb hb BK219.out)
       have n6_ := Am (below_step (by repeat (first|(with_reducible first|exact HB.out|apply bA|apply bN|apply b1|refine bS ?_ GE219.out)|exact HB.out)) hb)
       clear HO209 HO213 BK202 BK203 BK219 HB; have HO209 := n0_; have HO213 := n1_; have HO217 := n2_; have BK202 := n3_; have BK203 := n4_; have BK219 := n5_; have HB := n6_; clear n0_ n1_ n2_ n3_ n4_ n5_ n6_; (try clear hb); (try clear ho0)
       refine hK.out _ _ ⟨(blk_cell BK202.out 0).trans rfl, (blk_cell BK202.out 1).trans rfl, (blk_cell BK203.out 0).trans rfl, (blk_cell BK203.out 1).trans rfl⟩ (fun hHeld => ?_)
       clear hK K
       refine norm_ (a' := ?_) ?_ ?_
       rotate_left
       ·show Act.put _ (some 35) _ = _
        simp only [Act.put, setIfInBounds_toArray, set_cons_zero, set_cons_succ, i64_w, i32_w]
        rfl
       refine pure_ (i := 6) (N := some 29) (v := ?_) (a' := ?_) #[true, true, true, true, true, true, true, false, false, true, false, false] rfl rfl (any_of HT_.out (by kernel_rfl)) (fun _ _ _ h => h) (Or.inl ⟨by rfl, ?_⟩) ?_ ?_
       rotate_left
       ·intro w'
        go_simp
        with_reducible rfl
       rotate_left
       ·simp only [Act.put, setIfInBounds_toArray, set_cons_zero, set_cons_succ, i64_w, i32_w]
        rfl
       refine pure_ (i := 7) (N := some 36) (v := ?_) (a' := ?_) #[true, true, true, true, true, true, true, true, false, true, false, false] rfl rfl (any_of HT_.out (by kernel_rfl)) (fun _ _ _ h => h) (Or.inl ⟨by rfl, ?_⟩) ?_ ?_
       rotate_left
       ·intro w'
        go_simp
        with_reducible rfl
       rotate_left
       ·simp only [Act.put, setIfInBounds_toArray, set_cons_zero, set_cons_succ, i64_w, i32_w]
        rfl
       refine pure_ (i := 8) (N := some 37) (v := ?_) (a' := ?_) #[true, true, true, true, true, true, true, true, true, true, false, false] rfl rfl (any_of HT_.out (by kernel_rfl)) (fun _ _ _ h => h) (Or.inl ⟨by rfl, ?_⟩) ?_ ?_
       rotate_left
       ·intro w'
        go_simp
        with_reducible rfl
       rotate_left
       ·simp only [Act.put, setIfInBounds_toArray, set_cons_zero, set_cons_succ, i64_w, i32_w]
        rfl
       exact norm_ (by simp only [putAll, Act.put, setIfInBounds_toArray, set_cons_zero, set_cons_succ]) (hCont (.slice Ao38 t207.length co38, .slice Ao39 t211.length co39, v216, gb219) _ ⟨hHeld, (by exact R_mono HO209.out (fun _ hk => ⟨hk.1.2, hk.2⟩)), (by exact R_mono HO213.out (fun _ hk => ⟨hk.1.2, hk.2⟩)), (by exact R_mono HO217.out (fun _ hk => ⟨hk.1.2, hk.2⟩)), BK202.out, BK203.out, BK219.out, GW219.out, GE219.out, NB202_219.out, NB219_202.out, NB203_219.out, NB219_203.out, (by repeat (first|(with_reducible first|exact HB.out|apply bA|apply bN|apply b1|refine bS ?_ GE219.out)|exact HB.out))⟩)
     ·skip
      refine box_step ?hg (N := 8) ?hd (cs := #[.int .i64 0, .slice none 0 0]) (t := 35) ?hr ?_; (case hd => rfl); (case hg => rfl); (case hr => first|(go_simp; done)|(go_simp; rfl))
      intro gb219 hg w36 hbox hb
      have n0_ := Am (R_below HO209.out hb)
      have n1_ := Am (bb hb BK202.out)
      have n2_ := Am (bb hb BK203.out)
      have n3_ := Am (below_step (by repeat (first|(with_reducible first|exact HB.out|apply bA|apply bN|apply b1)|exact HB.out)) hb)
      have n4_ := Am (hbox)
      have n5_ := Am ((by rw [hg]; exact (below_size (by repeat (first|(with_reducible first|exact HB.out|apply bA|apply bN|apply b1)|exact HB.out))) : w.heap.size ≤ gb219))
      have n6_ := Am ((by rw [hg]; exact (below_size (by repeat (first|(with_reducible first|exact HB.out|apply bA|apply bN|apply b1)|exact HB.out))) : w.heap.size ≤ gb219))
      have n7_ := Am ((by rw [hg]; exact Nat.ne_of_lt (blk_lt BK202.out) : gb202 ≠ gb219))
      have n8_ := Am ((by rw [hg]; exact Nat.ne_of_gt (blk_lt BK202.out) : gb219 ≠ gb202))
      have n9_ := Am ((by rw [hg]; exact Nat.ne_of_lt (blk_lt BK203.out) : gb203 ≠ gb219))
      have n10_ := Am ((by rw [hg]; exact Nat.ne_of_gt (blk_lt BK203.out) : gb219 ≠ gb203))
      clear HO209 BK202 BK203 HB; have HO209 := n0_; have BK202 := n1_; have BK203 := n2_; have HB := n3_; have BK219 := n4_; have GW219 := n5_; have GE219 := n6_; have NB202_219 := n7_; have NB219_202 := n8_; have NB203_219 := n9_; have NB219_203 := n10_; clear n0_ n1_ n2_ n3_ n4_ n5_ n6_ n7_ n8_ n9_ n10_ hb hbox hg
      refine hK.out _ _ ⟨(blk_cell BK202.out 0).trans rfl, (blk_cell BK202.out 1).trans rfl, (blk_cell BK203.out 0).trans rfl, (blk_cell BK203.out 1).trans rfl⟩ (fun hHeld => ?_)
      clear hK K
      refine norm_ (a' := ?_) ?_ ?_
      rotate_left
      ·show Act.put _ (some 8) _ = _
       simp only [Act.put, setIfInBounds_toArray, set_cons_zero, set_cons_succ, i64_w, i32_w]
       rfl
      refine one_ (i := 3) (N := some 33) #[true, true, true, true, true, false, false, false, false, true, false, false] rfl rfl (one_of HT_.out (by kernel_rfl)) (by decide) (fun K hK => ?_)
      refine goes_ Try.func24 (by kernel_rfl) rfl #[.agg #[.int .i64 a1_0, .slice A1_1 l1_1.length c1_1]] (by rfl) rfl rfl (by (try simp only [map_toArray, map_cons, map_nil]); first | done | rfl|(simp only [List.length_drop, List.length_take]; rfl)) ?_
      with_reducible refine (laws_toCyclo.calls k a1_0 _ _ l1_1 t210 t211 _ ?side1 ?side2 A21.out).mono ?_
      (case side1 => repeat (first|exact (Kd.C_below HR1_1.out HB.out)|(with_reducible first|refine Kd.C_alloc ?_ _|refine Kd.C_drewN ?_ _|refine Kd.C_drew ?_)))
      (case side2 => exact HC1_1.out)
      rintro e w37 ⟨v212, rfl, ho0, hb⟩
      refine ⟨_, rfl, ?_⟩
      have n0_ := Am (R_elder' HO209.out (R_base ho0) hb)
      have n1_ := Am (R_lower (R_new' ho0 (R_lt HO209.out)) (below_size (by repeat (first|(with_reducible first|exact HB.out|apply bA|apply bN|apply b1|refine bS ?_ GE219.out)|exact HB.out))))
      have n2_ := Am (bb hb BK202.out)
      have n3_ := Am (bb hb BK203.out)
      have n4_ := Am (bb hb BK219.out)
      have n5_ := Am (below_step (by repeat (first|(with_reducible first|exact HB.out|apply bA|apply bN|apply b1|refine bS ?_ GE219.out)|exact HB.out)) hb)
      clear HO209 BK202 BK203 BK219 HB; have HO209 := n0_; have HO213 := n1_; have BK202 := n2_; have BK203 := n3_; have BK219 := n4_; have HB := n5_; clear n0_ n1_ n2_ n3_ n4_ n5_; (try clear hb); (try clear ho0)
      obtain ⟨Ao38, co38, eo38⟩ := R_slice HO209.out
      (first|subst eo38|(injection eo38 with f1_ f2_ f3_; have f4_ := f1_.symm; have f5_ := f3_.symm; clear f1_ f2_ f3_; subst f4_; subst f5_))
      obtain ⟨Ao39, co39, eo39⟩ := R_slice HO213.out
      (first|subst eo39|(injection eo39 with f1_ f2_ f3_; have f4_ := f1_.symm; have f5_ := f3_.symm; clear f1_ f2_ f3_; subst f4_; subst f5_))
      refine hK.out _ _ ⟨(blk_cell BK202.out 0).trans rfl, (blk_cell BK202.out 1).trans rfl, (blk_cell BK203.out 0).trans rfl, (blk_cell BK203.out 1).trans rfl⟩ (fun hHeld => ?_)
      clear hK K
      refine norm_ (a' := ?_) ?_ ?_
      rotate_left
      ·show Act.put _ (some 33) _ = _
       simp only [Act.put, setIfInBounds_toArray, set_cons_zero, set_cons_succ, i64_w, i32_w]
       rfl
      refine one_ (i := 5) (N := some 35) #[true, true, true, true, true, true, false, false, false, true, false, false] rfl rfl (one_of HT_.out (by kernel_rfl)) (by decide) (fun K hK => ?_)
      refine goes_ Try.func35 (by kernel_rfl) rfl #[.agg #[.int .i64 t206, .slice Ao38 t207.length co38], .agg #[.int .i64 t210, .slice Ao39 t211.length co39], .int .i64 a2] (by rfl) rfl rfl (by (try simp only [map_toArray, map_cons, map_nil]); first | done | rfl|(simp only [List.length_drop, List.length_take]; rfl)) ?_
      with_reducible refine (spec_AddCyclos.calls k t206 _ _ t207 t210 _ _ t211 a2 t214 t215 t218 _ ?side1 ?side2 ?side3 ?side4 A22.out).mono ?_
      (case side1 => repeat (first|exact (R_reads' HO209.out).2.2|(with_reducible first|refine Kd.C_alloc ?_ _|refine Kd.C_drewN ?_ _|refine Kd.C_drew ?_)))
      (case side2 => exact (R_reads' HO209.out).2.1)
      (case side3 => repeat (first|exact (R_reads' HO213.out).2.2|(with_reducible first|refine Kd.C_alloc ?_ _|refine Kd.C_drewN ?_ _|refine Kd.C_drew ?_)))
      (case side4 => exact (R_reads' HO213.out).2.1)
      rintro e w40 ⟨v216, rfl, ho0, hb⟩
      refine ⟨_, rfl, ?_⟩
      have n0_ := Am (R_elder' HO209.out (R_base ho0) hb)
      have n1_ := Am (R_elder' HO213.out (R_base ho0) hb)
      have n2_ := Am (R_lower (R_new' (R_new' ho0 (R_lt HO209.out)) (R_lt HO213.out)) (below_size (by repeat (first|(with_reducible first|exact HB.out|apply bA|apply bN|apply b1|refine bS ?_ GE219.out)|exact HB.out))))
      have n3_ := Am (bb hb BK202.out)
      have n4_ := Am (bb hb BK203.out)
      have n5_ := Am (bb hb BK219.out)
      have n6_ := Am (below_step (by repeat (first|(with_reducible first|exact HB.out|apply bA|apply bN|apply b1|refine bS ?_ GE219.out)|exact HB.out)) hb)
      clear HO209 HO213 BK202 BK203 BK219 HB; have HO209 := n0_; have HO213 := n1_; have HO217 := n2_; have BK202 := n3_; have BK203 := n4_; have BK219 := n5_; have HB := n6_; clear n0_ n1_ n2_ n3_ n4_ n5_ n6_; (try clear hb); (try clear ho0)
      refine hK.out _ _ ⟨(blk_cell BK202.out 0).trans rfl, (blk_cell BK202.out 1).trans rfl, (blk_cell BK203.out 0).trans rfl, (blk_cell BK203.out 1).trans rfl⟩ (fun hHeld => ?_)
      clear hK K
      refine norm_ (a' := ?_) ?_ ?_
      rotate_left
      ·show Act.put _ (some 35) _ = _
       simp only [Act.put, setIfInBounds_toArray, set_cons_zero, set_cons_succ, i64_w, i32_w]
       rfl
      refine pure_ (i := 6) (N := some 29) (v := ?_) (a' := ?_) #[true, true, true, true, true, true, true, false, false, true, false, false] rfl rfl (any_of HT_.out (by kernel_rfl)) (fun _ _ _ h => h) (Or.inl ⟨by rfl, ?_⟩) ?_ ?_
      rotate_left
      ·intro w'
       go_simp
       with_reducible rfl
      rotate_left
      ·simp only [Act.put, setIfInBounds_toArray, set_cons_zero, set_cons_succ, i64_w, i32_w]
       rfl
      refine pure_ (i := 7) (N := some 36) (v := ?_) (a' := ?_) #[true, true, true, true, true, true, true, true, false, true, false, false] rfl rfl (any_of HT_.out (by kernel_rfl)) (fun _ _ _ h => h) (Or.inl ⟨by rfl, ?_⟩) ?_ ?_
      rotate_left
      ·intro w'
       go_simp
       with_reducible rfl
      rotate_left
      ·simp only [Act.put, setIfInBounds_toArray, set_cons_zero, set_cons_succ, i64_w, i32_w]
       rfl
      refine pure_ (i := 8) (N := some 37) (v := ?_) (a' := ?_) #[true, true, true, true, true, true, true, true, true, true, false, false] rfl rfl (any_of HT_.out (by kernel_rfl)) (fun _ _ _ h => h) (Or.inl ⟨by rfl, ?_⟩) ?_ ?_
      rotate_left
      ·intro w'
       go_simp
       with_reducible rfl
      rotate_left
      ·simp only [Act.put, setIfInBounds_toArray, set_cons_zero, set_cons_succ, i64_w, i32_w]
       rfl
      exact norm_ (by simp only [putAll, Act.put, setIfInBounds_toArray, set_cons_zero, set_cons_succ]) (hCont (.slice Ao38 t207.length co38, .slice Ao39 t211.length co39, v216, gb219) _ ⟨hHeld, (by exact R_mono HO209.out (fun _ hk => ⟨hk.1.2, hk.2⟩)), (by exact R_mono HO213.out (fun _ hk => ⟨hk.1.2, hk.2⟩)), (by exact R_mono HO217.out (fun _ hk => ⟨hk.1.2, hk.2⟩)), BK202.out, BK203.out, BK219.out, GW219.out, GE219.out, NB202_219.out, NB219_202.out, NB203_219.out, NB219_203.out, (by repeat (first|(with_reducible first|exact HB.out|apply bA|apply bN|apply b1|refine bS ?_ GE219.out)|exact HB.out))⟩)
    ·skip
     refine box_step ?hg (N := 8) ?hd (cs := #[.int .i64 0, .slice none 0 0]) (t := 35) ?hr ?_; (case hd => rfl); (case hg => rfl); (case hr => first|(go_simp; done)|(go_simp; rfl))
     intro gb219 hg w35 hbox hb
     have n0_ := Am (bb hb BK202.out)
     have n1_ := Am (bb hb BK203.out)
     have n2_ := Am (below_step (by repeat (first|(with_reducible first|exact HB.out|apply bA|apply bN|apply b1)|exact HB.out)) hb)
     have n3_ := Am (hbox)
     have n4_ := Am ((by rw [hg]; exact (below_size (by repeat (first|(with_reducible first|exact HB.out|apply bA|apply bN|apply b1)|exact HB.out))) : w.heap.size ≤ gb219))
     have n5_ := Am ((by rw [hg]; exact (below_size (by repeat (first|(with_reducible first|exact HB.out|apply bA|apply bN|apply b1)|exact HB.out))) : w.heap.size ≤ gb219))
     have n6_ := Am ((by rw [hg]; exact Nat.ne_of_lt (blk_lt BK202.out) : gb202 ≠ gb219))
     have n7_ := Am ((by rw [hg]; exact Nat.ne_of_gt (blk_lt BK202.out) : gb219 ≠ gb202))
     have n8_ := Am ((by rw [hg]; exact Nat.ne_of_lt (blk_lt BK203.out) : gb203 ≠ gb219))
     have n9_ := Am ((by rw [hg]; exact Nat.ne_of_gt (blk_lt BK203.out) : gb219 ≠ gb203))
     clear BK202 BK203 HB; have BK202 := n0_; have BK203 := n1_; have HB := n2_; have BK219 := n3_; have GW219 := n4_; have GE219 := n5_; have NB202_219 := n6_; have NB219_202 := n7_; have NB203_219 := n8_; have NB219_203 := n9_; clear n0_ n1_ n2_ n3_ n4_ n5_ n6_ n7_ n8_ n9_ hb hbox hg
     refine hK.out _ _ ⟨(blk_cell BK202.out 0).trans rfl, (blk_cell BK202.out 1).trans rfl, (blk_cell BK203.out 0).trans rfl, (blk_cell BK203.out 1).trans rfl⟩ (fun hHeld => ?_)
     clear hK K
     refine norm_ (a' := ?_) ?_ ?_
     rotate_left
     ·show Act.put _ (some 8) _ = _
      simp only [Act.put, setIfInBounds_toArray, set_cons_zero, set_cons_succ, i64_w, i32_w]
      rfl
     refine one_ (i := 1) (N := some 31) #[true, true, true, false, true, false, false, false, false, true, false, false] rfl rfl (one_of HT_.out (by kernel_rfl)) (by decide) (fun K hK => ?_)
     refine goes_ Try.func24 (by kernel_rfl) rfl #[.agg #[.int .i64 a0_0, .slice A0_1 l0_1.length c0_1]] (by rfl) rfl rfl (by (try simp only [map_toArray, map_cons, map_nil]); first | done | rfl|(simp only [List.length_drop, List.length_take]; rfl)) ?_
     with_reducible refine (laws_toCyclo.calls k a0_0 _ _ l0_1 t206 t207 _ ?side1 ?side2 A20.out).mono ?_
     (case side1 => repeat (first|exact (Kd.C_below HR0_1.out HB.out)|(with_reducible first|refine Kd.C_alloc ?_ _|refine Kd.C_drewN ?_ _|refine Kd.C_drew ?_)))
     (case side2 => exact HC0_1.out)
     rintro e w36 ⟨v208, rfl, ho0, hb⟩
     refine ⟨_, rfl, ?_⟩
     have n0_ := Am (R_lower ho0 (below_size (by repeat (first|(with_reducible first|exact HB.out|apply bA|apply bN|apply b1|refine bS ?_ GE219.out)|exact HB.out))))
     have n1_ := Am (bb hb BK202.out)
     have n2_ := Am (bb hb BK203.out)
     have n3_ := Am (bb hb BK219.out)
     have n4_ := Am (below_step (by repeat (first|(with_reducible first|exact HB.out|apply bA|apply bN|apply b1|refine bS ?_ GE219.out)|exact HB.out)) hb)
     clear BK202 BK203 BK219 HB; have HO209 := n0_; have BK202 := n1_; have BK203 := n2_; have BK219 := n3_; have HB := n4_; clear n0_ n1_ n2_ n3_ n4_; (try clear hb); (try clear ho0)
     refine hK.out _ _ ⟨(blk_cell BK202.out 0).trans rfl, (blk_cell BK202.out 1).trans rfl, (blk_cell BK203.out 0).trans rfl, (blk_cell BK203.out 1).trans rfl⟩ (fun hHeld => ?_)
     clear hK K
     refine norm_ (a' := ?_) ?_ ?_
     rotate_left
     ·show Act.put _ (some 31) _ = _
      simp only [Act.put, setIfInBounds_toArray, set_cons_zero, set_cons_succ, i64_w, i32_w]
      rfl
     refine one_ (i := 3) (N := some 33) #[true, true, true, true, true, false, false, false, false, true, false, false] rfl rfl (one_of HT_.out (by kernel_rfl)) (by decide) (fun K hK => ?_)
     refine goes_ Try.func24 (by kernel_rfl) rfl #[.agg #[.int .i64 a1_0, .slice A1_1 l1_1.length c1_1]] (by rfl) rfl rfl (by (try simp only [map_toArray, map_cons, map_nil]); first | done | rfl|(simp only [List.length_drop, List.length_take]; rfl)) ?_
     with_reducible refine (laws_toCyclo.calls k a1_0 _ _ l1_1 t210 t211 _ ?side1 ?side2 A21.out).mono ?_
     (case side1 => repeat (first|exact (Kd.C_below HR1_1.out HB.out)|(with_reducible first|refine Kd.C_alloc ?_ _|refine Kd.C_drewN ?_ _|refine Kd.C_drew ?_)))
     (case side2 => exact HC1_1.out)
     rintro e w37 ⟨v212, rfl, ho0, hb⟩
     refine ⟨_, rfl, ?_⟩
     have n0_ := Am (R_elder' HO209.out (R_base ho0) hb)
     have n1_ := Am (R_lower (R_new' ho0 (R_lt HO209.out)) (below_size (by repeat (first|(with_reducible first|exact HB.out|apply bA|apply bN|apply b1|refine bS ?_ GE219.out)|exact HB.out))))
     have n2_ := Am (bb hb BK202.out)
     have n3_ := Am (bb hb BK203.out)
     have n4_ := Am (bb hb BK219.out)
     have n5_ := Am (below_step (by repeat (first|(with_reducible first|exact HB.out|apply bA|apply bN|apply b1|refine bS ?_ GE219.out)|exact HB.out)) hb)
     clear HO209 BK202 BK203 BK219 HB; have HO209 := n0_; have HO213 := n1_; have BK202 := n2_; have BK203 := n3_; have BK219 := n4_; have HB := n5_; clear n0_ n1_ n2_ n3_ n4_ n5_; (try clear hb); (try clear ho0)
     obtain ⟨Ao38, co38, eo38⟩ := R_slice HO209.out
     (first|subst eo38|(injection eo38 with f1_ f2_ f3_; have f4_ := f1_.symm; have f5_ := f3_.symm; clear f1_ f2_ f3_; subst f4_; subst f5_))
     obtain ⟨Ao39, co39, eo39⟩ := R_slice HO213.out
     (first|subst eo39|(injection eo39 with f1_ f2_ f3_; have f4_ := f1_.symm; have f5_ := f3_.symm; clear f1_ f2_ f3_; subst f4_; subst f5_))
     refine hK.out _ _ ⟨(blk_cell BK202.out 0).trans rfl, (blk_cell BK202.out 1).trans rfl, (blk_cell BK203.out 0).trans rfl, (blk_cell BK203.out 1).trans rfl⟩ (fun hHeld => ?_)
     clear hK K
     refine norm_ (a' := ?_) ?_ ?_
     rotate_left
     ·show Act.put _ (some 33) _ = _
      simp only [Act.put, setIfInBounds_toArray, set_cons_zero, set_cons_succ, i64_w, i32_w]
      rfl
     refine one_ (i := 5) (N := some 35) #[true, true, true, true, true, true, false, false, false, true, false, false] rfl rfl (one_of HT_.out (by kernel_rfl)) (by decide) (fun K hK => ?_)
     refine goes_ Try.func35 (by kernel_rfl) rfl #[.agg #[.int .i64 t206, .slice Ao38 t207.length co38], .agg #[.int .i64 t210, .slice Ao39 t211.length co39], .int .i64 a2] (by rfl) rfl rfl (by (try simp only [map_toArray, map_cons, map_nil]); first | done | rfl|(simp only [List.length_drop, List.length_take]; rfl)) ?_
     with_reducible refine (spec_AddCyclos.calls k t206 _ _ t207 t210 _ _ t211 a2 t214 t215 t218 _ ?side1 ?side2 ?side3 ?side4 A22.out).mono ?_
     (case side1 => repeat (first|exact (R_reads' HO209.out).2.2|(with_reducible first|refine Kd.C_alloc ?_ _|refine Kd.C_drewN ?_ _|refine Kd.C_drew ?_)))
     (case side2 => exact (R_reads' HO209.out).2.1)
     (case side3 => repeat (first|exact (R_reads' HO213.out).2.2|(with_reducible first|refine Kd.C_alloc ?_ _|refine Kd.C_drewN ?_ _|refine Kd.C_drew ?_)))
     (case side4 => exact (R_reads' HO213.out).2.1)
     rintro e w40 ⟨v216, rfl, ho0, hb⟩
     refine ⟨_, rfl, ?_⟩
     have n0_ := Am (R_elder' HO209.out (R_base ho0) hb)
     have n1_ := Am (R_elder' HO213.out (R_base ho0) hb)
     have n2_ := Am (R_lower (R_new' (R_new' ho0 (R_lt HO209.out)) (R_lt HO213.out)) (below_size (by repeat (first|(with_reducible first|exact HB.out|apply bA|apply bN|apply b1|refine bS ?_ GE219.out)|exact HB.out))))
     have n3_ := Am (bb hb BK202.out)
     have n4_ := Am (bb hb BK203.out)
     have n5_ := Am (bb hb BK219.out)
     have n6_ := Am (below_step (by repeat (first|(with_reducible first|exact HB.out|apply bA|apply bN|apply b1|refine bS ?_ GE219.out)|exact HB.out)) hb)
     clear HO209 HO213 BK202 BK203 BK219 HB; have HO209 := n0_; have HO213 := n1_; have HO217 := n2_; have BK202 := n3_; have BK203 := n4_; have BK219 := n5_; have HB := n6_; clear n0_ n1_ n2_ n3_ n4_ n5_ n6_; (try clear hb); (try clear ho0)
     refine hK.out _ _ ⟨(blk_cell BK202.out 0).trans rfl, (blk_cell BK202.out 1).trans rfl, (blk_cell BK203.out 0).trans rfl, (blk_cell BK203.out 1).trans rfl⟩ (fun hHeld => ?_)
     clear hK K
     refine norm_ (a' := ?_) ?_ ?_
     rotate_left
     ·show Act.put _ (some 35) _ = _
      simp only [Act.put, setIfInBounds_toArray, set_cons_zero, set_cons_succ, i64_w, i32_w]
      rfl
     refine pure_ (i := 6) (N := some 29) (v := ?_) (a' := ?_) #[true, true, true, true, true, true, true, false, false, true, false, false] rfl rfl (any_of HT_.out (by kernel_rfl)) (fun _ _ _ h => h) (Or.inl ⟨by rfl, ?_⟩) ?_ ?_
     rotate_left
     ·intro w'
      go_simp
      with_reducible rfl
     rotate_left
     ·simp only [Act.put, setIfInBounds_toArray, set_cons_zero, set_cons_succ, i64_w, i32_w]
      rfl
     refine pure_ (i := 7) (N := some 36) (v := ?_) (a' := ?_) #[true, true, true, true, true, true, true, true, false, true, false, false] rfl rfl (any_of HT_.out (by kernel_rfl)) (fun _ _ _ h => h) (Or.inl ⟨by rfl, ?_⟩) ?_ ?_
     rotate_left
     ·intro w'
      go_simp
      with_reducible rfl
     rotate_left
     ·simp only [Act.put, setIfInBounds_toArray, set_cons_zero, set_cons_succ, i64_w, i32_w]
      rfl
     refine pure_ (i := 8) (N := some 37) (v := ?_) (a' := ?_) #[true, true, true, true, true, true, true, true, true, true, false, false] rfl rfl (any_of HT_.out (by kernel_rfl)) (fun _ _ _ h => h) (Or.inl ⟨by rfl, ?_⟩) ?_ ?_
     rotate_left
     ·intro w'
      go_simp
      with_reducible rfl
     rotate_left
     ·simp only [Act.put, setIfInBounds_toArray, set_cons_zero, set_cons_succ, i64_w, i32_w]
      rfl
     exact norm_ (by simp only [putAll, Act.put, setIfInBounds_toArray, set_cons_zero, set_cons_succ]) (hCont (.slice Ao38 t207.length co38, .slice Ao39 t211.length co39, v216, gb219) _ ⟨hHeld, (by exact R_mono HO209.out (fun _ hk => ⟨hk.1.2, hk.2⟩)), (by exact R_mono HO213.out (fun _ hk => ⟨hk.1.2, hk.2⟩)), (by exact R_mono HO217.out (fun _ hk => ⟨hk.1.2, hk.2⟩)), BK202.out, BK203.out, BK219.out, GW219.out, GE219.out, NB202_219.out, NB219_202.out, NB203_219.out, NB219_203.out, (by repeat (first|(with_reducible first|exact HB.out|apply bA|apply bN|apply b1|refine bS ?_ GE219.out)|exact HB.out))⟩)
   rintro ⟨v208, v212, v216, gb219⟩ w41 ⟨hS_, h0_, h1_, h2_, h3_, h4_, h5_, h6_, h7_, h8_, h9_, h10_, h11_, h12_⟩
   have n0_ : Aside0 (Kd.R (Kd.int .i64) 2 w41 w.heap.size (fun k_ => some k_ ≠ (v212 : Value).ownBlock ∧ some k_ ≠ (v216 : Value).ownBlock) v208 t207) := ⟨h0_⟩
   have n1_ : Aside0 (Kd.R (Kd.int .i64) 2 w41 w.heap.size (fun k_ => some k_ ≠ (v208 : Value).ownBlock ∧ some k_ ≠ (v216 : Value).ownBlock) v212 t211) := ⟨h1_⟩
   have n2_ : Aside0 (Kd.R (Kd.int .i64) 2 w41 w.heap.size (fun k_ => some k_ ≠ (v208 : Value).ownBlock ∧ some k_ ≠ (v212 : Value).ownBlock) v216 t215) := ⟨h2_⟩
   have n3_ : Aside0 (w41.heap[gb202]? = some (.cells #[.int .i64 a0_0, .slice A0_1 l0_1.length c0_1] 32 (0, 0))) := ⟨h3_⟩
   have n4_ : Aside0 (w41.heap[gb203]? = some (.cells #[.int .i64 a1_0, .slice A1_1 l1_1.length c1_1] 32 (0, 0))) := ⟨h4_⟩
   have n5_ : Aside0 (w41.heap[gb219]? = some (.cells #[.int .i64 0, .slice none 0 0] 35 (0, 0))) := ⟨h5_⟩
   have n6_ : Aside0 (w.heap.size ≤ gb219) := ⟨h6_⟩
   have n7_ : Aside0 (w.heap.size ≤ gb219) := ⟨h7_⟩
   have n8_ : Aside0 (gb202 ≠ gb219) := ⟨h8_⟩
   have n9_ : Aside0 (gb219 ≠ gb202) := ⟨h9_⟩
   have n10_ : Aside0 (gb203 ≠ gb219) := ⟨h10_⟩
   have n11_ : Aside0 (gb219 ≠ gb203) := ⟨h11_⟩
   have n12_ : Aside0 (Below w.heap.size w w41) := ⟨h12_⟩
   clear BK202 BK203 HB h0_ h1_ h2_ h3_ h4_ h5_ h6_ h7_ h8_ h9_ h10_ h11_ h12_; have HO209 := n0_; have HO213 := n1_; have HO217 := n2_; have BK202 := n3_; have BK203 := n4_; have BK219 := n5_; have GW219 := n6_; have GE219 := n7_; have NB202_219 := n8_; have NB219_202 := n9_; have NB203_219 := n10_; have NB219_203 := n11_; have HB := n12_; clear n0_ n1_ n2_ n3_ n4_ n5_ n6_ n7_ n8_ n9_ n10_ n11_ n12_
   have hHeld : w41.cell? ⟨gb202, 0, none⟩ = some (.int .i64 a0_0) ∧ w41.cell? ⟨gb202, 1, none⟩ = some (.slice A0_1 l0_1.length c0_1) ∧ w41.cell? ⟨gb203, 0, none⟩ = some (.int .i64 a1_0) ∧ w41.cell? ⟨gb203, 1, none⟩ = some (.slice A1_1 l1_1.length c1_1) := hS_
   obtain ⟨Ao43, co43, eo43⟩ := R_slice HO217.out
   (first|subst eo43|(injection eo43 with f1_ f2_ f3_; have f4_ := f1_.symm; have f5_ := f3_.symm; clear f1_ f2_ f3_; subst f4_; subst f5_))
   refine norm_ (a' := ?_) ?_ ?_
   rotate_left
   ·simp only [putAll, Act.put, setIfInBounds_toArray, set_cons_zero, set_cons_succ]
    rfl
   refine one_ (i := 10) (N := none) #[true, true, true, true, true, true, true, true, true, true, true, false] rfl rfl (one_of HT_.out (by kernel_rfl)) (by decide) (fun K hK => ?_)
   have hs42 : w41.cell? ⟨gb219, 0, none⟩ = some (.int .i64 0) := (blk_cell BK219.out 0).trans rfl
   have hfs42 := blk_frozen BK219.out 0
   have hns42_0 := NB202_219.out
   have hns42_1 := NB203_219.out
   have hms42_0 := NB219_202.out
   have hms42_1 := NB219_203.out
   have hs44 : w41.cell? ⟨gb219, 1, none⟩ = some (.slice none 0 0) := (blk_cell BK219.out 1).trans rfl
   have hfs44 := blk_frozen BK219.out 1
   have hns44_0 := NB202_219.out
   have hns44_1 := NB203_219.out
   have hms44_0 := NB219_202.out
   have hms44_1 := NB219_203.out
   refine skip_ (w1 := ?_) (by rfl) rfl ?_ ?_
   rotate_left
   ·go_simp
    rfl
   refine hK.out _ _ ⟨((cell_far (p := ⟨gb219, _, none⟩) NB202_219.out _).trans (((cell_far (p := ⟨gb219, _, none⟩) NB202_219.out _).trans (hHeld.1)))), ((cell_far (p := ⟨gb219, _, none⟩) NB202_219.out _).trans (((cell_far (p := ⟨gb219, _, none⟩) NB202_219.out _).trans (hHeld.2.1)))), ((cell_far (p := ⟨gb219, _, none⟩) NB203_219.out _).trans (((cell_far (p := ⟨gb219, _, none⟩) NB203_219.out _).trans (hHeld.2.2.1)))), ((cell_far (p := ⟨gb219, _, none⟩) NB203_219.out _).trans (((cell_far (p := ⟨gb219, _, none⟩) NB203_219.out _).trans (hHeld.2.2.2))))⟩ (fun hHeld => ?_)
   clear hK K
   refine pure_ (i := 11) (N := some 9) (v := ?_) (a' := ?_) #[true, true, true, true, true, true, true, true, true, true, true, true] rfl rfl (any_of HT_.out (by kernel_rfl)) (fun _ _ _ h => h) (Or.inl ⟨by rfl, ?_⟩) ?_ ?_
   rotate_left
   ·intro w'
    go_simp
    with_reducible rfl
   rotate_left
   ·simp only [Act.put, setIfInBounds_toArray, set_cons_zero, set_cons_succ, i64_w, i32_w]
    rfl
   refine done_ (done_of HT_.out (by kernel_rfl)) ?_
   have hnb45 := NB202_219.out
   have hnc45 := NB219_202.out
   have hcz46_0 : w41.cell? ⟨gb202, 0, none⟩ = some (.int .i64 a0_0) := (blk_cell BK202.out 0).trans rfl
   have hcz46_1 : w41.cell? ⟨gb202, 1, none⟩ = some (.slice A0_1 l0_1.length c0_1) := (blk_cell BK202.out 1).trans rfl
   have hfz46_0 := blk_frozen BK202.out 0
   have hfz46_1 := blk_frozen BK202.out 1
   go_upto_region 12 with (first|((with_reducible refine gate_callee (f := 24) rfl ?_); refine goesL_ (some 39) rfl rfl Try.func24 (by kernel_rfl) rfl #[.agg #[.int .i64 a0_0, .slice A0_1 l0_1.length c0_1]] rfl (by (try simp only [map_toArray, map_cons, map_nil]); first | done | rfl|(simp only [List.length_drop, List.length_take]; rfl)) ?_; (with_reducible refine (laws_toCyclo.calls k a0_0 _ _ l0_1 t220 t221 _ ?side1 ?side2 A23.out).mono ?_); (case side1 => exact Kd.C_below HR0_1.out (by repeat (first|(with_reducible first|exact HB.out|apply bA|apply bN|apply b1|refine bS ?_ GE219.out)|exact HB.out))); (case side2 => exact HC0_1.out); rintro e w47 ⟨v222, rfl, ho0, hb⟩; refine ⟨_, rfl, ?_⟩; have n0_ := Am (R_elder' (by exact (R_mono (R_far (p := ⟨gb219, 1, none⟩) (R_far (p := ⟨gb219, 0, none⟩) (R_types HO209.out BK219.out (by decide)) (fun _ hk => hk.2) (.int .i64 t214)) (fun _ hk => hk.2) (.slice Ao43 t215.length co43)) (fun _ h_ => h_.1))) (R_base ho0) hb); have n1_ := Am (R_elder' (by exact (R_mono (R_far (p := ⟨gb219, 1, none⟩) (R_far (p := ⟨gb219, 0, none⟩) (R_types HO213.out BK219.out (by decide)) (fun _ hk => hk.2) (.int .i64 t214)) (fun _ hk => hk.2) (.slice Ao43 t215.length co43)) (fun _ h_ => h_.1))) (R_base ho0) hb); have n2_ := Am (R_elder' (by exact (R_mono (R_far (p := ⟨gb219, 1, none⟩) (R_far (p := ⟨gb219, 0, none⟩) (R_types HO217.out BK219.out (by decide)) (fun _ hk => hk.2) (.int .i64 t214)) (fun _ hk => hk.2) (.slice Ao43 t215.length co43)) (fun _ h_ => h_.1))) (R_base ho0) hb); have n3_ := Am (R_lower (R_new' (R_new' (R_new' ho0 (R_lt (by exact (R_mono (R_far (p := ⟨gb219, 1, none⟩) (R_far (p := ⟨gb219, 0, none⟩) (R_types HO209.out BK219.out (by decide)) (fun _ hk => hk.2) (.int .i64 t214)) (fun _ hk => hk.2) (.slice Ao43 t215.length co43)) (fun _ h_ => h_.1))))) (R_lt (by exact (R_mono (R_far (p := ⟨gb219, 1, none⟩) (R_far (p := ⟨gb219, 0, none⟩) (R_types HO213.out BK219.out (by decide)) (fun _ hk => hk.2) (.int .i64 t214)) (fun _ hk => hk.2) (.slice Ao43 t215.length co43)) (fun _ h_ => h_.1))))) (R_lt (by exact (R_mono (R_far (p := ⟨gb219, 1, none⟩) (R_far (p := ⟨gb219, 0, none⟩) (R_types HO217.out BK219.out (by decide)) (fun _ hk => hk.2) (.int .i64 t214)) (fun _ hk => hk.2) (.slice Ao43 t215.length co43)) (fun _ h_ => h_.1))))) (below_size (by repeat (first|(with_reducible first|exact HB.out|apply bA|apply bN|apply b1|refine bS ?_ GE219.out)|exact HB.out)))); have n4_ := Am (blk_below (g := gb202) (o := .cells #[.int .i64 a0_0, .slice A0_1 l0_1.length c0_1] 32 (0, 0)) (by refine blk_far ?_ NB202_219.out _; refine blk_far ?_ NB202_219.out _; exact BK202.out) hb); have n5_ := Am (blk_below (g := gb203) (o := .cells #[.int .i64 a1_0, .slice A1_1 l1_1.length c1_1] 32 (0, 0)) (by refine blk_far ?_ NB203_219.out _; refine blk_far ?_ NB203_219.out _; exact BK203.out) hb); have n6_ := Am (blk_below (g := gb219) (o := .cells #[.int .i64 t214, .slice Ao43 t215.length co43] 35 (0, 0)) (by refine blk_put (cs := #[.int .i64 t214, .slice none 0 0]) ?_ 1 _ rfl; refine blk_put (cs := #[.int .i64 0, .slice none 0 0]) ?_ 0 _ rfl; exact BK219.out) hb); have n7_ := Am (below_step (by repeat (first|(with_reducible first|exact HB.out|apply bA|apply bN|apply b1|refine bS ?_ GE219.out)|exact HB.out)) hb); clear HO209; clear HO213; clear HO217; clear BK202; clear BK203; clear BK219; clear HB; have HO209 := n0_; have HO213 := n1_; have HO217 := n2_; have HO223 := n3_; have BK202 := n4_; have BK203 := n5_; have BK219 := n6_; have HB := n7_; clear n0_ n1_ n2_ n3_ n4_ n5_ n6_ n7_; (try clear hb); (try clear hk); (try clear ho0))|((with_reducible refine gate_dst (N := 10) rfl ?_); refine box_event ?hg (N := 10) ?hd (cs := #[.int .i64 0, .slice none 0 0]) (t := 35) ?hr ?_; (case hd => rfl); (case hg => rfl); (case hr => first|(go_simp; done)|(go_simp; rfl)); intro gb224 hg w48 hbox hb; have n0_ := Am (R_below HO209.out hb); have n1_ := Am (R_below HO213.out hb); have n2_ := Am (R_below HO217.out hb); have n3_ := Am (R_below HO223.out hb); have n4_ := Am (bb hb BK202.out); have n5_ := Am (bb hb BK203.out); have n6_ := Am (bb hb BK219.out); have n7_ := Am (below_step (by repeat (first|(with_reducible first|exact HB.out|apply bA|apply bN|apply b1|refine bS ?_ GE219.out)|exact HB.out)) hb); have n8_ := Am (hbox); have n9_ := Am ((by rw [hg]; exact (below_size (by repeat (first|(with_reducible first|exact HB.out|apply bA|apply bN|apply b1|refine bS ?_ GE219.out)|exact HB.out))) : w.heap.size ≤ gb224)); have n10_ := Am ((by rw [hg]; exact (below_size (by repeat (first|(with_reducible first|exact HB.out|apply bA|apply bN|apply b1|refine bS ?_ GE219.out)|exact HB.out))) : w.heap.size ≤ gb224)); have n11_ := Am ((by rw [hg]; exact Nat.ne_of_lt (blk_lt BK202.out) : gb202 ≠ gb224)); have n12_ := Am ((by rw [hg]; exact Nat.ne_of_gt (blk_lt BK202.out) : gb224 ≠ gb202)); have n13_ := Am ((by rw [hg]; exact Nat.ne_of_lt (blk_lt BK203.out) : gb203 ≠ gb224)); have n14_ := Am ((by rw [hg]; exact Nat.ne_of_gt (blk_lt BK203.out) : gb224 ≠ gb203)); have n15_ := Am ((by rw [hg]; exact Nat.ne_of_lt (blk_lt BK219.out) : gb219 ≠ gb224)); have n16_ := Am ((by rw [hg]; exact Nat.ne_of_gt (blk_lt BK219.out) : gb224 ≠ gb219)); clear HO209; clear HO213; clear HO217; clear HO223; clear BK202; clear BK203; clear BK219; clear HB; have HO209 := n0_; have HO213 := n1_; have HO217 := n2_; have HO223 := n3_; have BK202 := n4_; have BK203 := n5_; have BK219 := n6_; have HB := n7_; have BK224 := n8_; have GW224 := n9_; have GE224 := n10_; have NB202_224 := n11_; have NB224_202 := n12_; have NB203_224 := n13_; have NB224_203 := n14_; have NB219_224 := n15_; have NB224_219 := n16_; clear n0_ n1_ n2_ n3_ n4_ n5_ n6_ n7_ n8_ n9_ n10_ n11_ n12_ n13_ n14_ n15_ n16_; clear hb hbox hg; have hnb49 := NB224_202.out; have hnc49 := NB202_224.out; have hnb50 := NB224_203.out; have hnc50 := NB203_224.out; have hnb51 := NB224_219.out; have hnc51 := NB219_224.out; have hcz52_0 : w48.cell? ⟨gb224, 0, none⟩ = some (.int .i64 0) := (blk_cell BK224.out 0).trans rfl; have hcz52_1 : w48.cell? ⟨gb224, 1, none⟩ = some (.slice none 0 0) := (blk_cell BK224.out 1).trans rfl; have hfz52_0 := blk_frozen BK224.out 0; have hfz52_1 := blk_frozen BK224.out 1; obtain ⟨Ao53, co53, eo53⟩ := R_slice HO223.out; subst eo53; have hnb54 := NB203_219.out; have hnc54 := NB219_203.out; have hcz55_0 : w48.cell? ⟨gb203, 0, none⟩ = some (.int .i64 a1_0) := (blk_cell BK203.out 0).trans rfl; have hcz55_1 : w48.cell? ⟨gb203, 1, none⟩ = some (.slice A1_1 l1_1.length c1_1) := (blk_cell BK203.out 1).trans rfl; have hfz55_0 := blk_frozen BK203.out 0; have hfz55_1 := blk_frozen BK203.out 1)|((with_reducible refine gate_callee (f := 24) rfl ?_); refine goesL_ (some 41) rfl rfl Try.func24 (by kernel_rfl) rfl #[.agg #[.int .i64 a1_0, .slice A1_1 l1_1.length c1_1]] rfl (by (try simp only [map_toArray, map_cons, map_nil]); first | done | rfl|(simp only [List.length_drop, List.length_take]; rfl)) ?_; (with_reducible refine (laws_toCyclo.calls k a1_0 _ _ l1_1 t225 t226 _ ?side1 ?side2 A24.out).mono ?_); (case side1 => exact Kd.C_below HR1_1.out (by repeat (first|(with_reducible first|exact HB.out|apply bA|apply bN|apply b1|refine bS ?_ GE219.out|refine bS ?_ GE224.out)|exact HB.out))); (case side2 => exact HC1_1.out); rintro e w56 ⟨v227, rfl, ho0, hb⟩; refine ⟨_, rfl, ?_⟩; have n0_ := Am (R_elder' (by exact (R_mono (R_far (p := ⟨gb224, 1, none⟩) (R_far (p := ⟨gb224, 0, none⟩) (R_types HO209.out BK224.out (by decide)) (fun _ hk => hk.2) (.int .i64 t220)) (fun _ hk => hk.2) (.slice Ao53 t221.length co53)) (fun _ h_ => h_.1))) (R_base ho0) hb); have n1_ := Am (R_elder' (by exact (R_mono (R_far (p := ⟨gb224, 1, none⟩) (R_far (p := ⟨gb224, 0, none⟩) (R_types HO213.out BK224.out (by decide)) (fun _ hk => hk.2) (.int .i64 t220)) (fun _ hk => hk.2) (.slice Ao53 t221.length co53)) (fun _ h_ => h_.1))) (R_base ho0) hb); have n2_ := Am (R_elder' (by exact (R_mono (R_far (p := ⟨gb224, 1, none⟩) (R_far (p := ⟨gb224, 0, none⟩) (R_types HO217.out BK224.out (by decide)) (fun _ hk => hk.2) (.int .i64 t220)) (fun _ hk => hk.2) (.slice Ao53 t221.length co53)) (fun _ h_ => h_.1))) (R_base ho0) hb); have n3_ := Am (R_elder' (by exact (R_mono (R_far (p := ⟨gb224, 1, none⟩) (R_far (p := ⟨gb224, 0, none⟩) (R_types HO223.out BK224.out (by decide)) (fun _ hk => hk.2) (.int .i64 t220)) (fun _ hk => hk.2) (.slice Ao53 t221.length co53)) (fun _ h_ => h_.1))) (R_base ho0) hb); have n4_ := Am (R_lower (R_new' (R_new' (R_new' (R_new' ho0 (R_lt (by exact (R_mono (R_far (p := ⟨gb224, 1, none⟩) (R_far (p := ⟨gb224, 0, none⟩) (R_types HO209.out BK224.out (by decide)) (fun _ hk => hk.2) (.int .i64 t220)) (fun _ hk => hk.2) (.slice Ao53 t221.length co53)) (fun _ h_ => h_.1))))) (R_lt (by exact (R_mono (R_far (p := ⟨gb224, 1, none⟩) (R_far (p := ⟨gb224, 0, none⟩) (R_types HO213.out BK224.out (by decide)) (fun _ hk => hk.2) (.int .i64 t220)) (fun _ hk => hk.2) (.slice Ao53 t221.length co53)) (fun _ h_ => h_.1))))) (R_lt (by exact (R_mono (R_far (p := ⟨gb224, 1, none⟩) (R_far (p := ⟨gb224, 0, none⟩) (R_types HO217.out BK224.out (by decide)) (fun _ hk => hk.2) (.int .i64 t220)) (fun _ hk => hk.2) (.slice Ao53 t221.length co53)) (fun _ h_ => h_.1))))) (R_lt (by exact (R_mono (R_far (p := ⟨gb224, 1, none⟩) (R_far (p := ⟨gb224, 0, none⟩) (R_types HO223.out BK224.out (by decide)) (fun _ hk => hk.2) (.int .i64 t220)) (fun _ hk => hk.2) (.slice Ao53 t221.length co53)) (fun _ h_ => h_.1))))) (below_size (by repeat (first|(with_reducible first|exact HB.out|apply bA|apply bN|apply b1|refine bS ?_ GE219.out|refine bS ?_ GE224.out)|exact HB.out)))); have n5_ := Am (blk_below (g := gb202) (o := .cells #[.int .i64 a0_0, .slice A0_1 l0_1.length c0_1] 32 (0, 0)) (by refine blk_far ?_ NB202_224.out _; refine blk_far ?_ NB202_224.out _; exact BK202.out) hb); have n6_ := Am (blk_below (g := gb203) (o := .cells #[.int .i64 a1_0, .slice A1_1 l1_1.length c1_1] 32 (0, 0)) (by refine blk_far ?_ NB203_224.out _; refine blk_far ?_ NB203_224.out _; exact BK203.out) hb); have n7_ := Am (blk_below (g := gb219) (o := .cells #[.int .i64 t214, .slice Ao43 t215.length co43] 35 (0, 0)) (by refine blk_far ?_ NB219_224.out _; refine blk_far ?_ NB219_224.out _; exact BK219.out) hb); have n8_ := Am (blk_below (g := gb224) (o := .cells #[.int .i64 t220, .slice Ao53 t221.length co53] 35 (0, 0)) (by refine blk_put (cs := #[.int .i64 t220, .slice none 0 0]) ?_ 1 _ rfl; refine blk_put (cs := #[.int .i64 0, .slice none 0 0]) ?_ 0 _ rfl; exact BK224.out) hb); have n9_ := Am (below_step (by repeat (first|(with_reducible first|exact HB.out|apply bA|apply bN|apply b1|refine bS ?_ GE219.out|refine bS ?_ GE224.out)|exact HB.out)) hb); clear HO209; clear HO213; clear HO217; clear HO223; clear BK202; clear BK203; clear BK219; clear BK224; clear HB; have HO209 := n0_; have HO213 := n1_; have HO217 := n2_; have HO223 := n3_; have HO228 := n4_; have BK202 := n5_; have BK203 := n6_; have BK219 := n7_; have BK224 := n8_; have HB := n9_; clear n0_ n1_ n2_ n3_ n4_ n5_ n6_ n7_ n8_ n9_; (try clear hb); (try clear hk); (try clear ho0))|((with_reducible refine gate_dst (N := 11) rfl ?_); refine box_event ?hg (N := 11) ?hd (cs := #[.int .i64 0, .slice none 0 0]) (t := 35) ?hr ?_; (case hd => rfl); (case hg => rfl); (case hr => first|(go_simp; done)|(go_simp; rfl)); intro gb229 hg w57 hbox hb; have n0_ := Am (R_below HO209.out hb); have n1_ := Am (R_below HO213.out hb); have n2_ := Am (R_below HO217.out hb); have n3_ := Am (R_below HO223.out hb); have n4_ := Am (R_below HO228.out hb); have n5_ := Am (bb hb BK202.out); have n6_ := Am (bb hb BK203.out); have n7_ := Am (bb hb BK219.out); have n8_ := Am (bb hb BK224.out); have n9_ := Am (below_step (by repeat (first|(with_reducible first|exact HB.out|apply bA|apply bN|apply b1|refine bS ?_ GE219.out|refine bS ?_ GE224.out)|exact HB.out)) hb); have n10_ := Am (hbox); have n11_ := Am ((by rw [hg]; exact (below_size (by repeat (first|(with_reducible first|exact HB.out|apply bA|apply bN|apply b1|refine bS ?_ GE219.out|refine bS ?_ GE224.out)|exact HB.out))) : w.heap.size ≤ gb229)); have n12_ := Am ((by rw [hg]; exact (below_size (by repeat (first|(with_reducible first|exact HB.out|apply bA|apply bN|apply b1|refine bS ?_ GE219.out|refine bS ?_ GE224.out)|exact HB.out))) : w.heap.size ≤ gb229)); have n13_ := Am ((by rw [hg]; exact Nat.ne_of_lt (blk_lt BK202.out) : gb202 ≠ gb229)); have n14_ := Am ((by rw [hg]; exact Nat.ne_of_gt (blk_lt BK202.out) : gb229 ≠ gb202)); have n15_ := Am ((by rw [hg]; exact Nat.ne_of_lt (blk_lt BK203.out) : gb203 ≠ gb229)); have n16_ := Am ((by rw [hg]; exact Nat.ne_of_gt (blk_lt BK203.out) : gb229 ≠ gb203)); have n17_ := Am ((by rw [hg]; exact Nat.ne_of_lt (blk_lt BK219.out) : gb219 ≠ gb229)); have n18_ := Am ((by rw [hg]; exact Nat.ne_of_gt (blk_lt BK219.out) : gb229 ≠ gb219)); have n19_ := Am ((by rw [hg]; exact Nat.ne_of_lt (blk_lt BK224.out) : gb224 ≠ gb229)); have n20_ := Am ((by rw [hg]; exact Nat.ne_of_gt (blk_lt BK224.out) : gb229 ≠ gb224)); clear HO209; clear HO213; clear HO217; clear HO223; clear HO228; clear BK202; clear BK203; clear BK219; clear BK224; clear HB; have HO209 := n0_; have HO213 := n1_; have HO217 := n2_; have HO223 := n3_; have HO228 := n4_; have BK202 := n5_; have BK203 := n6_; have BK219 := n7_; have BK224 := n8_; have HB := n9_; have BK229 := n10_; have GW229 := n11_; have GE229 := n12_; have NB202_229 := n13_; have NB229_202 := n14_; have NB203_229 := n15_; have NB229_203 := n16_; have NB219_229 := n17_; have NB229_219 := n18_; have NB224_229 := n19_; have NB229_224 := n20_; clear n0_ n1_ n2_ n3_ n4_ n5_ n6_ n7_ n8_ n9_ n10_ n11_ n12_ n13_ n14_ n15_ n16_ n17_ n18_ n19_ n20_; clear hb hbox hg; have hnb58 := NB229_202.out; have hnc58 := NB202_229.out; have hnb59 := NB229_203.out; have hnc59 := NB203_229.out; have hnb60 := NB229_219.out; have hnc60 := NB219_229.out; have hnb61 := NB229_224.out; have hnc61 := NB224_229.out; have hcz62_0 : w57.cell? ⟨gb229, 0, none⟩ = some (.int .i64 0) := (blk_cell BK229.out 0).trans rfl; have hcz62_1 : w57.cell? ⟨gb229, 1, none⟩ = some (.slice none 0 0) := (blk_cell BK229.out 1).trans rfl; have hfz62_0 := blk_frozen BK229.out 0; have hfz62_1 := blk_frozen BK229.out 1; obtain ⟨Ao63, co63, eo63⟩ := R_slice HO228.out; subst eo63; have hcz64_0 : w57.cell? ⟨gb224, 0, none⟩ = some (.int .i64 t220) := (blk_cell BK224.out 0).trans rfl; have hcz64_1 : w57.cell? ⟨gb224, 1, none⟩ = some (.slice Ao53 t221.length co53) := (blk_cell BK224.out 1).trans rfl; have hfz64_0 := blk_frozen BK224.out 0; have hfz64_1 := blk_frozen BK224.out 1)|((with_reducible refine gate_callee (f := 36) rfl ?_); refine goesL_ (some 46) rfl rfl Try.func36 (by kernel_rfl) rfl #[.agg #[.int .i64 t220, .slice Ao53 t221.length co53], .agg #[.int .i64 t225, .slice Ao63 t226.length co63], .int .i64 a2] rfl (by (try simp only [map_toArray, map_cons, map_nil]); first | done | rfl|(simp only [List.length_drop, List.length_take]; rfl)) ?_; (with_reducible refine (impl_AddCyclos.calls k t220 _ _ t221 t225 _ _ t226 a2 t230 t231 t234 _ ?side1 ?side2 ?side3 ?side4 A25.out).mono ?_); (case side1 => refine (R_reads' (e := 2) (base := w.heap.size) (ok := fun k_ => ((((True ∧ some k_ ≠ (v208 : Value).ownBlock) ∧ some k_ ≠ (v212 : Value).ownBlock) ∧ some k_ ≠ (.slice Ao43 t215.length co43 : Value).ownBlock) ∧ some k_ ≠ (.slice Ao63 t226.length co63 : Value).ownBlock)) (n := t221.length) (c := co53) ?_).2.2; exact (by exact (R_mono (R_far (p := ⟨gb229, 1, none⟩) (R_far (p := ⟨gb229, 0, none⟩) (R_types HO223.out BK229.out (by decide)) (fun _ hk => hk.2) (.int .i64 t225)) (fun _ hk => hk.2) (.slice Ao63 t226.length co63)) (fun _ h_ => h_.1)))); (case side2 => exact (R_reads' HO223.out).2.1); (case side3 => refine (R_reads' (e := 2) (base := w.heap.size) (ok := fun k_ => ((((True ∧ some k_ ≠ (v208 : Value).ownBlock) ∧ some k_ ≠ (v212 : Value).ownBlock) ∧ some k_ ≠ (.slice Ao43 t215.length co43 : Value).ownBlock) ∧ some k_ ≠ (.slice Ao53 t221.length co53 : Value).ownBlock)) (n := t226.length) (c := co63) ?_).2.2; exact (by exact (R_mono (R_far (p := ⟨gb229, 1, none⟩) (R_far (p := ⟨gb229, 0, none⟩) (R_types HO228.out BK229.out (by decide)) (fun _ hk => hk.2) (.int .i64 t225)) (fun _ hk => hk.2) (.slice Ao63 t226.length co63)) (fun _ h_ => h_.1)))); (case side4 => exact (R_reads' HO228.out).2.1); rintro e w65 ⟨v232, rfl, ho0, hb⟩; refine ⟨_, rfl, ?_⟩; have n0_ := Am (R_elder' (by exact (R_mono (R_far (p := ⟨gb229, 1, none⟩) (R_far (p := ⟨gb229, 0, none⟩) (R_types HO209.out BK229.out (by decide)) (fun _ hk => hk.2) (.int .i64 t225)) (fun _ hk => hk.2) (.slice Ao63 t226.length co63)) (fun _ h_ => h_.1))) (R_base ho0) hb); have n1_ := Am (R_elder' (by exact (R_mono (R_far (p := ⟨gb229, 1, none⟩) (R_far (p := ⟨gb229, 0, none⟩) (R_types HO213.out BK229.out (by decide)) (fun _ hk => hk.2) (.int .i64 t225)) (fun _ hk => hk.2) (.slice Ao63 t226.length co63)) (fun _ h_ => h_.1))) (R_base ho0) hb); have n2_ := Am (R_elder' (by exact (R_mono (R_far (p := ⟨gb229, 1, none⟩) (R_far (p := ⟨gb229, 0, none⟩) (R_types HO217.out BK229.out (by decide)) (fun _ hk => hk.2) (.int .i64 t225)) (fun _ hk => hk.2) (.slice Ao63 t226.length co63)) (fun _ h_ => h_.1))) (R_base ho0) hb); have n3_ := Am (R_elder' (by exact (R_mono (R_far (p := ⟨gb229, 1, none⟩) (R_far (p := ⟨gb229, 0, none⟩) (R_types HO223.out BK229.out (by decide)) (fun _ hk => hk.2) (.int .i64 t225)) (fun _ hk => hk.2) (.slice Ao63 t226.length co63)) (fun _ h_ => h_.1))) (R_base ho0) hb); have n4_ := Am (R_elder' (by exact (R_mono (R_far (p := ⟨gb229, 1, none⟩) (R_far (p := ⟨gb229, 0, none⟩) (R_types HO228.out BK229.out (by decide)) (fun _ hk => hk.2) (.int .i64 t225)) (fun _ hk => hk.2) (.slice Ao63 t226.length co63)) (fun _ h_ => h_.1))) (R_base ho0) hb); have n5_ := Am (R_lower (R_new' (R_new' (R_new' (R_new' (R_new' ho0 (R_lt (by exact (R_mono (R_far (p := ⟨gb229, 1, none⟩) (R_far (p := ⟨gb229, 0, none⟩) (R_types HO209.out BK229.out (by decide)) (fun _ hk => hk.2) (.int .i64 t225)) (fun _ hk => hk.2) (.slice Ao63 t226.length co63)) (fun _ h_ => h_.1))))) (R_lt (by exact (R_mono (R_far (p := ⟨gb229, 1, none⟩) (R_far (p := ⟨gb229, 0, none⟩) (R_types HO213.out BK229.out (by decide)) (fun _ hk => hk.2) (.int .i64 t225)) (fun _ hk => hk.2) (.slice Ao63 t226.length co63)) (fun _ h_ => h_.1))))) (R_lt (by exact (R_mono (R_far (p := ⟨gb229, 1, none⟩) (R_far (p := ⟨gb229, 0, none⟩) (R_types HO217.out BK229.out (by decide)) (fun _ hk => hk.2) (.int .i64 t225)) (fun _ hk => hk.2) (.slice Ao63 t226.length co63)) (fun _ h_ => h_.1))))) (R_lt (by exact (R_mono (R_far (p := ⟨gb229, 1, none⟩) (R_far (p := ⟨gb229, 0, none⟩) (R_types HO223.out BK229.out (by decide)) (fun _ hk => hk.2) (.int .i64 t225)) (fun _ hk => hk.2) (.slice Ao63 t226.length co63)) (fun _ h_ => h_.1))))) (R_lt (by exact (R_mono (R_far (p := ⟨gb229, 1, none⟩) (R_far (p := ⟨gb229, 0, none⟩) (R_types HO228.out BK229.out (by decide)) (fun _ hk => hk.2) (.int .i64 t225)) (fun _ hk => hk.2) (.slice Ao63 t226.length co63)) (fun _ h_ => h_.1))))) (below_size (by repeat (first|(with_reducible first|exact HB.out|apply bA|apply bN|apply b1|refine bS ?_ GE219.out|refine bS ?_ GE224.out|refine bS ?_ GE229.out)|exact HB.out)))); have n6_ := Am (blk_below (g := gb202) (o := .cells #[.int .i64 a0_0, .slice A0_1 l0_1.length c0_1] 32 (0, 0)) (by refine blk_far ?_ NB202_229.out _; refine blk_far ?_ NB202_229.out _; exact BK202.out) hb); have n7_ := Am (blk_below (g := gb203) (o := .cells #[.int .i64 a1_0, .slice A1_1 l1_1.length c1_1] 32 (0, 0)) (by refine blk_far ?_ NB203_229.out _; refine blk_far ?_ NB203_229.out _; exact BK203.out) hb); have n8_ := Am (blk_below (g := gb219) (o := .cells #[.int .i64 t214, .slice Ao43 t215.length co43] 35 (0, 0)) (by refine blk_far ?_ NB219_229.out _; refine blk_far ?_ NB219_229.out _; exact BK219.out) hb); have n9_ := Am (blk_below (g := gb224) (o := .cells #[.int .i64 t220, .slice Ao53 t221.length co53] 35 (0, 0)) (by refine blk_far ?_ NB224_229.out _; refine blk_far ?_ NB224_229.out _; exact BK224.out) hb); have n10_ := Am (blk_below (g := gb229) (o := .cells #[.int .i64 t225, .slice Ao63 t226.length co63] 35 (0, 0)) (by refine blk_put (cs := #[.int .i64 t225, .slice none 0 0]) ?_ 1 _ rfl; refine blk_put (cs := #[.int .i64 0, .slice none 0 0]) ?_ 0 _ rfl; exact BK229.out) hb); have n11_ := Am (below_step (by repeat (first|(with_reducible first|exact HB.out|apply bA|apply bN|apply b1|refine bS ?_ GE219.out|refine bS ?_ GE224.out|refine bS ?_ GE229.out)|exact HB.out)) hb); clear HO209; clear HO213; clear HO217; clear HO223; clear HO228; clear BK202; clear BK203; clear BK219; clear BK224; clear BK229; clear HB; have HO209 := n0_; have HO213 := n1_; have HO217 := n2_; have HO223 := n3_; have HO228 := n4_; have HO233 := n5_; have BK202 := n6_; have BK203 := n7_; have BK219 := n8_; have BK224 := n9_; have BK229 := n10_; have HB := n11_; clear n0_ n1_ n2_ n3_ n4_ n5_ n6_ n7_ n8_ n9_ n10_ n11_; (try clear hb); (try clear hk); (try clear ho0))|((with_reducible refine gate_dst (N := 12) rfl ?_); refine box_event ?hg (N := 12) ?hd (cs := #[.int .i64 0, .slice none 0 0]) (t := 35) ?hr ?_; (case hd => rfl); (case hg => rfl); (case hr => first|(go_simp; done)|(go_simp; rfl)); intro gb235 hg w66 hbox hb; have n0_ := Am (R_below HO209.out hb); have n1_ := Am (R_below HO213.out hb); have n2_ := Am (R_below HO217.out hb); have n3_ := Am (R_below HO223.out hb); have n4_ := Am (R_below HO228.out hb); have n5_ := Am (R_below HO233.out hb); have n6_ := Am (bb hb BK202.out); have n7_ := Am (bb hb BK203.out); have n8_ := Am (bb hb BK219.out); have n9_ := Am (bb hb BK224.out); have n10_ := Am (bb hb BK229.out); have n11_ := Am (below_step (by repeat (first|(with_reducible first|exact HB.out|apply bA|apply bN|apply b1|refine bS ?_ GE219.out|refine bS ?_ GE224.out|refine bS ?_ GE229.out)|exact HB.out)) hb); have n12_ := Am (hbox); have n13_ := Am ((by rw [hg]; exact (below_size (by repeat (first|(with_reducible first|exact HB.out|apply bA|apply bN|apply b1|refine bS ?_ GE219.out|refine bS ?_ GE224.out|refine bS ?_ GE229.out)|exact HB.out))) : w.heap.size ≤ gb235)); have n14_ := Am ((by rw [hg]; exact (below_size (by repeat (first|(with_reducible first|exact HB.out|apply bA|apply bN|apply b1|refine bS ?_ GE219.out|refine bS ?_ GE224.out|refine bS ?_ GE229.out)|exact HB.out))) : w.heap.size ≤ gb235)); have n15_ := Am ((by rw [hg]; exact Nat.ne_of_lt (blk_lt BK202.out) : gb202 ≠ gb235)); have n16_ := Am ((by rw [hg]; exact Nat.ne_of_gt (blk_lt BK202.out) : gb235 ≠ gb202)); have n17_ := Am ((by rw [hg]; exact Nat.ne_of_lt (blk_lt BK203.out) : gb203 ≠ gb235)); have n18_ := Am ((by rw [hg]; exact Nat.ne_of_gt (blk_lt BK203.out) : gb235 ≠ gb203)); have n19_ := Am ((by rw [hg]; exact Nat.ne_of_lt (blk_lt BK219.out) : gb219 ≠ gb235)); have n20_ := Am ((by rw [hg]; exact Nat.ne_of_gt (blk_lt BK219.out) : gb235 ≠ gb219)); have n21_ := Am ((by rw [hg]; exact Nat.ne_of_lt (blk_lt BK224.out) : gb224 ≠ gb235)); have n22_ := Am ((by rw [hg]; exact Nat.ne_of_gt (blk_lt BK224.out) : gb235 ≠ gb224)); have n23_ := Am ((by rw [hg]; exact Nat.ne_of_lt (blk_lt BK229.out) : gb229 ≠ gb235)); have n24_ := Am ((by rw [hg]; exact Nat.ne_of_gt (blk_lt BK229.out) : gb235 ≠ gb229)); clear HO209; clear HO213; clear HO217; clear HO223; clear HO228; clear HO233; clear BK202; clear BK203; clear BK219; clear BK224; clear BK229; clear HB; have HO209 := n0_; have HO213 := n1_; have HO217 := n2_; have HO223 := n3_; have HO228 := n4_; have HO233 := n5_; have BK202 := n6_; have BK203 := n7_; have BK219 := n8_; have BK224 := n9_; have BK229 := n10_; have HB := n11_; have BK235 := n12_; have GW235 := n13_; have GE235 := n14_; have NB202_235 := n15_; have NB235_202 := n16_; have NB203_235 := n17_; have NB235_203 := n18_; have NB219_235 := n19_; have NB235_219 := n20_; have NB224_235 := n21_; have NB235_224 := n22_; have NB229_235 := n23_; have NB235_229 := n24_; clear n0_ n1_ n2_ n3_ n4_ n5_ n6_ n7_ n8_ n9_ n10_ n11_ n12_ n13_ n14_ n15_ n16_ n17_ n18_ n19_ n20_ n21_ n22_ n23_ n24_; clear hb hbox hg; have hnb67 := NB235_202.out; have hnc67 := NB202_235.out; have hnb68 := NB235_203.out; have hnc68 := NB203_235.out; have hnb69 := NB235_219.out; have hnc69 := NB219_235.out; have hnb70 := NB235_224.out; have hnc70 := NB224_235.out; have hnb71 := NB235_229.out; have hnc71 := NB229_235.out; have hcz72_0 : w66.cell? ⟨gb235, 0, none⟩ = some (.int .i64 0) := (blk_cell BK235.out 0).trans rfl; have hcz72_1 : w66.cell? ⟨gb235, 1, none⟩ = some (.slice none 0 0) := (blk_cell BK235.out 1).trans rfl; have hfz72_0 := blk_frozen BK235.out 0; have hfz72_1 := blk_frozen BK235.out 1; obtain ⟨Ao73, co73, eo73⟩ := R_slice HO233.out; subst eo73))
   (try simp only [Act.put, setIfInBounds_toArray, set_cons_zero, set_cons_succ])
   go_cut [57] (fun v57 wc => ∃ (kq : Nat) (x57_25 : Bool), v57 = .bool x57_25 ∧ Aside0 (j0 kq a2 t218 t234 x57_25 a0_0 l0_1 a1_0 l1_1 t214 t215 t220 t221 t225 t226 t230 t231 = some r) ∧ Aside0 (kq ≤ k) ∧ Aside0 (Kd.R (Kd.int .i64) 2 wc w.heap.size (fun k_ => some k_ ≠ ((.slice Ao53 t221.length co53) : Value).ownBlock ∧ some k_ ≠ ((.slice Ao63 t226.length co63) : Value).ownBlock ∧ some k_ ≠ ((.slice Ao73 t231.length co73) : Value).ownBlock) (.slice Ao43 t215.length co43) t215) ∧ Aside0 (Kd.R (Kd.int .i64) 2 wc w.heap.size (fun k_ => some k_ ≠ ((.slice Ao43 t215.length co43) : Value).ownBlock ∧ some k_ ≠ ((.slice Ao63 t226.length co63) : Value).ownBlock ∧ some k_ ≠ ((.slice Ao73 t231.length co73) : Value).ownBlock) (.slice Ao53 t221.length co53) t221) ∧ Aside0 (Kd.R (Kd.int .i64) 2 wc w.heap.size (fun k_ => some k_ ≠ ((.slice Ao43 t215.length co43) : Value).ownBlock ∧ some k_ ≠ ((.slice Ao53 t221.length co53) : Value).ownBlock ∧ some k_ ≠ ((.slice Ao73 t231.length co73) : Value).ownBlock) (.slice Ao63 t226.length co63) t226) ∧ Aside0 (Kd.R (Kd.int .i64) 2 wc w.heap.size (fun k_ => some k_ ≠ ((.slice Ao43 t215.length co43) : Value).ownBlock ∧ some k_ ≠ ((.slice Ao53 t221.length co53) : Value).ownBlock ∧ some k_ ≠ ((.slice Ao63 t226.length co63) : Value).ownBlock) (.slice Ao73 t231.length co73) t231) ∧ Aside0 (wc.heap[gb202]? = some (.cells #[.int .i64 a0_0, (.slice A0_1 l0_1.length c0_1)] 32 (0, 0))) ∧ Aside0 (wc.heap[gb203]? = some (.cells #[.int .i64 a1_0, (.slice A1_1 l1_1.length c1_1)] 32 (0, 0))) ∧ Aside0 (wc.heap[gb219]? = some (.cells #[.int .i64 t214, (.slice Ao43 t215.length co43)] 35 (0, 0))) ∧ Aside0 (wc.heap[gb224]? = some (.cells #[.int .i64 t220, (.slice Ao53 t221.length co53)] 35 (0, 0))) ∧ Aside0 (wc.heap[gb229]? = some (.cells #[.int .i64 t225, (.slice Ao63 t226.length co63)] 35 (0, 0))) ∧ Aside0 (wc.heap[gb235]? = some (.cells #[.int .i64 t230, (.slice Ao73 t231.length co73)] 35 (0, 0))) ∧ Aside0 (Below w.heap.size w wc))
   case first =>
    have H := HC26.out
    clear HC26
    replace H := Option.bind_eq_some_iff.mp H
    obtain ⟨t236, A740, H⟩ := H
    replace H : (if t236 = true then (j0 k a2 t218 t234 (t234 != t218) a0_0 l0_1 a1_0 l1_1 t214 t215 t220 t221 t225 t226 t230 t231) else (j0 k a2 t218 t234 true a0_0 l0_1 a1_0 l1_1 t214 t215 t220 t221 t225 t226 t230 t231)) = some r := H
    have A74 := Am A740
    clear A740
    by_cases c75 : t236 = true
    ·subst c75
     have H1 : (j0 k a2 t218 t234 (t234 != t218) a0_0 l0_1 a1_0 l1_1 t214 t215 t220 t221 t225 t226 t230 t231) = some r := by rw [if_pos rfl] at H; exact H
     clear H
     have H := H1
     clear H1
     have H' := Am H
     clear H
     have hnb76 := NB235_202.out
     have hnc76 := NB202_235.out
     have hnb77 := NB235_203.out
     have hnc77 := NB203_235.out
     have hnb78 := NB235_219.out
     have hnc78 := NB219_235.out
     have hnb79 := NB235_224.out
     have hnc79 := NB224_235.out
     have hnb80 := NB235_229.out
     have hnc80 := NB229_235.out
     have hcz81_0 : w66.cell? ⟨gb235, 0, none⟩ = some (.int .i64 0) := (blk_cell BK235.out 0).trans rfl
     have hcz81_1 : w66.cell? ⟨gb235, 1, none⟩ = some (.slice none 0 0) := (blk_cell BK235.out 1).trans rfl
     have hfz81_0 := blk_frozen BK235.out 0
     have hfz81_1 := blk_frozen BK235.out 1
     have hnb82 := NB219_202.out
     have hnc82 := NB202_219.out
     have hnb83 := NB219_203.out
     have hnc83 := NB203_219.out
     have hnb84 := NB219_224.out
     have hnc84 := NB224_219.out
     have hnb85 := NB219_229.out
     have hnc85 := NB229_219.out
     have hcz86_0 : w66.cell? ⟨gb219, 0, none⟩ = some (.int .i64 t214) := (blk_cell BK219.out 0).trans rfl
     have hcz86_1 : w66.cell? ⟨gb219, 1, none⟩ = some (.slice Ao43 t215.length co43) := (blk_cell BK219.out 1).trans rfl
     have hfz86_0 := blk_frozen BK219.out 0
     have hfz86_1 := blk_frozen BK219.out 1
     go_wp2_with (first|((with_reducible refine gate_callee (f := 26) rfl ?_); refine goesL_ (some 51) rfl rfl Try.func26 (by kernel_rfl) rfl #[.agg #[.int .i64 t230, .slice Ao73 t231.length co73], .agg #[.int .i64 t214, .slice Ao43 t215.length co43]] rfl (by (try simp only [map_toArray, map_cons, map_nil]); first | done | rfl|(simp only [List.length_drop, List.length_take]; rfl)) ?_; (with_reducible refine (laws_eqCyclo.calls k t230 _ _ t231 t214 _ _ t215 true _ ?side1 ?side2 ?side3 ?side4 A74.out).mono ?_); (case side1 => refine (R_reads' (e := 2) (base := w.heap.size) (ok := fun k_ => (((((True ∧ some k_ ≠ (v208 : Value).ownBlock) ∧ some k_ ≠ (v212 : Value).ownBlock) ∧ some k_ ≠ (.slice Ao43 t215.length co43 : Value).ownBlock) ∧ some k_ ≠ (.slice Ao53 t221.length co53 : Value).ownBlock) ∧ some k_ ≠ (.slice Ao63 t226.length co63 : Value).ownBlock)) (n := t231.length) (c := co73) ?_).2.2; exact (by exact (R_mono (R_far (p := ⟨gb235, 1, none⟩) (R_far (p := ⟨gb235, 0, none⟩) (R_types HO233.out BK235.out (by decide)) (fun _ hk => hk.2) (.int .i64 t230)) (fun _ hk => hk.2) (.slice Ao73 t231.length co73)) (fun _ h_ => h_.1)))); (case side2 => exact (R_reads' HO233.out).2.1); (case side3 => refine (R_reads' (e := 2) (base := w.heap.size) (ok := fun k_ => ((((some k_ ≠ (v208 : Value).ownBlock ∧ some k_ ≠ (v212 : Value).ownBlock) ∧ some k_ ≠ (.slice Ao53 t221.length co53 : Value).ownBlock) ∧ some k_ ≠ (.slice Ao63 t226.length co63 : Value).ownBlock) ∧ some k_ ≠ (.slice Ao73 t231.length co73 : Value).ownBlock)) (n := t215.length) (c := co43) ?_).2.2; exact (by exact (R_mono (R_far (p := ⟨gb235, 1, none⟩) (R_far (p := ⟨gb235, 0, none⟩) (R_types HO217.out BK235.out (by decide)) (fun _ hk => hk.2) (.int .i64 t230)) (fun _ hk => hk.2) (.slice Ao73 t231.length co73)) (fun _ h_ => h_.1)))); (case side4 => exact (R_reads' HO217.out).2.1); rintro e w87 ⟨rfl, hb⟩; refine ⟨_, rfl, ?_⟩; have n0_ := Am (R_below (by exact (R_mono (R_far (p := ⟨gb235, 1, none⟩) (R_far (p := ⟨gb235, 0, none⟩) (R_types HO209.out BK235.out (by decide)) (fun _ hk => hk.2) (.int .i64 t230)) (fun _ hk => hk.2) (.slice Ao73 t231.length co73)) (fun _ h_ => h_.1))) hb); have n1_ := Am (R_below (by exact (R_mono (R_far (p := ⟨gb235, 1, none⟩) (R_far (p := ⟨gb235, 0, none⟩) (R_types HO213.out BK235.out (by decide)) (fun _ hk => hk.2) (.int .i64 t230)) (fun _ hk => hk.2) (.slice Ao73 t231.length co73)) (fun _ h_ => h_.1))) hb); have n2_ := Am (R_below (by exact (R_mono (R_far (p := ⟨gb235, 1, none⟩) (R_far (p := ⟨gb235, 0, none⟩) (R_types HO217.out BK235.out (by decide)) (fun _ hk => hk.2) (.int .i64 t230)) (fun _ hk => hk.2) (.slice Ao73 t231.length co73)) (fun _ h_ => h_.1))) hb); have n3_ := Am (R_below (by exact (R_mono (R_far (p := ⟨gb235, 1, none⟩) (R_far (p := ⟨gb235, 0, none⟩) (R_types HO223.out BK235.out (by decide)) (fun _ hk => hk.2) (.int .i64 t230)) (fun _ hk => hk.2) (.slice Ao73 t231.length co73)) (fun _ h_ => h_.1))) hb); have n4_ := Am (R_below (by exact (R_mono (R_far (p := ⟨gb235, 1, none⟩) (R_far (p := ⟨gb235, 0, none⟩) (R_types HO228.out BK235.out (by decide)) (fun _ hk => hk.2) (.int .i64 t230)) (fun _ hk => hk.2) (.slice Ao73 t231.length co73)) (fun _ h_ => h_.1))) hb); have n5_ := Am (R_below (by exact (R_mono (R_far (p := ⟨gb235, 1, none⟩) (R_far (p := ⟨gb235, 0, none⟩) (R_types HO233.out BK235.out (by decide)) (fun _ hk => hk.2) (.int .i64 t230)) (fun _ hk => hk.2) (.slice Ao73 t231.length co73)) (fun _ h_ => h_.1))) hb); have n6_ := Am (blk_below (g := gb202) (o := .cells #[.int .i64 a0_0, .slice A0_1 l0_1.length c0_1] 32 (0, 0)) (by refine blk_far ?_ NB202_235.out _; refine blk_far ?_ NB202_235.out _; exact BK202.out) hb); have n7_ := Am (blk_below (g := gb203) (o := .cells #[.int .i64 a1_0, .slice A1_1 l1_1.length c1_1] 32 (0, 0)) (by refine blk_far ?_ NB203_235.out _; refine blk_far ?_ NB203_235.out _; exact BK203.out) hb); have n8_ := Am (blk_below (g := gb219) (o := .cells #[.int .i64 t214, .slice Ao43 t215.length co43] 35 (0, 0)) (by refine blk_far ?_ NB219_235.out _; refine blk_far ?_ NB219_235.out _; exact BK219.out) hb); have n9_ := Am (blk_below (g := gb224) (o := .cells #[.int .i64 t220, .slice Ao53 t221.length co53] 35 (0, 0)) (by refine blk_far ?_ NB224_235.out _; refine blk_far ?_ NB224_235.out _; exact BK224.out) hb); have n10_ := Am (blk_below (g := gb229) (o := .cells #[.int .i64 t225, .slice Ao63 t226.length co63] 35 (0, 0)) (by refine blk_far ?_ NB229_235.out _; refine blk_far ?_ NB229_235.out _; exact BK229.out) hb); have n11_ := Am (blk_below (g := gb235) (o := .cells #[.int .i64 t230, .slice Ao73 t231.length co73] 35 (0, 0)) (by refine blk_put (cs := #[.int .i64 t230, .slice none 0 0]) ?_ 1 _ rfl; refine blk_put (cs := #[.int .i64 0, .slice none 0 0]) ?_ 0 _ rfl; exact BK235.out) hb); have n12_ := Am (below_step (by repeat (first|(with_reducible first|exact HB.out|apply bA|apply bN|apply b1|refine bS ?_ GE219.out|refine bS ?_ GE224.out|refine bS ?_ GE229.out|refine bS ?_ GE235.out)|exact HB.out)) hb); clear HO209; clear HO213; clear HO217; clear HO223; clear HO228; clear HO233; clear BK202; clear BK203; clear BK219; clear BK224; clear BK229; clear BK235; clear HB; have HO209 := n0_; have HO213 := n1_; have HO217 := n2_; have HO223 := n3_; have HO228 := n4_; have HO233 := n5_; have BK202 := n6_; have BK203 := n7_; have BK219 := n8_; have BK224 := n9_; have BK229 := n10_; have BK235 := n11_; have HB := n12_; clear n0_ n1_ n2_ n3_ n4_ n5_ n6_ n7_ n8_ n9_ n10_ n11_ n12_; (try clear hb); (try clear hk)))
     go_meet
     case rel => exact ⟨_, ((t234 != t218)), (by first | rfl|(simp; done)|(simp [*]; done)), H', ⟨by first|omega|exact Nat.le_refl _⟩, ⟨by exact R_mono HO217.out (fun _ hk => ⟨hk.1.1.2, ⟨hk.1.2, hk.2⟩⟩)⟩, ⟨by exact R_mono HO223.out (fun _ hk => ⟨hk.1.1.2, ⟨hk.1.2, hk.2⟩⟩)⟩, ⟨by exact R_mono HO228.out (fun _ hk => ⟨hk.1.1.2, ⟨hk.1.2, hk.2⟩⟩)⟩, ⟨by exact R_mono HO233.out (fun _ hk => ⟨hk.1.1.2, ⟨hk.1.2, hk.2⟩⟩)⟩, ⟨BK202.out⟩, ⟨BK203.out⟩, ⟨BK219.out⟩, ⟨BK224.out⟩, ⟨BK229.out⟩, ⟨BK235.out⟩, ⟨by repeat (first|(with_reducible first|exact HB.out|apply bA|apply bN|apply b1|refine bS ?_ GE219.out|refine bS ?_ GE224.out|refine bS ?_ GE229.out|refine bS ?_ GE235.out)|exact HB.out)⟩⟩
    ·replace c75 := Bool.eq_false_iff.mpr c75
     subst c75
     have H1 : (j0 k a2 t218 t234 true a0_0 l0_1 a1_0 l1_1 t214 t215 t220 t221 t225 t226 t230 t231) = some r := by rw [if_neg (show ¬ (false = true) by decide)] at H; exact H
     clear H
     have H := H1
     clear H1
     have H' := Am H
     clear H
     have hnb88 := NB235_202.out
     have hnc88 := NB202_235.out
     have hnb89 := NB235_203.out
     have hnc89 := NB203_235.out
     have hnb90 := NB235_219.out
     have hnc90 := NB219_235.out
     have hnb91 := NB235_224.out
     have hnc91 := NB224_235.out
     have hnb92 := NB235_229.out
     have hnc92 := NB229_235.out
     have hcz93_0 : w66.cell? ⟨gb235, 0, none⟩ = some (.int .i64 0) := (blk_cell BK235.out 0).trans rfl
     have hcz93_1 : w66.cell? ⟨gb235, 1, none⟩ = some (.slice none 0 0) := (blk_cell BK235.out 1).trans rfl
     have hfz93_0 := blk_frozen BK235.out 0
     have hfz93_1 := blk_frozen BK235.out 1
     have hnb94 := NB219_202.out
     have hnc94 := NB202_219.out
     have hnb95 := NB219_203.out
     have hnc95 := NB203_219.out
     have hnb96 := NB219_224.out
     have hnc96 := NB224_219.out
     have hnb97 := NB219_229.out
     have hnc97 := NB229_219.out
     have hcz98_0 : w66.cell? ⟨gb219, 0, none⟩ = some (.int .i64 t214) := (blk_cell BK219.out 0).trans rfl
     have hcz98_1 : w66.cell? ⟨gb219, 1, none⟩ = some (.slice Ao43 t215.length co43) := (blk_cell BK219.out 1).trans rfl
     have hfz98_0 := blk_frozen BK219.out 0
     have hfz98_1 := blk_frozen BK219.out 1
     go_wp2_with (first|((with_reducible refine gate_callee (f := 26) rfl ?_); refine goesL_ (some 51) rfl rfl Try.func26 (by kernel_rfl) rfl #[.agg #[.int .i64 t230, .slice Ao73 t231.length co73], .agg #[.int .i64 t214, .slice Ao43 t215.length co43]] rfl (by (try simp only [map_toArray, map_cons, map_nil]); first | done | rfl|(simp only [List.length_drop, List.length_take]; rfl)) ?_; (with_reducible refine (laws_eqCyclo.calls k t230 _ _ t231 t214 _ _ t215 false _ ?side1 ?side2 ?side3 ?side4 A74.out).mono ?_); (case side1 => refine (R_reads' (e := 2) (base := w.heap.size) (ok := fun k_ => (((((True ∧ some k_ ≠ (v208 : Value).ownBlock) ∧ some k_ ≠ (v212 : Value).ownBlock) ∧ some k_ ≠ (.slice Ao43 t215.length co43 : Value).ownBlock) ∧ some k_ ≠ (.slice Ao53 t221.length co53 : Value).ownBlock) ∧ some k_ ≠ (.slice Ao63 t226.length co63 : Value).ownBlock)) (n := t231.length) (c := co73) ?_).2.2; exact (by exact (R_mono (R_far (p := ⟨gb235, 1, none⟩) (R_far (p := ⟨gb235, 0, none⟩) (R_types HO233.out BK235.out (by decide)) (fun _ hk => hk.2) (.int .i64 t230)) (fun _ hk => hk.2) (.slice Ao73 t231.length co73)) (fun _ h_ => h_.1)))); (case side2 => exact (R_reads' HO233.out).2.1); (case side3 => refine (R_reads' (e := 2) (base := w.heap.size) (ok := fun k_ => ((((some k_ ≠ (v208 : Value).ownBlock ∧ some k_ ≠ (v212 : Value).ownBlock) ∧ some k_ ≠ (.slice Ao53 t221.length co53 : Value).ownBlock) ∧ some k_ ≠ (.slice Ao63 t226.length co63 : Value).ownBlock) ∧ some k_ ≠ (.slice Ao73 t231.length co73 : Value).ownBlock)) (n := t215.length) (c := co43) ?_).2.2; exact (by exact (R_mono (R_far (p := ⟨gb235, 1, none⟩) (R_far (p := ⟨gb235, 0, none⟩) (R_types HO217.out BK235.out (by decide)) (fun _ hk => hk.2) (.int .i64 t230)) (fun _ hk => hk.2) (.slice Ao73 t231.length co73)) (fun _ h_ => h_.1)))); (case side4 => exact (R_reads' HO217.out).2.1); rintro e w99 ⟨rfl, hb⟩; refine ⟨_, rfl, ?_⟩; have n0_ := Am (R_below (by exact (R_mono (R_far (p := ⟨gb235, 1, none⟩) (R_far (p := ⟨gb235, 0, none⟩) (R_types HO209.out BK235.out (by decide)) (fun _ hk => hk.2) (.int .i64 t230)) (fun _ hk => hk.2) (.slice Ao73 t231.length co73)) (fun _ h_ => h_.1))) hb); have n1_ := Am (R_below (by exact (R_mono (R_far (p := ⟨gb235, 1, none⟩) (R_far (p := ⟨gb235, 0, none⟩) (R_types HO213.out BK235.out (by decide)) (fun _ hk => hk.2) (.int .i64 t230)) (fun _ hk => hk.2) (.slice Ao73 t231.length co73)) (fun _ h_ => h_.1))) hb); have n2_ := Am (R_below (by exact (R_mono (R_far (p := ⟨gb235, 1, none⟩) (R_far (p := ⟨gb235, 0, none⟩) (R_types HO217.out BK235.out (by decide)) (fun _ hk => hk.2) (.int .i64 t230)) (fun _ hk => hk.2) (.slice Ao73 t231.length co73)) (fun _ h_ => h_.1))) hb); have n3_ := Am (R_below (by exact (R_mono (R_far (p := ⟨gb235, 1, none⟩) (R_far (p := ⟨gb235, 0, none⟩) (R_types HO223.out BK235.out (by decide)) (fun _ hk => hk.2) (.int .i64 t230)) (fun _ hk => hk.2) (.slice Ao73 t231.length co73)) (fun _ h_ => h_.1))) hb); have n4_ := Am (R_below (by exact (R_mono (R_far (p := ⟨gb235, 1, none⟩) (R_far (p := ⟨gb235, 0, none⟩) (R_types HO228.out BK235.out (by decide)) (fun _ hk => hk.2) (.int .i64 t230)) (fun _ hk => hk.2) (.slice Ao73 t231.length co73)) (fun _ h_ => h_.1))) hb); have n5_ := Am (R_below (by exact (R_mono (R_far (p := ⟨gb235, 1, none⟩) (R_far (p := ⟨gb235, 0, none⟩) (R_types HO233.out BK235.out (by decide)) (fun _ hk => hk.2) (.int .i64 t230)) (fun _ hk => hk.2) (.slice Ao73 t231.length co73)) (fun _ h_ => h_.1))) hb); have n6_ := Am (blk_below (g := gb202) (o := .cells #[.int .i64 a0_0, .slice A0_1 l0_1.length c0_1] 32 (0, 0)) (by refine blk_far ?_ NB202_235.out _; refine blk_far ?_ NB202_235.out _; exact BK202.out) hb); have n7_ := Am (blk_below (g := gb203) (o := .cells #[.int .i64 a1_0, .slice A1_1 l1_1.length c1_1] 32 (0, 0)) (by refine blk_far ?_ NB203_235.out _; refine blk_far ?_ NB203_235.out _; exact BK203.out) hb); have n8_ := Am (blk_below (g := gb219) (o := .cells #[.int .i64 t214, .slice Ao43 t215.length co43] 35 (0, 0)) (by refine blk_far ?_ NB219_235.out _; refine blk_far ?_ NB219_235.out _; exact BK219.out) hb); have n9_ := Am (blk_below (g := gb224) (o := .cells #[.int .i64 t220, .slice Ao53 t221.length co53] 35 (0, 0)) (by refine blk_far ?_ NB224_235.out _; refine blk_far ?_ NB224_235.out _; exact BK224.out) hb); have n10_ := Am (blk_below (g := gb229) (o := .cells #[.int .i64 t225, .slice Ao63 t226.length co63] 35 (0, 0)) (by refine blk_far ?_ NB229_235.out _; refine blk_far ?_ NB229_235.out _; exact BK229.out) hb); have n11_ := Am (blk_below (g := gb235) (o := .cells #[.int .i64 t230, .slice Ao73 t231.length co73] 35 (0, 0)) (by refine blk_put (cs := #[.int .i64 t230, .slice none 0 0]) ?_ 1 _ rfl; refine blk_put (cs := #[.int .i64 0, .slice none 0 0]) ?_ 0 _ rfl; exact BK235.out) hb); have n12_ := Am (below_step (by repeat (first|(with_reducible first|exact HB.out|apply bA|apply bN|apply b1|refine bS ?_ GE219.out|refine bS ?_ GE224.out|refine bS ?_ GE229.out|refine bS ?_ GE235.out)|exact HB.out)) hb); clear HO209; clear HO213; clear HO217; clear HO223; clear HO228; clear HO233; clear BK202; clear BK203; clear BK219; clear BK224; clear BK229; clear BK235; clear HB; have HO209 := n0_; have HO213 := n1_; have HO217 := n2_; have HO223 := n3_; have HO228 := n4_; have HO233 := n5_; have BK202 := n6_; have BK203 := n7_; have BK219 := n8_; have BK224 := n9_; have BK229 := n10_; have BK235 := n11_; have HB := n12_; clear n0_ n1_ n2_ n3_ n4_ n5_ n6_ n7_ n8_ n9_ n10_ n11_ n12_; (try clear hb); (try clear hk)))
     go_meet
     case rel => exact ⟨_, (true), (by first | rfl|(simp; done)|(simp [*]; done)), H', ⟨by first|omega|exact Nat.le_refl _⟩, ⟨by exact R_mono HO217.out (fun _ hk => ⟨hk.1.1.2, ⟨hk.1.2, hk.2⟩⟩)⟩, ⟨by exact R_mono HO223.out (fun _ hk => ⟨hk.1.1.2, ⟨hk.1.2, hk.2⟩⟩)⟩, ⟨by exact R_mono HO228.out (fun _ hk => ⟨hk.1.1.2, ⟨hk.1.2, hk.2⟩⟩)⟩, ⟨by exact R_mono HO233.out (fun _ hk => ⟨hk.1.1.2, ⟨hk.1.2, hk.2⟩⟩)⟩, ⟨BK202.out⟩, ⟨BK203.out⟩, ⟨BK219.out⟩, ⟨BK224.out⟩, ⟨BK229.out⟩, ⟨BK235.out⟩, ⟨by repeat (first|(with_reducible first|exact HB.out|apply bA|apply bN|apply b1|refine bS ?_ GE219.out|refine bS ?_ GE224.out|refine bS ?_ GE229.out|refine bS ?_ GE235.out)|exact HB.out)⟩⟩
   case rest =>
    clear HC26
    try clear c5
    try clear c75
    try clear hcz46_0
    try clear hcz46_1
    try clear hcz52_0
    try clear hcz52_1
    try clear hcz55_0
    try clear hcz55_1
    try clear hcz62_0
    try clear hcz62_1
    try clear hcz64_0
    try clear hcz64_1
    try clear hcz72_0
    try clear hcz72_1
    try clear hcz81_0
    try clear hcz81_1
    try clear hcz86_0
    try clear hcz86_1
    try clear hcz93_0
    try clear hcz93_1
    try clear hcz98_0
    try clear hcz98_1
    try clear hfz46_0
    try clear hfz46_1
    try clear hfz52_0
    try clear hfz52_1
    try clear hfz55_0
    try clear hfz55_1
    try clear hfz62_0
    try clear hfz62_1
    try clear hfz64_0
    try clear hfz64_1
    try clear hfz72_0
    try clear hfz72_1
    try clear hfz81_0
    try clear hfz81_1
    try clear hfz86_0
    try clear hfz86_1
    try clear hfz93_0
    try clear hfz93_1
    try clear hfz98_0
    try clear hfz98_1
    obtain ⟨kq, x57_25, rfl, HA, HJ25, HO_220001, HO_225001, HO_230001, HO_236001, BK202, BK203, BK219, BK224, BK229, BK235, HB⟩ := hcut
    cases kq with
    | zero => exact absurd HA.out (by simp [j0])
    | succ kj25 =>
     have H := HA.out
     clear HA
     simp only [j0] at H
     by_cases c100 : x57_25 = true
     ·subst c100
      have H1 : (none) = some r := by rw [if_pos rfl] at H; exact H
      clear H
      have H := H1
      clear H1
      exact absurd H (by simp)
     ·replace c100 := Bool.eq_false_iff.mpr c100
      subst c100
      have H1 : ((laws_toCyclo.f kj25 a0_0 l0_1).bind fun bt237 => ((laws_eqCyclo.f kj25 t220 t221 bt237.1 bt237.2).bind fun t241 => (if t241 = true then ((laws_toCyclo.f kj25 a1_0 l1_1).bind fun bt242 => ((laws_eqCyclo.f kj25 t225 t226 bt242.1 bt242.2).bind fun t246 => (if t246 = true then ((laws_markCyclo.f kj25 t220 t221 1).bind fun bt247 => ((laws_markCyclo.f kj25 t225 t226 bt247.1).bind fun bt249 => (if bt249.1 < 0 then (j1 kj25 a2 t218 true a0_0 l0_1 a1_0 l1_1 t214 t215 t230 t231) else ((laws_eqCyclo.f kj25 t230 t231 t214 t215).bind fun t251 => (if t251 = true then (j1 kj25 a2 t218 (t234 != t218) a0_0 l0_1 a1_0 l1_1 t214 t215 t230 t231) else (j1 kj25 a2 t218 true a0_0 l0_1 a1_0 l1_1 t214 t215 t230 t231)))))) else (none)))) else (none)))) = some r := by rw [if_neg (show ¬ (false = true) by decide)] at H; exact H
      clear H
      have H := H1
      clear H1
      replace H := Option.bind_eq_some_iff.mp H
      obtain ⟨⟨t237, t238⟩, A1010, H⟩ := H
      replace H : ((laws_eqCyclo.f kj25 t220 t221 t237 t238).bind fun t241 => (if t241 = true then ((laws_toCyclo.f kj25 a1_0 l1_1).bind fun bt242 => ((laws_eqCyclo.f kj25 t225 t226 bt242.1 bt242.2).bind fun t246 => (if t246 = true then ((laws_markCyclo.f kj25 t220 t221 1).bind fun bt247 => ((laws_markCyclo.f kj25 t225 t226 bt247.1).bind fun bt249 => (if bt249.1 < 0 then (j1 kj25 a2 t218 true a0_0 l0_1 a1_0 l1_1 t214 t215 t230 t231) else ((laws_eqCyclo.f kj25 t230 t231 t214 t215).bind fun t251 => (if t251 = true then (j1 kj25 a2 t218 (t234 != t218) a0_0 l0_1 a1_0 l1_1 t214 t215 t230 t231) else (j1 kj25 a2 t218 true a0_0 l0_1 a1_0 l1_1 t214 t215 t230 t231)))))) else (none)))) else (none))) = some r := H
      have A101 := Am A1010
      clear A1010
      replace H := Option.bind_eq_some_iff.mp H
      obtain ⟨t241, A1020, H⟩ := H
      replace H : (if t241 = true then ((laws_toCyclo.f kj25 a1_0 l1_1).bind fun bt242 => ((laws_eqCyclo.f kj25 t225 t226 bt242.1 bt242.2).bind fun t246 => (if t246 = true then ((laws_markCyclo.f kj25 t220 t221 1).bind fun bt247 => ((laws_markCyclo.f kj25 t225 t226 bt247.1).bind fun bt249 => (if bt249.1 < 0 then (j1 kj25 a2 t218 true a0_0 l0_1 a1_0 l1_1 t214 t215 t230 t231) else ((laws_eqCyclo.f kj25 t230 t231 t214 t215).bind fun t251 => (if t251 = true then (j1 kj25 a2 t218 (t234 != t218) a0_0 l0_1 a1_0 l1_1 t214 t215 t230 t231) else (j1 kj25 a2 t218 true a0_0 l0_1 a1_0 l1_1 t214 t215 t230 t231)))))) else (none)))) else (none)) = some r := H
      have A102 := Am A1020
      clear A1020
      by_cases c103 : t241 = true
      ·subst c103
       have H1 : ((laws_toCyclo.f kj25 a1_0 l1_1).bind fun bt242 => ((laws_eqCyclo.f kj25 t225 t226 bt242.1 bt242.2).bind fun t246 => (if t246 = true then ((laws_markCyclo.f kj25 t220 t221 1).bind fun bt247 => ((laws_markCyclo.f kj25 t225 t226 bt247.1).bind fun bt249 => (if bt249.1 < 0 then (j1 kj25 a2 t218 true a0_0 l0_1 a1_0 l1_1 t214 t215 t230 t231) else ((laws_eqCyclo.f kj25 t230 t231 t214 t215).bind fun t251 => (if t251 = true then (j1 kj25 a2 t218 (t234 != t218) a0_0 l0_1 a1_0 l1_1 t214 t215 t230 t231) else (j1 kj25 a2 t218 true a0_0 l0_1 a1_0 l1_1 t214 t215 t230 t231)))))) else (none)))) = some r := by rw [if_pos rfl] at H; exact H
       clear H
       have H := H1
       clear H1
       replace H := Option.bind_eq_some_iff.mp H
       obtain ⟨⟨t242, t243⟩, A1040, H⟩ := H
       replace H : ((laws_eqCyclo.f kj25 t225 t226 t242 t243).bind fun t246 => (if t246 = true then ((laws_markCyclo.f kj25 t220 t221 1).bind fun bt247 => ((laws_markCyclo.f kj25 t225 t226 bt247.1).bind fun bt249 => (if bt249.1 < 0 then (j1 kj25 a2 t218 true a0_0 l0_1 a1_0 l1_1 t214 t215 t230 t231) else ((laws_eqCyclo.f kj25 t230 t231 t214 t215).bind fun t251 => (if t251 = true then (j1 kj25 a2 t218 (t234 != t218) a0_0 l0_1 a1_0 l1_1 t214 t215 t230 t231) else (j1 kj25 a2 t218 true a0_0 l0_1 a1_0 l1_1 t214 t215 t230 t231)))))) else (none))) = some r := H
       have A104 := Am A1040
       clear A1040
       replace H := Option.bind_eq_some_iff.mp H
       obtain ⟨t246, A1050, H⟩ := H
       replace H : (if t246 = true then ((laws_markCyclo.f kj25 t220 t221 1).bind fun bt247 => ((laws_markCyclo.f kj25 t225 t226 bt247.1).bind fun bt249 => (if bt249.1 < 0 then (j1 kj25 a2 t218 true a0_0 l0_1 a1_0 l1_1 t214 t215 t230 t231) else ((laws_eqCyclo.f kj25 t230 t231 t214 t215).bind fun t251 => (if t251 = true then (j1 kj25 a2 t218 (t234 != t218) a0_0 l0_1 a1_0 l1_1 t214 t215 t230 t231) else (j1 kj25 a2 t218 true a0_0 l0_1 a1_0 l1_1 t214 t215 t230 t231)))))) else (none)) = some r := H
       have A105 := Am A1050
       clear A1050
       by_cases c106 : t246 = true
       ·subst c106
        have H1 : ((laws_markCyclo.f kj25 t220 t221 1).bind fun bt247 => ((laws_markCyclo.f kj25 t225 t226 bt247.1).bind fun bt249 => (if bt249.1 < 0 then (j1 kj25 a2 t218 true a0_0 l0_1 a1_0 l1_1 t214 t215 t230 t231) else ((laws_eqCyclo.f kj25 t230 t231 t214 t215).bind fun t251 => (if t251 = true then (j1 kj25 a2 t218 (t234 != t218) a0_0 l0_1 a1_0 l1_1 t214 t215 t230 t231) else (j1 kj25 a2 t218 true a0_0 l0_1 a1_0 l1_1 t214 t215 t230 t231)))))) = some r := by rw [if_pos rfl] at H; exact H
        clear H
        have H := H1
        clear H1
        replace H := Option.bind_eq_some_iff.mp H
        obtain ⟨⟨t247, t248⟩, A1070, H⟩ := H
        replace H : ((laws_markCyclo.f kj25 t225 t226 t247).bind fun bt249 => (if bt249.1 < 0 then (j1 kj25 a2 t218 true a0_0 l0_1 a1_0 l1_1 t214 t215 t230 t231) else ((laws_eqCyclo.f kj25 t230 t231 t214 t215).bind fun t251 => (if t251 = true then (j1 kj25 a2 t218 (t234 != t218) a0_0 l0_1 a1_0 l1_1 t214 t215 t230 t231) else (j1 kj25 a2 t218 true a0_0 l0_1 a1_0 l1_1 t214 t215 t230 t231))))) = some r := H
        have A107 := Am A1070
        clear A1070
        replace H := Option.bind_eq_some_iff.mp H
        obtain ⟨⟨t249, t250⟩, A1080, H⟩ := H
        replace H : (if t249 < 0 then (j1 kj25 a2 t218 true a0_0 l0_1 a1_0 l1_1 t214 t215 t230 t231) else ((laws_eqCyclo.f kj25 t230 t231 t214 t215).bind fun t251 => (if t251 = true then (j1 kj25 a2 t218 (t234 != t218) a0_0 l0_1 a1_0 l1_1 t214 t215 t230 t231) else (j1 kj25 a2 t218 true a0_0 l0_1 a1_0 l1_1 t214 t215 t230 t231)))) = some r := H
        have A108 := Am A1080
        clear A1080
        have HC109 := Am H
        clear H
        try go_wp2
        have n0_ := Am (R_drew HO_220001.out)
        have n1_ := Am (R_drew HO_225001.out)
        have n2_ := Am (R_drew HO_230001.out)
        have n3_ := Am (R_drew HO_236001.out)
        have n4_ := Am (blk_drew BK202.out)
        have n5_ := Am (blk_drew BK203.out)
        have n6_ := Am (blk_drew BK219.out)
        have n7_ := Am (blk_drew BK224.out)
        have n8_ := Am (blk_drew BK229.out)
        have n9_ := Am (blk_drew BK235.out)
        have n10_ := Am (below_drew1 HB.out)
        clear HO_220001 HO_225001 HO_230001 HO_236001 BK202 BK203 BK219 BK224 BK229 BK235 HB; have HO_220001 := n0_; have HO_225001 := n1_; have HO_230001 := n2_; have HO_236001 := n3_; have BK202 := n4_; have BK203 := n5_; have BK219 := n6_; have BK224 := n7_; have BK229 := n8_; have BK235 := n9_; have HB := n10_; clear n0_ n1_ n2_ n3_ n4_ n5_ n6_ n7_ n8_ n9_ n10_
        refine start_ (n := 5) (S := fun w' => w'.cell? ⟨gb224, 0, none⟩ = some (.int .i64 t220) ∧ w'.cell? ⟨gb224, 1, none⟩ = some (.slice Ao53 t221.length co53) ∧ w'.cell? ⟨gb202, 0, none⟩ = some (.int .i64 a0_0) ∧ w'.cell? ⟨gb202, 1, none⟩ = some (.slice A0_1 l0_1.length c0_1)) (ds := []) #[false, false, false, false, false] (by kernel_rfl) rfl rfl ⟨(blk_cell BK224.out 0).trans rfl, (blk_cell BK224.out 1).trans rfl, (blk_cell BK202.out 0).trans rfl, (blk_cell BK202.out 1).trans rfl⟩ (fun hHeld => ?_)
        generalize wc.drew = w110 at HO_220001 HO_225001 HO_230001 HO_236001 BK202 BK203 BK219 BK224 BK229 BK235 HB hHeld ⊢
        refine take_ (i := 0) (N := some 58) (v := ?_) (a' := ?_) #[true, false, false, false, false] rfl rfl (by kernel_rfl) (fun _ _ _ h => h) (Or.inl ⟨by rfl, ?_⟩) hHeld ?_ ?_
        rotate_left
        ·rintro w' ⟨s0, s1, s2, s3⟩
         go_simp
         with_reducible rfl
        rotate_left
        ·simp only [Act.put, setIfInBounds_toArray, set_cons_zero, set_cons_succ, i64_w, i32_w]
         rfl
        refine take_ (i := 1) (N := some 59) (v := ?_) (a' := ?_) #[true, true, false, false, false] rfl rfl (by kernel_rfl) (fun _ _ _ h => h) (Or.inl ⟨by rfl, ?_⟩) hHeld ?_ ?_
        rotate_left
        ·rintro w' ⟨s0, s1, s2, s3⟩
         go_simp
         with_reducible rfl
        rotate_left
        ·simp only [Act.put, setIfInBounds_toArray, set_cons_zero, set_cons_succ, i64_w, i32_w]
         rfl
        refine one_ (i := 2) (N := some 60) #[true, true, true, false, false] rfl rfl (by kernel_rfl) (by decide) (fun K hK => ?_)
        refine goes_ Try.func24 (by kernel_rfl) rfl #[.agg #[.int .i64 a0_0, .slice A0_1 l0_1.length c0_1]] (by rfl) rfl rfl (by (try simp only [map_toArray, map_cons, map_nil]); first | done | rfl|(simp only [List.length_drop, List.length_take]; rfl)) ?_
        with_reducible refine (laws_toCyclo.calls kj25 a0_0 _ _ l0_1 t237 t238 _ ?side1 ?side2 A101.out).mono ?_
        (case side1 => repeat (first|exact (Kd.C_below HR0_1.out HB.out)|(with_reducible first|refine Kd.C_alloc ?_ _|refine Kd.C_drewN ?_ _|refine Kd.C_drew ?_)))
        (case side2 => exact HC0_1.out)
        rintro e w111 ⟨v239, rfl, ho0, hb⟩
        refine ⟨_, rfl, ?_⟩
        have n0_ := Am (R_elder' HO_220001.out (R_base ho0) hb)
        have n1_ := Am (R_elder' HO_225001.out (R_base ho0) hb)
        have n2_ := Am (R_elder' HO_230001.out (R_base ho0) hb)
        have n3_ := Am (R_elder' HO_236001.out (R_base ho0) hb)
        have n4_ := Am (R_lower (R_new' (R_new' (R_new' (R_new' ho0 (R_lt HO_220001.out)) (R_lt HO_225001.out)) (R_lt HO_230001.out)) (R_lt HO_236001.out)) (below_size (by repeat (first|(with_reducible first|exact HB.out|apply bA|apply bN|apply b1|refine bS ?_ GE219.out|refine bS ?_ GE224.out|refine bS ?_ GE229.out|refine bS ?_ GE235.out)|exact HB.out))))
        have n5_ := Am (bb hb BK202.out)
        have n6_ := Am (bb hb BK203.out)
        have n7_ := Am (bb hb BK219.out)
        have n8_ := Am (bb hb BK224.out)
        have n9_ := Am (bb hb BK229.out)
        have n10_ := Am (bb hb BK235.out)
        have n11_ := Am (below_step (by repeat (first|(with_reducible first|exact HB.out|apply bA|apply bN|apply b1|refine bS ?_ GE219.out|refine bS ?_ GE224.out|refine bS ?_ GE229.out|refine bS ?_ GE235.out)|exact HB.out)) hb)
        clear HO_220001 HO_225001 HO_230001 HO_236001 BK202 BK203 BK219 BK224 BK229 BK235 HB; have HO_220001 := n0_; have HO_225001 := n1_; have HO_230001 := n2_; have HO_236001 := n3_; have HO240 := n4_; have BK202 := n5_; have BK203 := n6_; have BK219 := n7_; have BK224 := n8_; have BK229 := n9_; have BK235 := n10_; have HB := n11_; clear n0_ n1_ n2_ n3_ n4_ n5_ n6_ n7_ n8_ n9_ n10_ n11_; (try clear hb); (try clear ho0)
        obtain ⟨Ao112, co112, eo112⟩ := R_slice HO240.out
        (first|subst eo112|(injection eo112 with f1_ f2_ f3_; have f4_ := f1_.symm; have f5_ := f3_.symm; clear f1_ f2_ f3_; subst f4_; subst f5_))
        refine hK.out _ _ ⟨(blk_cell BK224.out 0).trans rfl, (blk_cell BK224.out 1).trans rfl, (blk_cell BK202.out 0).trans rfl, (blk_cell BK202.out 1).trans rfl⟩ (fun hHeld => ?_)
        clear hK K
        refine norm_ (a' := ?_) ?_ ?_
        rotate_left
        ·show Act.put _ (some 60) _ = _
         simp only [Act.put, setIfInBounds_toArray, set_cons_zero, set_cons_succ, i64_w, i32_w]
         rfl
        refine one_ (i := 3) (N := some 61) #[true, true, true, true, false] rfl rfl (by kernel_rfl) (by decide) (fun K hK => ?_)
        refine goes_ Try.func26 (by kernel_rfl) rfl #[.agg #[.int .i64 t220, .slice Ao53 t221.length co53], .agg #[.int .i64 t237, .slice Ao112 t238.length co112]] (by rfl) rfl rfl (by (try simp only [map_toArray, map_cons, map_nil]); first | done | rfl|(simp only [List.length_drop, List.length_take]; rfl)) ?_
        with_reducible refine (laws_eqCyclo.calls kj25 t220 _ _ t221 t237 _ _ t238 true _ ?side1 ?side2 ?side3 ?side4 A102.out).mono ?_
        (case side1 => repeat (first|exact (R_reads' HO_225001.out).2.2|(with_reducible first|refine Kd.C_alloc ?_ _|refine Kd.C_drewN ?_ _|refine Kd.C_drew ?_)))
        (case side2 => exact (R_reads' HO_225001.out).2.1)
        (case side3 => repeat (first|exact (R_reads' HO240.out).2.2|(with_reducible first|refine Kd.C_alloc ?_ _|refine Kd.C_drewN ?_ _|refine Kd.C_drew ?_)))
        (case side4 => exact (R_reads' HO240.out).2.1)
        rintro e w113 ⟨rfl, hb⟩
        refine ⟨_, rfl, ?_⟩
        have n0_ := Am (R_below HO_220001.out hb)
        have n1_ := Am (R_below HO_225001.out hb)
        have n2_ := Am (R_below HO_230001.out hb)
        have n3_ := Am (R_below HO_236001.out hb)
        have n4_ := Am (R_below HO240.out hb)
        have n5_ := Am (bb hb BK202.out)
        have n6_ := Am (bb hb BK203.out)
        have n7_ := Am (bb hb BK219.out)
        have n8_ := Am (bb hb BK224.out)
        have n9_ := Am (bb hb BK229.out)
        have n10_ := Am (bb hb BK235.out)
        have n11_ := Am (below_step (by repeat (first|(with_reducible first|exact HB.out|apply bA|apply bN|apply b1|refine bS ?_ GE219.out|refine bS ?_ GE224.out|refine bS ?_ GE229.out|refine bS ?_ GE235.out)|exact HB.out)) hb)
        clear HO_220001 HO_225001 HO_230001 HO_236001 HO240 BK202 BK203 BK219 BK224 BK229 BK235 HB; have HO_220001 := n0_; have HO_225001 := n1_; have HO_230001 := n2_; have HO_236001 := n3_; have HO240 := n4_; have BK202 := n5_; have BK203 := n6_; have BK219 := n7_; have BK224 := n8_; have BK229 := n9_; have BK235 := n10_; have HB := n11_; clear n0_ n1_ n2_ n3_ n4_ n5_ n6_ n7_ n8_ n9_ n10_ n11_; (try clear hb)
        refine hK.out _ _ ⟨(blk_cell BK224.out 0).trans rfl, (blk_cell BK224.out 1).trans rfl, (blk_cell BK202.out 0).trans rfl, (blk_cell BK202.out 1).trans rfl⟩ (fun hHeld => ?_)
        clear hK K
        refine norm_ (a' := ?_) ?_ ?_
        rotate_left
        ·show Act.put _ (some 61) _ = _
         simp only [Act.put, setIfInBounds_toArray, set_cons_zero, set_cons_succ, i64_w, i32_w]
         rfl
        refine pure_ (i := 4) (N := some 62) (v := ?_) (a' := ?_) #[true, true, true, true, true] rfl rfl (by kernel_rfl) (fun _ _ _ h => h) (Or.inl ⟨by rfl, ?_⟩) ?_ ?_
        rotate_left
        ·intro w'
         go_simp
         with_reducible rfl
        rotate_left
        ·simp only [Act.put, setIfInBounds_toArray, set_cons_zero, set_cons_succ, i64_w, i32_w]
         rfl
        refine done_ (by kernel_rfl) ?_
        try go_wp2
        have n0_ := Am (R_drew HO_220001.out)
        have n1_ := Am (R_drew HO_225001.out)
        have n2_ := Am (R_drew HO_230001.out)
        have n3_ := Am (R_drew HO_236001.out)
        have n4_ := Am (R_drew HO240.out)
        have n5_ := Am (blk_drew BK202.out)
        have n6_ := Am (blk_drew BK203.out)
        have n7_ := Am (blk_drew BK219.out)
        have n8_ := Am (blk_drew BK224.out)
        have n9_ := Am (blk_drew BK229.out)
        have n10_ := Am (blk_drew BK235.out)
        have n11_ := Am (below_drew1 HB.out)
        clear HO_220001 HO_225001 HO_230001 HO_236001 HO240 BK202 BK203 BK219 BK224 BK229 BK235 HB; have HO_220001 := n0_; have HO_225001 := n1_; have HO_230001 := n2_; have HO_236001 := n3_; have HO240 := n4_; have BK202 := n5_; have BK203 := n6_; have BK219 := n7_; have BK224 := n8_; have BK229 := n9_; have BK235 := n10_; have HB := n11_; clear n0_ n1_ n2_ n3_ n4_ n5_ n6_ n7_ n8_ n9_ n10_ n11_
        refine start_ (n := 5) (S := fun w' => w'.cell? ⟨gb229, 0, none⟩ = some (.int .i64 t225) ∧ w'.cell? ⟨gb229, 1, none⟩ = some (.slice Ao63 t226.length co63) ∧ w'.cell? ⟨gb203, 0, none⟩ = some (.int .i64 a1_0) ∧ w'.cell? ⟨gb203, 1, none⟩ = some (.slice A1_1 l1_1.length c1_1)) (ds := []) #[false, false, false, false, false] (by kernel_rfl) rfl rfl ⟨(blk_cell BK229.out 0).trans rfl, (blk_cell BK229.out 1).trans rfl, (blk_cell BK203.out 0).trans rfl, (blk_cell BK203.out 1).trans rfl⟩ (fun hHeld => ?_)
        generalize w113.drew = w114 at HO_220001 HO_225001 HO_230001 HO_236001 HO240 BK202 BK203 BK219 BK224 BK229 BK235 HB hHeld ⊢
        refine take_ (i := 0) (N := some 63) (v := ?_) (a' := ?_) #[true, false, false, false, false] rfl rfl (by kernel_rfl) (fun _ _ _ h => h) (Or.inl ⟨by rfl, ?_⟩) hHeld ?_ ?_
        rotate_left
        ·rintro w' ⟨s0, s1, s2, s3⟩
         go_simp
         with_reducible rfl
        rotate_left
        ·simp only [Act.put, setIfInBounds_toArray, set_cons_zero, set_cons_succ, i64_w, i32_w]
         rfl
        refine take_ (i := 1) (N := some 64) (v := ?_) (a' := ?_) #[true, true, false, false, false] rfl rfl (by kernel_rfl) (fun _ _ _ h => h) (Or.inl ⟨by rfl, ?_⟩) hHeld ?_ ?_
        rotate_left
        ·rintro w' ⟨s0, s1, s2, s3⟩
         go_simp
         with_reducible rfl
        rotate_left
        ·simp only [Act.put, setIfInBounds_toArray, set_cons_zero, set_cons_succ, i64_w, i32_w]
         rfl
        refine one_ (i := 2) (N := some 65) #[true, true, true, false, false] rfl rfl (by kernel_rfl) (by decide) (fun K hK => ?_)
        refine goes_ Try.func24 (by kernel_rfl) rfl #[.agg #[.int .i64 a1_0, .slice A1_1 l1_1.length c1_1]] (by rfl) rfl rfl (by (try simp only [map_toArray, map_cons, map_nil]); first | done | rfl|(simp only [List.length_drop, List.length_take]; rfl)) ?_
        with_reducible refine (laws_toCyclo.calls kj25 a1_0 _ _ l1_1 t242 t243 _ ?side1 ?side2 A104.out).mono ?_
        (case side1 => repeat (first|exact (Kd.C_below HR1_1.out HB.out)|(with_reducible first|refine Kd.C_alloc ?_ _|refine Kd.C_drewN ?_ _|refine Kd.C_drew ?_)))
        (case side2 => exact HC1_1.out)
        rintro e w115 ⟨v244, rfl, ho0, hb⟩
        refine ⟨_, rfl, ?_⟩
        have n0_ := Am (R_elder' HO_220001.out (R_base ho0) hb)
        have n1_ := Am (R_elder' HO_225001.out (R_base ho0) hb)
        have n2_ := Am (R_elder' HO_230001.out (R_base ho0) hb)
        have n3_ := Am (R_elder' HO_236001.out (R_base ho0) hb)
        have n4_ := Am (R_elder' HO240.out (R_base ho0) hb)
        have n5_ := Am (R_lower (R_new' (R_new' (R_new' (R_new' (R_new' ho0 (R_lt HO_220001.out)) (R_lt HO_225001.out)) (R_lt HO_230001.out)) (R_lt HO_236001.out)) (R_lt HO240.out)) (below_size (by repeat (first|(with_reducible first|exact HB.out|apply bA|apply bN|apply b1|refine bS ?_ GE219.out|refine bS ?_ GE224.out|refine bS ?_ GE229.out|refine bS ?_ GE235.out)|exact HB.out))))
        have n6_ := Am (bb hb BK202.out)
        have n7_ := Am (bb hb BK203.out)
        have n8_ := Am (bb hb BK219.out)
        have n9_ := Am (bb hb BK224.out)
        have n10_ := Am (bb hb BK229.out)
        have n11_ := Am (bb hb BK235.out)
        have n12_ := Am (below_step (by repeat (first|(with_reducible first|exact HB.out|apply bA|apply bN|apply b1|refine bS ?_ GE219.out|refine bS ?_ GE224.out|refine bS ?_ GE229.out|refine bS ?_ GE235.out)|exact HB.out)) hb)
        clear HO_220001 HO_225001 HO_230001 HO_236001 HO240 BK202 BK203 BK219 BK224 BK229 BK235 HB; have HO_220001 := n0_; have HO_225001 := n1_; have HO_230001 := n2_; have HO_236001 := n3_; have HO240 := n4_; have HO245 := n5_; have BK202 := n6_; have BK203 := n7_; have BK219 := n8_; have BK224 := n9_; have BK229 := n10_; have BK235 := n11_; have HB := n12_; clear n0_ n1_ n2_ n3_ n4_ n5_ n6_ n7_ n8_ n9_ n10_ n11_ n12_; (try clear hb); (try clear ho0)
        obtain ⟨Ao116, co116, eo116⟩ := R_slice HO245.out
        (first|subst eo116|(injection eo116 with f1_ f2_ f3_; have f4_ := f1_.symm; have f5_ := f3_.symm; clear f1_ f2_ f3_; subst f4_; subst f5_))
        refine hK.out _ _ ⟨(blk_cell BK229.out 0).trans rfl, (blk_cell BK229.out 1).trans rfl, (blk_cell BK203.out 0).trans rfl, (blk_cell BK203.out 1).trans rfl⟩ (fun hHeld => ?_)
        clear hK K
        refine norm_ (a' := ?_) ?_ ?_
        rotate_left
        ·show Act.put _ (some 65) _ = _
         simp only [Act.put, setIfInBounds_toArray, set_cons_zero, set_cons_succ, i64_w, i32_w]
         rfl
        refine one_ (i := 3) (N := some 66) #[true, true, true, true, false] rfl rfl (by kernel_rfl) (by decide) (fun K hK => ?_)
        refine goes_ Try.func26 (by kernel_rfl) rfl #[.agg #[.int .i64 t225, .slice Ao63 t226.length co63], .agg #[.int .i64 t242, .slice Ao116 t243.length co116]] (by rfl) rfl rfl (by (try simp only [map_toArray, map_cons, map_nil]); first | done | rfl|(simp only [List.length_drop, List.length_take]; rfl)) ?_
        with_reducible refine (laws_eqCyclo.calls kj25 t225 _ _ t226 t242 _ _ t243 true _ ?side1 ?side2 ?side3 ?side4 A105.out).mono ?_
        (case side1 => repeat (first|exact (R_reads' HO_230001.out).2.2|(with_reducible first|refine Kd.C_alloc ?_ _|refine Kd.C_drewN ?_ _|refine Kd.C_drew ?_)))
        (case side2 => exact (R_reads' HO_230001.out).2.1)
        (case side3 => repeat (first|exact (R_reads' HO245.out).2.2|(with_reducible first|refine Kd.C_alloc ?_ _|refine Kd.C_drewN ?_ _|refine Kd.C_drew ?_)))
        (case side4 => exact (R_reads' HO245.out).2.1)
        rintro e w117 ⟨rfl, hb⟩
        refine ⟨_, rfl, ?_⟩
        have n0_ := Am (R_below HO_220001.out hb)
        have n1_ := Am (R_below HO_225001.out hb)
        have n2_ := Am (R_below HO_230001.out hb)
        have n3_ := Am (R_below HO_236001.out hb)
        have n4_ := Am (R_below HO240.out hb)
        have n5_ := Am (R_below HO245.out hb)
        have n6_ := Am (bb hb BK202.out)
        have n7_ := Am (bb hb BK203.out)
        have n8_ := Am (bb hb BK219.out)
        have n9_ := Am (bb hb BK224.out)
        have n10_ := Am (bb hb BK229.out)
        have n11_ := Am (bb hb BK235.out)
        have n12_ := Am (below_step (by repeat (first|(with_reducible first|exact HB.out|apply bA|apply bN|apply b1|refine bS ?_ GE219.out|refine bS ?_ GE224.out|refine bS ?_ GE229.out|refine bS ?_ GE235.out)|exact HB.out)) hb)
        clear HO_220001 HO_225001 HO_230001 HO_236001 HO240 HO245 BK202 BK203 BK219 BK224 BK229 BK235 HB; have HO_220001 := n0_; have HO_225001 := n1_; have HO_230001 := n2_; have HO_236001 := n3_; have HO240 := n4_; have HO245 := n5_; have BK202 := n6_; have BK203 := n7_; have BK219 := n8_; have BK224 := n9_; have BK229 := n10_; have BK235 := n11_; have HB := n12_; clear n0_ n1_ n2_ n3_ n4_ n5_ n6_ n7_ n8_ n9_ n10_ n11_ n12_; (try clear hb)
        refine hK.out _ _ ⟨(blk_cell BK229.out 0).trans rfl, (blk_cell BK229.out 1).trans rfl, (blk_cell BK203.out 0).trans rfl, (blk_cell BK203.out 1).trans rfl⟩ (fun hHeld => ?_)
        clear hK K
        refine norm_ (a' := ?_) ?_ ?_
        rotate_left
        ·show Act.put _ (some 66) _ = _
         simp only [Act.put, setIfInBounds_toArray, set_cons_zero, set_cons_succ, i64_w, i32_w]
         rfl
        refine pure_ (i := 4) (N := some 67) (v := ?_) (a' := ?_) #[true, true, true, true, true] rfl rfl (by kernel_rfl) (fun _ _ _ h => h) (Or.inl ⟨by rfl, ?_⟩) ?_ ?_
        rotate_left
        ·intro w'
         go_simp
         with_reducible rfl
        rotate_left
        ·simp only [Act.put, setIfInBounds_toArray, set_cons_zero, set_cons_succ, i64_w, i32_w]
         rfl
        refine done_ (by kernel_rfl) ?_
        have hnb118 := NB224_202.out
        have hnc118 := NB202_224.out
        have hnb119 := NB224_203.out
        have hnc119 := NB203_224.out
        have hnb120 := NB224_219.out
        have hnc120 := NB219_224.out
        have hnb121 := NB224_229.out
        have hnc121 := NB229_224.out
        have hnb122 := NB224_235.out
        have hnc122 := NB235_224.out
        have hcz123_0 : w117.cell? ⟨gb224, 0, none⟩ = some (.int .i64 t220) := (blk_cell BK224.out 0).trans rfl
        have hcz123_1 : w117.cell? ⟨gb224, 1, none⟩ = some (.slice Ao53 t221.length co53) := (blk_cell BK224.out 1).trans rfl
        have hfz123_0 := blk_frozen BK224.out 0
        have hfz123_1 := blk_frozen BK224.out 1
        go_upto_region 21 with (first|((with_reducible refine gate_callee (f := 37) rfl ?_); refine goesL_ (some 70) rfl rfl Try.func37 (by kernel_rfl) rfl #[.agg #[.int .i64 t220, .slice Ao53 t221.length co53], .int .i64 1] rfl (by (try simp only [map_toArray, map_cons, map_nil]); first | done | rfl|(simp only [List.length_drop, List.length_take]; rfl)) ?_; (with_reducible refine (laws_markCyclo.calls kj25 t220 (fun k_ => some k_ = (.slice Ao53 t221.length co53 : Value).ownBlock) (.slice Ao53 t221.length co53) t221 1 t247 t248 w _ ?side1 ?side2 A107.out).mono ?_); (case side1 => repeat (first|(with_reducible first | exact HB.out | apply below_alloc | apply pw_below_drewN | apply below_drew1|refine bS ?_ GE219.out|refine bS ?_ GE224.out|refine bS ?_ GE229.out|refine bS ?_ GE235.out) | exact HB.out)); (case side2 => exact R_tight rfl HO_225001.out); rintro e w124 ⟨rfl, hy0, hb, hkp⟩; refine ⟨_, rfl, ?_⟩; have n0_ := Am (R_mono (ok' := fun k_ => some k_ ≠ (.slice Ao53 t221.length co53 : Value).ownBlock ∧ some k_ ≠ (.slice Ao63 t226.length co63 : Value).ownBlock ∧ some k_ ≠ (.slice Ao73 t231.length co73 : Value).ownBlock ∧ some k_ ≠ (.slice Ao112 t238.length co112 : Value).ownBlock ∧ some k_ ≠ (.slice Ao116 t243.length co116 : Value).ownBlock) (R_keptB (HO_220001.out) hkp (fun k_ hk_ hs_ => (hk_.1.1.1) hs_)) (fun k_ hk_ => ⟨hk_.1.1.1.1, hk_.1.1.1.2.1, hk_.1.1.1.2.2, hk_.1.1.2, hk_.1.2⟩)); have n1_ := Am (R_reok rfl hy0 (fun k_ e_ => HO_225001.out.1 k_ e_)); have n2_ := Am (R_mono (ok' := fun k_ => some k_ ≠ (.slice Ao43 t215.length co43 : Value).ownBlock ∧ some k_ ≠ (.slice Ao53 t221.length co53 : Value).ownBlock ∧ some k_ ≠ (.slice Ao73 t231.length co73 : Value).ownBlock ∧ some k_ ≠ (.slice Ao112 t238.length co112 : Value).ownBlock ∧ some k_ ≠ (.slice Ao116 t243.length co116 : Value).ownBlock) (R_keptB (HO_230001.out) hkp (fun k_ hk_ hs_ => (hk_.1.1.2.1) hs_)) (fun k_ hk_ => ⟨hk_.1.1.1.1, hk_.1.1.1.2.1, hk_.1.1.1.2.2, hk_.1.1.2, hk_.1.2⟩)); have n3_ := Am (R_mono (ok' := fun k_ => some k_ ≠ (.slice Ao43 t215.length co43 : Value).ownBlock ∧ some k_ ≠ (.slice Ao53 t221.length co53 : Value).ownBlock ∧ some k_ ≠ (.slice Ao63 t226.length co63 : Value).ownBlock ∧ some k_ ≠ (.slice Ao112 t238.length co112 : Value).ownBlock ∧ some k_ ≠ (.slice Ao116 t243.length co116 : Value).ownBlock) (R_keptB (HO_236001.out) hkp (fun k_ hk_ hs_ => (hk_.1.1.2.1) hs_)) (fun k_ hk_ => ⟨hk_.1.1.1.1, hk_.1.1.1.2.1, hk_.1.1.1.2.2, hk_.1.1.2, hk_.1.2⟩)); have n4_ := Am (blk_kept BK202.out hkp (fun hs_ => (fun e_ => (R_ne HO_225001.out BK202.out (by decide)) e_) hs_)); have n5_ := Am (blk_kept BK203.out hkp (fun hs_ => (fun e_ => (R_ne HO_225001.out BK203.out (by decide)) e_) hs_)); have n6_ := Am (blk_kept BK219.out hkp (fun hs_ => (fun e_ => (R_ne HO_225001.out BK219.out (by decide)) e_) hs_)); have n7_ := Am (blk_kept BK224.out hkp (fun hs_ => (fun e_ => (R_ne HO_225001.out BK224.out (by decide)) e_) hs_)); have n8_ := Am (blk_kept BK229.out hkp (fun hs_ => (fun e_ => (R_ne HO_225001.out BK229.out (by decide)) e_) hs_)); have n9_ := Am (blk_kept BK235.out hkp (fun hs_ => (fun e_ => (R_ne HO_225001.out BK235.out (by decide)) e_) hs_)); have n10_ := Am (R_mono (ok' := fun k_ => some k_ ≠ (.slice Ao43 t215.length co43 : Value).ownBlock ∧ some k_ ≠ (.slice Ao53 t221.length co53 : Value).ownBlock ∧ some k_ ≠ (.slice Ao63 t226.length co63 : Value).ownBlock ∧ some k_ ≠ (.slice Ao73 t231.length co73 : Value).ownBlock ∧ some k_ ≠ (.slice Ao116 t243.length co116 : Value).ownBlock) (R_keptB (HO240.out) hkp (fun k_ hk_ hs_ => (hk_.1.1.1.2) hs_)) (fun k_ hk_ => ⟨hk_.1.1.1.1.1.2, hk_.1.1.1.1.2, hk_.1.1.1.2, hk_.1.1.2, hk_.1.2⟩)); have n11_ := Am (R_mono (ok' := fun k_ => some k_ ≠ (.slice Ao43 t215.length co43 : Value).ownBlock ∧ some k_ ≠ (.slice Ao53 t221.length co53 : Value).ownBlock ∧ some k_ ≠ (.slice Ao63 t226.length co63 : Value).ownBlock ∧ some k_ ≠ (.slice Ao73 t231.length co73 : Value).ownBlock ∧ some k_ ≠ (.slice Ao112 t238.length co112 : Value).ownBlock) (R_keptB (HO245.out) hkp (fun k_ hk_ hs_ => (hk_.1.1.1.2) hs_)) (fun k_ hk_ => ⟨hk_.1.1.1.1.1.2, hk_.1.1.1.1.2, hk_.1.1.1.2, hk_.1.1.2, hk_.1.2⟩)); have n12_ := Am (hb); clear HO_220001; clear HO_225001; clear HO_230001; clear HO_236001; clear BK202; clear BK203; clear BK219; clear BK224; clear BK229; clear BK235; clear HO240; clear HO245; clear HB; have HO_220001 := n0_; have HO_225001 := n1_; have HO_230001 := n2_; have HO_236001 := n3_; have BK202 := n4_; have BK203 := n5_; have BK219 := n6_; have BK224 := n7_; have BK229 := n8_; have BK235 := n9_; have HO240 := n10_; have HO245 := n11_; have HB := n12_; clear n0_ n1_ n2_ n3_ n4_ n5_ n6_ n7_ n8_ n9_ n10_ n11_ n12_; (try clear hb); (try clear hkp); (try clear hy0); have hnb125 := NB229_202.out; have hnc125 := NB202_229.out; have hnb126 := NB229_203.out; have hnc126 := NB203_229.out; have hnb127 := NB229_219.out; have hnc127 := NB219_229.out; have hnb128 := NB229_235.out; have hnc128 := NB235_229.out; have hcz129_0 : w124.cell? ⟨gb229, 0, none⟩ = some (.int .i64 t225) := (blk_cell BK229.out 0).trans rfl; have hcz129_1 : w124.cell? ⟨gb229, 1, none⟩ = some (.slice Ao63 t226.length co63) := (blk_cell BK229.out 1).trans rfl; have hfz129_0 := blk_frozen BK229.out 0; have hfz129_1 := blk_frozen BK229.out 1)|((with_reducible refine gate_callee (f := 37) rfl ?_); refine goesL_ (some 73) rfl rfl Try.func37 (by kernel_rfl) rfl #[.agg #[.int .i64 t225, .slice Ao63 t226.length co63], .int .i64 t247] rfl (by (try simp only [map_toArray, map_cons, map_nil]); first | done | rfl|(simp only [List.length_drop, List.length_take]; rfl)) ?_; (with_reducible refine (laws_markCyclo.calls kj25 t225 (fun k_ => some k_ = (.slice Ao63 t226.length co63 : Value).ownBlock) (.slice Ao63 t226.length co63) t226 t247 t249 t250 w _ ?side1 ?side2 A108.out).mono ?_); (case side1 => repeat (first|(with_reducible first | exact HB.out | apply below_alloc | apply pw_below_drewN | apply below_drew1|refine bS ?_ GE219.out|refine bS ?_ GE224.out|refine bS ?_ GE229.out|refine bS ?_ GE235.out) | exact HB.out)); (case side2 => exact R_tight rfl HO_230001.out); rintro e w130 ⟨rfl, hy0, hb, hkp⟩; refine ⟨_, rfl, ?_⟩; have n0_ := Am (R_mono (ok' := fun k_ => some k_ ≠ (.slice Ao53 t221.length co53 : Value).ownBlock ∧ some k_ ≠ (.slice Ao63 t226.length co63 : Value).ownBlock ∧ some k_ ≠ (.slice Ao73 t231.length co73 : Value).ownBlock ∧ some k_ ≠ (.slice Ao112 t238.length co112 : Value).ownBlock ∧ some k_ ≠ (.slice Ao116 t243.length co116 : Value).ownBlock) (R_keptB (HO_220001.out) hkp (fun k_ hk_ hs_ => (hk_.2.1) hs_)) (fun k_ hk_ => ⟨hk_.1.1, hk_.1.2.1, hk_.1.2.2.1, hk_.1.2.2.2.1, hk_.1.2.2.2.2⟩)); have n1_ := Am (R_mono (ok' := fun k_ => some k_ ≠ (.slice Ao43 t215.length co43 : Value).ownBlock ∧ some k_ ≠ (.slice Ao63 t226.length co63 : Value).ownBlock ∧ some k_ ≠ (.slice Ao73 t231.length co73 : Value).ownBlock ∧ some k_ ≠ (.slice Ao112 t238.length co112 : Value).ownBlock ∧ some k_ ≠ (.slice Ao116 t243.length co116 : Value).ownBlock) (R_keptB (HO_225001.out) hkp (fun k_ hk_ hs_ => (hk_.1.1.2.1) hs_)) (fun k_ hk_ => ⟨hk_.1.1.1.1, hk_.1.1.1.2.1, hk_.1.1.1.2.2, hk_.1.1.2, hk_.1.2⟩)); have n2_ := Am (R_reok rfl hy0 (fun k_ e_ => HO_230001.out.1 k_ e_)); have n3_ := Am (R_mono (ok' := fun k_ => some k_ ≠ (.slice Ao43 t215.length co43 : Value).ownBlock ∧ some k_ ≠ (.slice Ao53 t221.length co53 : Value).ownBlock ∧ some k_ ≠ (.slice Ao63 t226.length co63 : Value).ownBlock ∧ some k_ ≠ (.slice Ao112 t238.length co112 : Value).ownBlock ∧ some k_ ≠ (.slice Ao116 t243.length co116 : Value).ownBlock) (R_keptB (HO_236001.out) hkp (fun k_ hk_ hs_ => (hk_.2.2.1) hs_)) (fun k_ hk_ => ⟨hk_.1.1, hk_.1.2.1, hk_.1.2.2.1, hk_.1.2.2.2.1, hk_.1.2.2.2.2⟩)); have n4_ := Am (blk_kept BK202.out hkp (fun hs_ => (fun e_ => (R_ne HO_230001.out BK202.out (by decide)) e_) hs_)); have n5_ := Am (blk_kept BK203.out hkp (fun hs_ => (fun e_ => (R_ne HO_230001.out BK203.out (by decide)) e_) hs_)); have n6_ := Am (blk_kept BK219.out hkp (fun hs_ => (fun e_ => (R_ne HO_230001.out BK219.out (by decide)) e_) hs_)); have n7_ := Am (blk_kept BK224.out hkp (fun hs_ => (fun e_ => (R_ne HO_230001.out BK224.out (by decide)) e_) hs_)); have n8_ := Am (blk_kept BK229.out hkp (fun hs_ => (fun e_ => (R_ne HO_230001.out BK229.out (by decide)) e_) hs_)); have n9_ := Am (blk_kept BK235.out hkp (fun hs_ => (fun e_ => (R_ne HO_230001.out BK235.out (by decide)) e_) hs_)); have n10_ := Am (R_mono (ok' := fun k_ => some k_ ≠ (.slice Ao43 t215.length co43 : Value).ownBlock ∧ some k_ ≠ (.slice Ao53 t221.length co53 : Value).ownBlock ∧ some k_ ≠ (.slice Ao63 t226.length co63 : Value).ownBlock ∧ some k_ ≠ (.slice Ao73 t231.length co73 : Value).ownBlock ∧ some k_ ≠ (.slice Ao116 t243.length co116 : Value).ownBlock) (R_keptB (HO240.out) hkp (fun k_ hk_ hs_ => (hk_.2.2.1) hs_)) (fun k_ hk_ => ⟨hk_.1.1, hk_.1.2.1, hk_.1.2.2.1, hk_.1.2.2.2.1, hk_.1.2.2.2.2⟩)); have n11_ := Am (R_mono (ok' := fun k_ => some k_ ≠ (.slice Ao43 t215.length co43 : Value).ownBlock ∧ some k_ ≠ (.slice Ao53 t221.length co53 : Value).ownBlock ∧ some k_ ≠ (.slice Ao63 t226.length co63 : Value).ownBlock ∧ some k_ ≠ (.slice Ao73 t231.length co73 : Value).ownBlock ∧ some k_ ≠ (.slice Ao112 t238.length co112 : Value).ownBlock) (R_keptB (HO245.out) hkp (fun k_ hk_ hs_ => (hk_.2.2.1) hs_)) (fun k_ hk_ => ⟨hk_.1.1, hk_.1.2.1, hk_.1.2.2.1, hk_.1.2.2.2.1, hk_.1.2.2.2.2⟩)); have n12_ := Am (hb); clear HO_220001; clear HO_225001; clear HO_230001; clear HO_236001; clear BK202; clear BK203; clear BK219; clear BK224; clear BK229; clear BK235; clear HO240; clear HO245; clear HB; have HO_220001 := n0_; have HO_225001 := n1_; have HO_230001 := n2_; have HO_236001 := n3_; have BK202 := n4_; have BK203 := n5_; have BK219 := n6_; have BK224 := n7_; have BK229 := n8_; have BK235 := n9_; have HO240 := n10_; have HO245 := n11_; have HB := n12_; clear n0_ n1_ n2_ n3_ n4_ n5_ n6_ n7_ n8_ n9_ n10_ n11_ n12_; (try clear hb); (try clear hkp); (try clear hy0)))
        (try simp only [Act.put, setIfInBounds_toArray, set_cons_zero, set_cons_succ])
        go_cut [86] (fun v86 wc => ∃ (kq : Nat) (x86_108 : Bool), v86 = .bool x86_108 ∧ Aside0 (j1 kq a2 t218 x86_108 a0_0 l0_1 a1_0 l1_1 t214 t215 t230 t231 = some r) ∧ Aside0 (kq ≤ kj25) ∧ Aside0 (Kd.R (Kd.int .i64) 2 wc w.heap.size (fun k_ => some k_ ≠ ((.slice Ao53 t221.length co53) : Value).ownBlock ∧ some k_ ≠ ((.slice Ao63 t226.length co63) : Value).ownBlock ∧ some k_ ≠ ((.slice Ao73 t231.length co73) : Value).ownBlock) (.slice Ao43 t215.length co43) t215) ∧ Aside0 (Kd.R (Kd.int .i64) 2 wc w.heap.size (fun k_ => some k_ ≠ ((.slice Ao43 t215.length co43) : Value).ownBlock ∧ some k_ ≠ ((.slice Ao63 t226.length co63) : Value).ownBlock ∧ some k_ ≠ ((.slice Ao73 t231.length co73) : Value).ownBlock) (.slice Ao53 t221.length co53) t248) ∧ Aside0 (Kd.R (Kd.int .i64) 2 wc w.heap.size (fun k_ => some k_ ≠ ((.slice Ao43 t215.length co43) : Value).ownBlock ∧ some k_ ≠ ((.slice Ao53 t221.length co53) : Value).ownBlock ∧ some k_ ≠ ((.slice Ao73 t231.length co73) : Value).ownBlock) (.slice Ao63 t226.length co63) t250) ∧ Aside0 (Kd.R (Kd.int .i64) 2 wc w.heap.size (fun k_ => some k_ ≠ ((.slice Ao43 t215.length co43) : Value).ownBlock ∧ some k_ ≠ ((.slice Ao53 t221.length co53) : Value).ownBlock ∧ some k_ ≠ ((.slice Ao63 t226.length co63) : Value).ownBlock) (.slice Ao73 t231.length co73) t231) ∧ Aside0 (wc.heap[gb202]? = some (.cells #[.int .i64 a0_0, (.slice A0_1 l0_1.length c0_1)] 32 (0, 0))) ∧ Aside0 (wc.heap[gb203]? = some (.cells #[.int .i64 a1_0, (.slice A1_1 l1_1.length c1_1)] 32 (0, 0))) ∧ Aside0 (wc.heap[gb219]? = some (.cells #[.int .i64 t214, (.slice Ao43 t215.length co43)] 35 (0, 0))) ∧ Aside0 (wc.heap[gb224]? = some (.cells #[.int .i64 t220, (.slice Ao53 t221.length co53)] 35 (0, 0))) ∧ Aside0 (wc.heap[gb229]? = some (.cells #[.int .i64 t225, (.slice Ao63 t226.length co63)] 35 (0, 0))) ∧ Aside0 (wc.heap[gb235]? = some (.cells #[.int .i64 t230, (.slice Ao73 t231.length co73)] 35 (0, 0))) ∧ Aside0 (Below w.heap.size w wc))
        case first =>
         have H := HC109.out
         clear HC109
         by_cases c131 : t249 < 0
         ·rw [if_pos c131] at H
          have c131b0 : decide (t249 < 0) = true := decide_eq_true c131
          clear c131
          (first|rw [c131b0]|(simp only [i64_w, i32_w]; rw [c131b0]) | skip)
          have H' := Am H
          clear H
          go_wp2
          go_meet
          case rel => exact ⟨_, (true), (by first | rfl|(simp; done)|(simp [*]; done)), H', ⟨by have := HJ25.out; first|omega|exact Nat.le_refl _⟩, ⟨by exact R_mono HO_220001.out (fun _ hk => ⟨hk.1, ⟨hk.2.1, hk.2.2.1⟩⟩)⟩, ⟨by exact R_mono HO_225001.out (fun _ hk => ⟨hk.1, ⟨hk.2.1, hk.2.2.1⟩⟩)⟩, ⟨by exact R_mono HO_230001.out (fun _ hk => ⟨hk.1, ⟨hk.2.1, hk.2.2.1⟩⟩)⟩, ⟨by exact R_mono HO_236001.out (fun _ hk => ⟨hk.1, ⟨hk.2.1, hk.2.2.1⟩⟩)⟩, ⟨BK202.out⟩, ⟨BK203.out⟩, ⟨BK219.out⟩, ⟨BK224.out⟩, ⟨BK229.out⟩, ⟨BK235.out⟩, ⟨by repeat (first|(with_reducible first|exact HB.out|apply bA|apply bN|apply b1|refine bS ?_ GE219.out|refine bS ?_ GE224.out|refine bS ?_ GE229.out|refine bS ?_ GE235.out)|exact HB.out)⟩⟩
         ·rw [if_neg c131] at H
          have c131b0 : decide (t249 < 0) = false := decide_eq_false c131
          clear c131
          (first|rw [c131b0]|(simp only [i64_w, i32_w]; rw [c131b0]) | skip)
          replace H := Option.bind_eq_some_iff.mp H
          obtain ⟨t251, A1320, H⟩ := H
          replace H : (if t251 = true then (j1 kj25 a2 t218 (t234 != t218) a0_0 l0_1 a1_0 l1_1 t214 t215 t230 t231) else (j1 kj25 a2 t218 true a0_0 l0_1 a1_0 l1_1 t214 t215 t230 t231)) = some r := H
          have A132 := Am A1320
          clear A1320
          by_cases c133 : t251 = true
          ·subst c133
           have H1 : (j1 kj25 a2 t218 (t234 != t218) a0_0 l0_1 a1_0 l1_1 t214 t215 t230 t231) = some r := by rw [if_pos rfl] at H; exact H
           clear H
           have H := H1
           clear H1
           have H' := Am H
           clear H
           have hnb134 := NB235_202.out
           have hnc134 := NB202_235.out
           have hnb135 := NB235_203.out
           have hnc135 := NB203_235.out
           have hnb136 := NB235_219.out
           have hnc136 := NB219_235.out
           have hnb137 := NB235_224.out
           have hnc137 := NB224_235.out
           have hnb138 := NB235_229.out
           have hnc138 := NB229_235.out
           have hcz139_0 : w130.cell? ⟨gb235, 0, none⟩ = some (.int .i64 t230) := (blk_cell BK235.out 0).trans rfl
           have hcz139_1 : w130.cell? ⟨gb235, 1, none⟩ = some (.slice Ao73 t231.length co73) := (blk_cell BK235.out 1).trans rfl
           have hfz139_0 := blk_frozen BK235.out 0
           have hfz139_1 := blk_frozen BK235.out 1
           have hnb140 := NB219_202.out
           have hnc140 := NB202_219.out
           have hnb141 := NB219_203.out
           have hnc141 := NB203_219.out
           have hnb142 := NB219_224.out
           have hnc142 := NB224_219.out
           have hnb143 := NB219_229.out
           have hnc143 := NB229_219.out
           have hcz144_0 : w130.cell? ⟨gb219, 0, none⟩ = some (.int .i64 t214) := (blk_cell BK219.out 0).trans rfl
           have hcz144_1 : w130.cell? ⟨gb219, 1, none⟩ = some (.slice Ao43 t215.length co43) := (blk_cell BK219.out 1).trans rfl
           have hfz144_0 := blk_frozen BK219.out 0
           have hfz144_1 := blk_frozen BK219.out 1
           go_wp2_with (first|(go_at_call 26; (with_reducible refine (laws_eqCyclo.calls kj25 t230 _ _ t231 t214 _ _ t215 true _ ?side1 ?side2 ?side3 ?side4 A132.out).mono ?_); (case side1 => repeat (first|exact (R_reads' HO_236001.out).2.2|(with_reducible first|refine Kd.C_alloc ?_ _|refine Kd.C_drewN ?_ _|refine Kd.C_drew ?_))); (case side2 => exact (R_reads' HO_236001.out).2.1); (case side3 => repeat (first|exact (R_reads' HO_220001.out).2.2|(with_reducible first|refine Kd.C_alloc ?_ _|refine Kd.C_drewN ?_ _|refine Kd.C_drew ?_))); (case side4 => exact (R_reads' HO_220001.out).2.1); rintro e w145 ⟨rfl, hb⟩; have n0_ := Am (R_below HO_220001.out hb); have n1_ := Am (R_below HO_225001.out hb); have n2_ := Am (R_below HO_230001.out hb); have n3_ := Am (R_below HO_236001.out hb); have n4_ := Am (R_below HO240.out hb); have n5_ := Am (R_below HO245.out hb); have n6_ := Am (bb hb BK202.out); have n7_ := Am (bb hb BK203.out); have n8_ := Am (bb hb BK219.out); have n9_ := Am (bb hb BK224.out); have n10_ := Am (bb hb BK229.out); have n11_ := Am (bb hb BK235.out); have n12_ := Am (below_step (by repeat (first|(with_reducible first|exact HB.out|apply bA|apply bN|apply b1|refine bS ?_ GE219.out|refine bS ?_ GE224.out|refine bS ?_ GE229.out|refine bS ?_ GE235.out)|exact HB.out)) hb); clear HO_220001; clear HO_225001; clear HO_230001; clear HO_236001; clear HO240; clear HO245; clear BK202; clear BK203; clear BK219; clear BK224; clear BK229; clear BK235; clear HB; have HO_220001 := n0_; have HO_225001 := n1_; have HO_230001 := n2_; have HO_236001 := n3_; have HO240 := n4_; have HO245 := n5_; have BK202 := n6_; have BK203 := n7_; have BK219 := n8_; have BK224 := n9_; have BK229 := n10_; have BK235 := n11_; have HB := n12_; clear n0_ n1_ n2_ n3_ n4_ n5_ n6_ n7_ n8_ n9_ n10_ n11_ n12_; (try clear hb)))
           go_meet
           case rel => exact ⟨_, ((t234 != t218)), (by first | rfl|(simp; done)|(simp [*]; done)), H', ⟨by have := HJ25.out; first|omega|exact Nat.le_refl _⟩, ⟨by exact R_mono HO_220001.out (fun _ hk => ⟨hk.1, ⟨hk.2.1, hk.2.2.1⟩⟩)⟩, ⟨by exact R_mono HO_225001.out (fun _ hk => ⟨hk.1, ⟨hk.2.1, hk.2.2.1⟩⟩)⟩, ⟨by exact R_mono HO_230001.out (fun _ hk => ⟨hk.1, ⟨hk.2.1, hk.2.2.1⟩⟩)⟩, ⟨by exact R_mono HO_236001.out (fun _ hk => ⟨hk.1, ⟨hk.2.1, hk.2.2.1⟩⟩)⟩, ⟨BK202.out⟩, ⟨BK203.out⟩, ⟨BK219.out⟩, ⟨BK224.out⟩, ⟨BK229.out⟩, ⟨BK235.out⟩, ⟨by repeat (first|(with_reducible first|exact HB.out|apply bA|apply bN|apply b1|refine bS ?_ GE219.out|refine bS ?_ GE224.out|refine bS ?_ GE229.out|refine bS ?_ GE235.out)|exact HB.out)⟩⟩
          ·replace c133 := Bool.eq_false_iff.mpr c133
           subst c133
           have H1 : (j1 kj25 a2 t218 true a0_0 l0_1 a1_0 l1_1 t214 t215 t230 t231) = some r := by rw [if_neg (show ¬ (false = true) by decide)] at H; exact H
           clear H
           have H := H1
           clear H1
           have H' := Am H
           clear H
           have hnb146 := NB235_202.out
           have hnc146 := NB202_235.out
           have hnb147 := NB235_203.out
           have hnc147 := NB203_235.out
           have hnb148 := NB235_219.out
           have hnc148 := NB219_235.out
           have hnb149 := NB235_224.out
           have hnc149 := NB224_235.out
           have hnb150 := NB235_229.out
           have hnc150 := NB229_235.out
           have hcz151_0 : w130.cell? ⟨gb235, 0, none⟩ = some (.int .i64 t230) := (blk_cell BK235.out 0).trans rfl
           have hcz151_1 : w130.cell? ⟨gb235, 1, none⟩ = some (.slice Ao73 t231.length co73) := (blk_cell BK235.out 1).trans rfl
           have hfz151_0 := blk_frozen BK235.out 0
           have hfz151_1 := blk_frozen BK235.out 1
           have hnb152 := NB219_202.out
           have hnc152 := NB202_219.out
           have hnb153 := NB219_203.out
           have hnc153 := NB203_219.out
           have hnb154 := NB219_224.out
           have hnc154 := NB224_219.out
           have hnb155 := NB219_229.out
           have hnc155 := NB229_219.out
           have hcz156_0 : w130.cell? ⟨gb219, 0, none⟩ = some (.int .i64 t214) := (blk_cell BK219.out 0).trans rfl
           have hcz156_1 : w130.cell? ⟨gb219, 1, none⟩ = some (.slice Ao43 t215.length co43) := (blk_cell BK219.out 1).trans rfl
           have hfz156_0 := blk_frozen BK219.out 0
           have hfz156_1 := blk_frozen BK219.out 1
           go_wp2_with (first|(go_at_call 26; (with_reducible refine (laws_eqCyclo.calls kj25 t230 _ _ t231 t214 _ _ t215 false _ ?side1 ?side2 ?side3 ?side4 A132.out).mono ?_); (case side1 => repeat (first|exact (R_reads' HO_236001.out).2.2|(with_reducible first|refine Kd.C_alloc ?_ _|refine Kd.C_drewN ?_ _|refine Kd.C_drew ?_))); (case side2 => exact (R_reads' HO_236001.out).2.1); (case side3 => repeat (first|exact (R_reads' HO_220001.out).2.2|(with_reducible first|refine Kd.C_alloc ?_ _|refine Kd.C_drewN ?_ _|refine Kd.C_drew ?_))); (case side4 => exact (R_reads' HO_220001.out).2.1); rintro e w157 ⟨rfl, hb⟩; have n0_ := Am (R_below HO_220001.out hb); have n1_ := Am (R_below HO_225001.out hb); have n2_ := Am (R_below HO_230001.out hb); have n3_ := Am (R_below HO_236001.out hb); have n4_ := Am (R_below HO240.out hb); have n5_ := Am (R_below HO245.out hb); have n6_ := Am (bb hb BK202.out); have n7_ := Am (bb hb BK203.out); have n8_ := Am (bb hb BK219.out); have n9_ := Am (bb hb BK224.out); have n10_ := Am (bb hb BK229.out); have n11_ := Am (bb hb BK235.out); have n12_ := Am (below_step (by repeat (first|(with_reducible first|exact HB.out|apply bA|apply bN|apply b1|refine bS ?_ GE219.out|refine bS ?_ GE224.out|refine bS ?_ GE229.out|refine bS ?_ GE235.out)|exact HB.out)) hb); clear HO_220001; clear HO_225001; clear HO_230001; clear HO_236001; clear HO240; clear HO245; clear BK202; clear BK203; clear BK219; clear BK224; clear BK229; clear BK235; clear HB; have HO_220001 := n0_; have HO_225001 := n1_; have HO_230001 := n2_; have HO_236001 := n3_; have HO240 := n4_; have HO245 := n5_; have BK202 := n6_; have BK203 := n7_; have BK219 := n8_; have BK224 := n9_; have BK229 := n10_; have BK235 := n11_; have HB := n12_; clear n0_ n1_ n2_ n3_ n4_ n5_ n6_ n7_ n8_ n9_ n10_ n11_ n12_; (try clear hb)))
           go_meet
           case rel => exact ⟨_, (true), (by first | rfl|(simp; done)|(simp [*]; done)), H', ⟨by have := HJ25.out; first|omega|exact Nat.le_refl _⟩, ⟨by exact R_mono HO_220001.out (fun _ hk => ⟨hk.1, ⟨hk.2.1, hk.2.2.1⟩⟩)⟩, ⟨by exact R_mono HO_225001.out (fun _ hk => ⟨hk.1, ⟨hk.2.1, hk.2.2.1⟩⟩)⟩, ⟨by exact R_mono HO_230001.out (fun _ hk => ⟨hk.1, ⟨hk.2.1, hk.2.2.1⟩⟩)⟩, ⟨by exact R_mono HO_236001.out (fun _ hk => ⟨hk.1, ⟨hk.2.1, hk.2.2.1⟩⟩)⟩, ⟨BK202.out⟩, ⟨BK203.out⟩, ⟨BK219.out⟩, ⟨BK224.out⟩, ⟨BK229.out⟩, ⟨BK235.out⟩, ⟨by repeat (first|(with_reducible first|exact HB.out|apply bA|apply bN|apply b1|refine bS ?_ GE219.out|refine bS ?_ GE224.out|refine bS ?_ GE229.out|refine bS ?_ GE235.out)|exact HB.out)⟩⟩
        case rest =>
         clear HC109
         try clear c12
         try clear c75
         try clear c100
         try clear c103
         try clear c106
         try clear c131
         try clear c131b0
         try clear c133
         try clear hcz123_0
         try clear hcz123_1
         try clear hcz129_0
         try clear hcz129_1
         try clear hcz139_0
         try clear hcz139_1
         try clear hcz144_0
         try clear hcz144_1
         try clear hcz151_0
         try clear hcz151_1
         try clear hcz156_0
         try clear hcz156_1
         try clear hcz46_0
         try clear hcz46_1
         try clear hcz52_0
         try clear hcz52_1
         try clear hcz55_0
         try clear hcz55_1
         try clear hcz62_0
         try clear hcz62_1
         try clear hcz64_0
         try clear hcz64_1
         try clear hcz72_0
         try clear hcz72_1
         try clear hcz81_0
         try clear hcz81_1
         try clear hcz86_0
         try clear hcz86_1
         try clear hcz93_0
         try clear hcz93_1
         try clear hcz98_0
         try clear hcz98_1
         try clear hfz123_0
         try clear hfz123_1
         try clear hfz129_0
         try clear hfz129_1
         try clear hfz139_0
         try clear hfz139_1
         try clear hfz144_0
         try clear hfz144_1
         try clear hfz151_0
         try clear hfz151_1
         try clear hfz156_0
         try clear hfz156_1
         try clear hfz46_0
         try clear hfz46_1
         try clear hfz52_0
         try clear hfz52_1
         try clear hfz55_0
         try clear hfz55_1
         try clear hfz62_0
         try clear hfz62_1
         try clear hfz64_0
         try clear hfz64_1
         try clear hfz72_0
         try clear hfz72_1
         try clear hfz81_0
         try clear hfz81_1
         try clear hfz86_0
         try clear hfz86_1
         try clear hfz93_0
         try clear hfz93_1
         try clear hfz98_0
         try clear hfz98_1
         obtain ⟨kq, x86_108, rfl, HA, HJ108, HO_220001, HO_225001, HO_230001, HO_236001, BK202, BK203, BK219, BK224, BK229, BK235, HB⟩ := hcut
         have hl225001_108 := (R_reads' HO_225001.out).1
         rw [hl225001_108] at HO_225001
         (try simp only [hl225001_108])
         (try simp only [hl225001_108] at BK202)
         (try simp only [hl225001_108] at BK203)
         (try simp only [hl225001_108] at BK219)
         (try simp only [hl225001_108] at BK224)
         (try simp only [hl225001_108] at BK229)
         (try simp only [hl225001_108] at BK235)
         (try simp only [hl225001_108] at HO_220001)
         (try simp only [hl225001_108] at HO_230001)
         (try simp only [hl225001_108] at HO_236001)
         have hl230001_108 := (R_reads' HO_230001.out).1
         rw [hl230001_108] at HO_230001
         (try simp only [hl230001_108])
         (try simp only [hl230001_108] at BK202)
         (try simp only [hl230001_108] at BK203)
         (try simp only [hl230001_108] at BK219)
         (try simp only [hl230001_108] at BK224)
         (try simp only [hl230001_108] at BK229)
         (try simp only [hl230001_108] at BK235)
         (try simp only [hl230001_108] at HO_220001)
         (try simp only [hl230001_108] at HO_225001)
         (try simp only [hl230001_108] at HO_236001)
         cases kq with
         | zero => exact absurd HA.out (by simp [j1])
         | succ kj108 =>
          have H := HA.out
          clear HA
          simp only [j1] at H
          by_cases c158 : x86_108 = true
          ·subst c158
           have H1 : (none) = some r := by rw [if_pos rfl] at H; exact H
           clear H
           have H := H1
           clear H1
           exact absurd H (by simp)
          ·replace c158 := Bool.eq_false_iff.mpr c158
           subst c158
           have H1 : ((laws_markCyclo.f kj108 t230 t231 1).bind fun bt252 => ((laws_heldCyclo.f kj108 t230 bt252.2 1).bind fun t254 => (if t254 < 0 then (none) else (if t254 = bt252.1 then ((laws_toCyclo.f kj108 a0_0 l0_1).bind fun bt255 => ((laws_toCyclo.f kj108 a1_0 l1_1).bind fun bt259 => ((impl_AddCyclos.f kj108 bt255.1 bt255.2 bt259.1 bt259.2 a2).bind fun bt263 => ((laws_eqCyclo.f kj108 bt263.1 bt263.2.1 t214 t215).bind fun t269 => (if t269 = true then (j2 kj108 bt252.1 (bt263.2.2 != t218) t230 bt252.2) else (j2 kj108 bt252.1 true t230 bt252.2)))))) else (none))))) = some r := by rw [if_neg (show ¬ (false = true) by decide)] at H; exact H
           clear H
           have H := H1
           clear H1
           replace H := Option.bind_eq_some_iff.mp H
           obtain ⟨⟨t252, t253⟩, A1590, H⟩ := H
           replace H : ((laws_heldCyclo.f kj108 t230 t253 1).bind fun t254 => (if t254 < 0 then (none) else (if t254 = t252 then ((laws_toCyclo.f kj108 a0_0 l0_1).bind fun bt255 => ((laws_toCyclo.f kj108 a1_0 l1_1).bind fun bt259 => ((impl_AddCyclos.f kj108 bt255.1 bt255.2 bt259.1 bt259.2 a2).bind fun bt263 => ((laws_eqCyclo.f kj108 bt263.1 bt263.2.1 t214 t215).bind fun t269 => (if t269 = true then (j2 kj108 t252 (bt263.2.2 != t218) t230 t253) else (j2 kj108 t252 true t230 t253)))))) else (none)))) = some r := H
           have A159 := Am A1590
           clear A1590
           replace H := Option.bind_eq_some_iff.mp H
           obtain ⟨t254, A1600, H⟩ := H
           replace H : (if t254 < 0 then (none) else (if t254 = t252 then ((laws_toCyclo.f kj108 a0_0 l0_1).bind fun bt255 => ((laws_toCyclo.f kj108 a1_0 l1_1).bind fun bt259 => ((impl_AddCyclos.f kj108 bt255.1 bt255.2 bt259.1 bt259.2 a2).bind fun bt263 => ((laws_eqCyclo.f kj108 bt263.1 bt263.2.1 t214 t215).bind fun t269 => (if t269 = true then (j2 kj108 t252 (bt263.2.2 != t218) t230 t253) else (j2 kj108 t252 true t230 t253)))))) else (none))) = some r := H
           have A160 := Am A1600
           clear A1600
           by_cases c161 : t254 < 0
           ·rw [if_pos c161] at H
            exact absurd H (by simp)
           ·rw [if_neg c161] at H
            have c161b0 : decide (t254 < 0) = false := decide_eq_false c161
            clear c161
            by_cases c162 : t254 = t252
            ·rw [if_pos c162] at H
             have c162b0 : (t254 == t252) = true := beq_iff_eq.mpr c162
             have c162b1 : (t254 != t252) = false := bne_eq_false_iff_eq.mpr c162
             clear c162
             replace H := Option.bind_eq_some_iff.mp H
             obtain ⟨⟨t255, t256⟩, A1630, H⟩ := H
             replace H : ((laws_toCyclo.f kj108 a1_0 l1_1).bind fun bt259 => ((impl_AddCyclos.f kj108 t255 t256 bt259.1 bt259.2 a2).bind fun bt263 => ((laws_eqCyclo.f kj108 bt263.1 bt263.2.1 t214 t215).bind fun t269 => (if t269 = true then (j2 kj108 t252 (bt263.2.2 != t218) t230 t253) else (j2 kj108 t252 true t230 t253))))) = some r := H
             have A163 := Am A1630
             clear A1630
             replace H := Option.bind_eq_some_iff.mp H
             obtain ⟨⟨t259, t260⟩, A1640, H⟩ := H
             replace H : ((impl_AddCyclos.f kj108 t255 t256 t259 t260 a2).bind fun bt263 => ((laws_eqCyclo.f kj108 bt263.1 bt263.2.1 t214 t215).bind fun t269 => (if t269 = true then (j2 kj108 t252 (bt263.2.2 != t218) t230 t253) else (j2 kj108 t252 true t230 t253)))) = some r := H
             have A164 := Am A1640
             clear A1640
             replace H := Option.bind_eq_some_iff.mp H
             obtain ⟨⟨t263, t264, t267⟩, A1650, H⟩ := H
             replace H : ((laws_eqCyclo.f kj108 t263 t264 t214 t215).bind fun t269 => (if t269 = true then (j2 kj108 t252 (t267 != t218) t230 t253) else (j2 kj108 t252 true t230 t253))) = some r := H
             have A165 := Am A1650
             clear A1650
             have HC166 := Am H
             clear H
             have hnb167 := NB235_202.out
             have hnc167 := NB202_235.out
             have hnb168 := NB235_203.out
             have hnc168 := NB203_235.out
             have hnb169 := NB235_219.out
             have hnc169 := NB219_235.out
             have hnb170 := NB235_224.out
             have hnc170 := NB224_235.out
             have hnb171 := NB235_229.out
             have hnc171 := NB229_235.out
             have hcz172_0 : wc.cell? ⟨gb235, 0, none⟩ = some (.int .i64 t230) := (blk_cell BK235.out 0).trans rfl
             have hcz172_1 : wc.cell? ⟨gb235, 1, none⟩ = some (.slice Ao73 t231.length co73) := (blk_cell BK235.out 1).trans rfl
             have hfz172_0 := blk_frozen BK235.out 0
             have hfz172_1 := blk_frozen BK235.out 1
             try go_wp2_with (first|((with_reducible refine gate_callee (f := 37) rfl ?_); refine goesL_ (some 89) rfl rfl Try.func37 (by kernel_rfl) rfl #[.agg #[.int .i64 t230, .slice Ao73 t231.length co73], .int .i64 1] rfl (by (try simp only [map_toArray, map_cons, map_nil]); first | done | rfl|(simp only [List.length_drop, List.length_take]; rfl)) ?_; (with_reducible refine (laws_markCyclo.calls kj108 t230 (fun k_ => some k_ = (.slice Ao73 t231.length co73 : Value).ownBlock) (.slice Ao73 t231.length co73) t231 1 t252 t253 w _ ?side1 ?side2 A159.out).mono ?_); (case side1 => repeat (first|(with_reducible first | exact HB.out | apply below_alloc | apply pw_below_drewN | apply below_drew1|refine bS ?_ GE219.out|refine bS ?_ GE224.out|refine bS ?_ GE229.out|refine bS ?_ GE235.out) | exact HB.out)); (case side2 => exact R_tight rfl HO_236001.out); rintro e w173 ⟨rfl, hy0, hb, hkp⟩; refine ⟨_, rfl, ?_⟩; have n0_ := Am (R_mono (ok' := fun k_ => some k_ ≠ (.slice Ao53 t248.length co53 : Value).ownBlock ∧ some k_ ≠ (.slice Ao63 t250.length co63 : Value).ownBlock ∧ some k_ ≠ (.slice Ao73 t231.length co73 : Value).ownBlock) (R_keptB (HO_220001.out) hkp (fun k_ hk_ hs_ => (hk_.2.2) hs_)) (fun k_ hk_ => ⟨hk_.1.1, hk_.1.2.1, hk_.1.2.2⟩)); have n1_ := Am (R_mono (ok' := fun k_ => some k_ ≠ (.slice Ao43 t215.length co43 : Value).ownBlock ∧ some k_ ≠ (.slice Ao63 t250.length co63 : Value).ownBlock ∧ some k_ ≠ (.slice Ao73 t231.length co73 : Value).ownBlock) (R_keptB (HO_225001.out) hkp (fun k_ hk_ hs_ => (hk_.2.2) hs_)) (fun k_ hk_ => ⟨hk_.1.1, hk_.1.2.1, hk_.1.2.2⟩)); have n2_ := Am (R_mono (ok' := fun k_ => some k_ ≠ (.slice Ao43 t215.length co43 : Value).ownBlock ∧ some k_ ≠ (.slice Ao53 t248.length co53 : Value).ownBlock ∧ some k_ ≠ (.slice Ao73 t231.length co73 : Value).ownBlock) (R_keptB (HO_230001.out) hkp (fun k_ hk_ hs_ => (hk_.2.2) hs_)) (fun k_ hk_ => ⟨hk_.1.1, hk_.1.2.1, hk_.1.2.2⟩)); have n3_ := Am (R_reok rfl hy0 (fun k_ e_ => HO_236001.out.1 k_ e_)); have n4_ := Am (blk_kept BK202.out hkp (fun hs_ => (fun e_ => (R_ne HO_236001.out BK202.out (by decide)) e_) hs_)); have n5_ := Am (blk_kept BK203.out hkp (fun hs_ => (fun e_ => (R_ne HO_236001.out BK203.out (by decide)) e_) hs_)); have n6_ := Am (blk_kept BK219.out hkp (fun hs_ => (fun e_ => (R_ne HO_236001.out BK219.out (by decide)) e_) hs_)); have n7_ := Am (blk_kept BK224.out hkp (fun hs_ => (fun e_ => (R_ne HO_236001.out BK224.out (by decide)) e_) hs_)); have n8_ := Am (blk_kept BK229.out hkp (fun hs_ => (fun e_ => (R_ne HO_236001.out BK229.out (by decide)) e_) hs_)); have n9_ := Am (blk_kept BK235.out hkp (fun hs_ => (fun e_ => (R_ne HO_236001.out BK235.out (by decide)) e_) hs_)); have n10_ := Am (hb); clear HO_220001; clear HO_225001; clear HO_230001; clear HO_236001; clear BK202; clear BK203; clear BK219; clear BK224; clear BK229; clear BK235; clear HB; have HO_220001 := n0_; have HO_225001 := n1_; have HO_230001 := n2_; have HO_236001 := n3_; have BK202 := n4_; have BK203 := n5_; have BK219 := n6_; have BK224 := n7_; have BK229 := n8_; have BK235 := n9_; have HB := n10_; clear n0_ n1_ n2_ n3_ n4_ n5_ n6_ n7_ n8_ n9_ n10_; (try clear hb); (try clear hkp); (try clear hy0); have hcz174_0 : w173.cell? ⟨gb235, 0, none⟩ = some (.int .i64 t230) := (blk_cell BK235.out 0).trans rfl; have hcz174_1 : w173.cell? ⟨gb235, 1, none⟩ = some (.slice Ao73 t231.length co73) := (blk_cell BK235.out 1).trans rfl; have hfz174_0 := blk_frozen BK235.out 0; have hfz174_1 := blk_frozen BK235.out 1)|((with_reducible refine gate_callee (f := 38) rfl ?_); refine goesL_ (some 92) rfl rfl Try.func38 (by kernel_rfl) rfl #[.agg #[.int .i64 t230, .slice Ao73 t253.length co73], .int .i64 1] rfl (by (try simp only [map_toArray, map_cons, map_nil]); first | done|(rw [show t253.length = t231.length from (R_reads' HO_236001.out).1.symm] <;> rfl) | rfl|(simp only [List.length_drop, List.length_take]; rfl)) ?_; (with_reducible refine (laws_heldCyclo.calls kj108 t230 _ _ t253 1 t254 _ ?side1 ?side2 A160.out).mono ?_); (case side1 => repeat (first|exact (R_reads' HO_236001.out).2.2|(with_reducible first|refine Kd.C_alloc ?_ _|refine Kd.C_drewN ?_ _|refine Kd.C_drew ?_))); (case side2 => rw [show t253.length = t231.length from (R_reads' HO_236001.out).1.symm]; exact (R_reads' HO_236001.out).2.1); rintro e w175 ⟨rfl, hb⟩; refine ⟨_, rfl, ?_⟩; have n0_ := Am (R_below HO_220001.out hb); have n1_ := Am (R_below HO_225001.out hb); have n2_ := Am (R_below HO_230001.out hb); have n3_ := Am (R_below HO_236001.out hb); have n4_ := Am (bb hb BK202.out); have n5_ := Am (bb hb BK203.out); have n6_ := Am (bb hb BK219.out); have n7_ := Am (bb hb BK224.out); have n8_ := Am (bb hb BK229.out); have n9_ := Am (bb hb BK235.out); have n10_ := Am (below_step (by repeat (first|(with_reducible first|exact HB.out|apply bA|apply bN|apply b1|refine bS ?_ GE219.out|refine bS ?_ GE224.out|refine bS ?_ GE229.out|refine bS ?_ GE235.out)|exact HB.out)) hb); clear HO_220001; clear HO_225001; clear HO_230001; clear HO_236001; clear BK202; clear BK203; clear BK219; clear BK224; clear BK229; clear BK235; clear HB; have HO_220001 := n0_; have HO_225001 := n1_; have HO_230001 := n2_; have HO_236001 := n3_; have BK202 := n4_; have BK203 := n5_; have BK219 := n6_; have BK224 := n7_; have BK229 := n8_; have BK235 := n9_; have HB := n10_; clear n0_ n1_ n2_ n3_ n4_ n5_ n6_ n7_ n8_ n9_ n10_; (try clear hb)))
             have n0_ := Am (R_drew HO_220001.out)
             have n1_ := Am (R_drew HO_225001.out)
             have n2_ := Am (R_drew HO_230001.out)
             have n3_ := Am (R_drew HO_236001.out)
             have n4_ := Am (blk_drew BK202.out)
             have n5_ := Am (blk_drew BK203.out)
             have n6_ := Am (blk_drew BK219.out)
             have n7_ := Am (blk_drew BK224.out)
             have n8_ := Am (blk_drew BK229.out)
             have n9_ := Am (blk_drew BK235.out)
             have n10_ := Am (below_drew1 HB.out)
             clear HO_220001 HO_225001 HO_230001 HO_236001 BK202 BK203 BK219 BK224 BK229 BK235 HB; have HO_220001 := n0_; have HO_225001 := n1_; have HO_230001 := n2_; have HO_236001 := n3_; have BK202 := n4_; have BK203 := n5_; have BK219 := n6_; have BK224 := n7_; have BK229 := n8_; have BK235 := n9_; have HB := n10_; clear n0_ n1_ n2_ n3_ n4_ n5_ n6_ n7_ n8_ n9_ n10_
             refine start_ (n := 12) (S := fun w' => w'.cell? ⟨gb202, 0, none⟩ = some (.int .i64 a0_0) ∧ w'.cell? ⟨gb202, 1, none⟩ = some (.slice A0_1 l0_1.length c0_1) ∧ w'.cell? ⟨gb203, 0, none⟩ = some (.int .i64 a1_0) ∧ w'.cell? ⟨gb203, 1, none⟩ = some (.slice A1_1 l1_1.length c1_1)) (ds := []) #[false, false, false, false, false, false, false, false, false, false, false, false] (by kernel_rfl) rfl rfl ⟨(blk_cell BK202.out 0).trans rfl, (blk_cell BK202.out 1).trans rfl, (blk_cell BK203.out 0).trans rfl, (blk_cell BK203.out 1).trans rfl⟩ (fun hHeld => ?_); refine with_tabW tab31 bits31 (fun HT_ HW_ => ?_)
             generalize w175.drew = w176 at HO_220001 HO_225001 HO_230001 HO_236001 BK202 BK203 BK219 BK224 BK229 BK235 HB hHeld ⊢
             refine pure_ (i := 4) (N := some 103) (v := ?_) (a' := ?_) #[false, false, false, false, true, false, false, false, false, false, false, false] rfl rfl (any_of HT_.out (by kernel_rfl)) (fun _ _ _ h => h) (Or.inl ⟨by rfl, ?_⟩) ?_ ?_
             rotate_left
             ·intro w'
              go_simp
              with_reducible rfl
             rotate_left
             ·simp only [Act.put, setIfInBounds_toArray, set_cons_zero, set_cons_succ, i64_w, i32_w]
              rfl
             refine take_ (i := 0) (N := some 99) (v := ?_) (a' := ?_) #[true, false, false, false, true, false, false, false, false, false, false, false] rfl rfl (take_ofW HT_.out HW_.out (by kernel_rfl)) (fun _ _ _ h => h) (Or.inl ⟨by rfl, ?_⟩) hHeld ?_ ?_
             rotate_left
             ·rintro w' ⟨s0, s1, s2, s3⟩
              go_simp
              with_reducible rfl
             rotate_left
             ·simp only [Act.put, setIfInBounds_toArray, set_cons_zero, set_cons_succ, i64_w, i32_w]
              rfl
             refine take_ (i := 2) (N := some 101) (v := ?_) (a' := ?_) #[true, false, true, false, true, false, false, false, false, false, false, false] rfl rfl (take_ofW HT_.out HW_.out (by kernel_rfl)) (fun _ _ _ h => h) (Or.inl ⟨by rfl, ?_⟩) hHeld ?_ ?_
             rotate_left
             ·rintro w' ⟨s0, s1, s2, s3⟩
              go_simp
              with_reducible rfl
             rotate_left
             ·simp only [Act.put, setIfInBounds_toArray, set_cons_zero, set_cons_succ, i64_w, i32_w]
              rfl
             refine join_ (σ := Value × Value × Value × Nat) 2 #[true, true, true, true, true, true, true, true, true, true, false, false] (fun s_ => [(100, .agg #[.int .i64 t255, s_.1]), (102, .agg #[.int .i64 t259, s_.2.1]), (104, .tuple #[.agg #[.int .i64 t263, s_.2.2.1], .int .i64 t267]), (17, .pointer (some ⟨s_.2.2.2, 0, none⟩)), (98, .tuple #[.agg #[.int .i64 t263, s_.2.2.1], .int .i64 t267]), (105, .agg #[.int .i64 t263, s_.2.2.1]), (106, .int .i64 t267)]) (fun s_ w' => (w'.cell? ⟨gb202, 0, none⟩ = some (.int .i64 a0_0) ∧ w'.cell? ⟨gb202, 1, none⟩ = some (.slice A0_1 l0_1.length c0_1) ∧ w'.cell? ⟨gb203, 0, none⟩ = some (.int .i64 a1_0) ∧ w'.cell? ⟨gb203, 1, none⟩ = some (.slice A1_1 l1_1.length c1_1)) ∧ (Kd.R (Kd.int .i64) 2 w' w.heap.size (fun k_ => some k_ ≠ (s_.2.1 : Value).ownBlock ∧ some k_ ≠ (s_.2.2.1 : Value).ownBlock ∧ some k_ ≠ (.slice Ao43 t215.length co43 : Value).ownBlock ∧ some k_ ≠ (.slice Ao53 t248.length co53 : Value).ownBlock ∧ some k_ ≠ (.slice Ao63 t250.length co63 : Value).ownBlock ∧ some k_ ≠ (.slice Ao73 t231.length co73 : Value).ownBlock) s_.1 t256) ∧ (Kd.R (Kd.int .i64) 2 w' w.heap.size (fun k_ => some k_ ≠ (s_.1 : Value).ownBlock ∧ some k_ ≠ (s_.2.2.1 : Value).ownBlock ∧ some k_ ≠ (.slice Ao43 t215.length co43 : Value).ownBlock ∧ some k_ ≠ (.slice Ao53 t248.length co53 : Value).ownBlock ∧ some k_ ≠ (.slice Ao63 t250.length co63 : Value).ownBlock ∧ some k_ ≠ (.slice Ao73 t231.length co73 : Value).ownBlock) s_.2.1 t260) ∧ (Kd.R (Kd.int .i64) 2 w' w.heap.size (fun k_ => some k_ ≠ (s_.1 : Value).ownBlock ∧ some k_ ≠ (s_.2.1 : Value).ownBlock ∧ some k_ ≠ (.slice Ao43 t215.length co43 : Value).ownBlock ∧ some k_ ≠ (.slice Ao53 t248.length co53 : Value).ownBlock ∧ some k_ ≠ (.slice Ao63 t250.length co63 : Value).ownBlock ∧ some k_ ≠ (.slice Ao73 t231.length co73 : Value).ownBlock) s_.2.2.1 t264) ∧ (Kd.R (Kd.int .i64) 2 w' w.heap.size (fun k_ => some k_ ≠ (s_.1 : Value).ownBlock ∧ some k_ ≠ (s_.2.1 : Value).ownBlock ∧ some k_ ≠ (s_.2.2.1 : Value).ownBlock ∧ some k_ ≠ (.slice Ao53 t248.length co53 : Value).ownBlock ∧ some k_ ≠ (.slice Ao63 t250.length co63 : Value).ownBlock ∧ some k_ ≠ (.slice Ao73 t231.length co73 : Value).ownBlock) (.slice Ao43 t215.length co43) t215) ∧ (Kd.R (Kd.int .i64) 2 w' w.heap.size (fun k_ => some k_ ≠ (s_.1 : Value).ownBlock ∧ some k_ ≠ (s_.2.1 : Value).ownBlock ∧ some k_ ≠ (s_.2.2.1 : Value).ownBlock ∧ some k_ ≠ (.slice Ao43 t215.length co43 : Value).ownBlock ∧ some k_ ≠ (.slice Ao63 t250.length co63 : Value).ownBlock ∧ some k_ ≠ (.slice Ao73 t231.length co73 : Value).ownBlock) (.slice Ao53 t248.length co53) t248) ∧ (Kd.R (Kd.int .i64) 2 w' w.heap.size (fun k_ => some k_ ≠ (s_.1 : Value).ownBlock ∧ some k_ ≠ (s_.2.1 : Value).ownBlock ∧ some k_ ≠ (s_.2.2.1 : Value).ownBlock ∧ some k_ ≠ (.slice Ao43 t215.length co43 : Value).ownBlock ∧ some k_ ≠ (.slice Ao53 t248.length co53 : Value).ownBlock ∧ some k_ ≠ (.slice Ao73 t231.length co73 : Value).ownBlock) (.slice Ao63 t250.length co63) t250) ∧ (Kd.R (Kd.int .i64) 2 w' w.heap.size (fun k_ => some k_ ≠ (s_.1 : Value).ownBlock ∧ some k_ ≠ (s_.2.1 : Value).ownBlock ∧ some k_ ≠ (s_.2.2.1 : Value).ownBlock ∧ some k_ ≠ (.slice Ao43 t215.length co43 : Value).ownBlock ∧ some k_ ≠ (.slice Ao53 t248.length co53 : Value).ownBlock ∧ some k_ ≠ (.slice Ao63 t250.length co63 : Value).ownBlock) (.slice Ao73 t231.length co73) t253) ∧ (w'.heap[gb202]? = some (.cells #[.int .i64 a0_0, .slice A0_1 l0_1.length c0_1] 32 (0, 0))) ∧ (w'.heap[gb203]? = some (.cells #[.int .i64 a1_0, .slice A1_1 l1_1.length c1_1] 32 (0, 0))) ∧ (w'.heap[gb219]? = some (.cells #[.int .i64 t214, .slice Ao43 t215.length co43] 35 (0, 0))) ∧ (w'.heap[gb224]? = some (.cells #[.int .i64 t220, .slice Ao53 t248.length co53] 35 (0, 0))) ∧ (w'.heap[gb229]? = some (.cells #[.int .i64 t225, .slice Ao63 t250.length co63] 35 (0, 0))) ∧ (w'.heap[gb235]? = some (.cells #[.int .i64 t230, .slice Ao73 t231.length co73] 35 (0, 0))) ∧ (w'.heap[s_.2.2.2]? = some (.cells #[.int .i64 0, .slice none 0 0] 35 (0, 0))) ∧ (w.heap.size ≤ s_.2.2.2) ∧ (w.heap.size ≤ s_.2.2.2) ∧ (gb202 ≠ s_.2.2.2) ∧ (s_.2.2.2 ≠ gb202) ∧ (gb203 ≠ s_.2.2.2) ∧ (s_.2.2.2 ≠ gb203) ∧ (gb219 ≠ s_.2.2.2) ∧ (s_.2.2.2 ≠ gb219) ∧ (gb224 ≠ s_.2.2.2) ∧ (s_.2.2.2 ≠ gb224) ∧ (gb229 ≠ s_.2.2.2) ∧ (s_.2.2.2 ≠ gb229) ∧ (gb235 ≠ s_.2.2.2) ∧ (s_.2.2.2 ≠ gb235) ∧ (Below w.heap.size w w')) ?_ ?_
             rotate_left
             ·intro hCont
              refine two_ (i := 1) (j := 9) (Ni := some 100) (Nj := some 17) #[true, true, true, false, true, false, false, false, false, false, false, false] #[true, false, true, false, true, false, false, false, false, true, false, false] rfl rfl rfl rfl (two_of HT_.out (by kernel_rfl)) (by decide) (by decide) (fun K hK => ?_) (fun K hK => ?_)
              ·skip
               refine goes_ Try.func24 (by kernel_rfl) rfl #[.agg #[.int .i64 a0_0, .slice A0_1 l0_1.length c0_1]] (by rfl) rfl rfl (by (try simp only [map_toArray, map_cons, map_nil]); first | done | rfl|(simp only [List.length_drop, List.length_take]; rfl)) ?_
               with_reducible refine (laws_toCyclo.calls kj108 a0_0 _ _ l0_1 t255 t256 _ ?side1 ?side2 A163.out).mono ?_
               (case side1 => repeat (first|exact (Kd.C_below HR0_1.out HB.out)|(with_reducible first|refine Kd.C_alloc ?_ _|refine Kd.C_drewN ?_ _|refine Kd.C_drew ?_)))
               (case side2 => exact HC0_1.out)
               rintro e w177 ⟨v257, rfl, ho0, hb⟩
               refine ⟨_, rfl, ?_⟩
               have n0_ := Am (R_elder' HO_220001.out (R_base ho0) hb)
               have n1_ := Am (R_elder' HO_225001.out (R_base ho0) hb)
               have n2_ := Am (R_elder' HO_230001.out (R_base ho0) hb)
               have n3_ := Am (R_elder' HO_236001.out (R_base ho0) hb)
               have n4_ := Am (R_lower (R_new' (R_new' (R_new' (R_new' ho0 (R_lt HO_220001.out)) (R_lt HO_225001.out)) (R_lt HO_230001.out)) (R_lt HO_236001.out)) (below_size (by repeat (first|(with_reducible first|exact HB.out|apply bA|apply bN|apply b1|refine bS ?_ GE219.out|refine bS ?_ GE224.out|refine bS ?_ GE229.out|refine bS ?_ GE235.out)|exact HB.out))))
               have n5_ := Am (bb hb BK202.out)
               have n6_ := Am (bb hb BK203.out)
               have n7_ := Am (bb hb BK219.out)
               have n8_ := Am (bb hb BK224.out)
               have n9_ := Am (bb hb BK229.out)
               have n10_ := Am (bb hb BK235.out)
               have n11_ := Am (below_step (by repeat (first|(with_reducible first|exact HB.out|apply bA|apply bN|apply b1|refine bS ?_ GE219.out|refine bS ?_ GE224.out|refine bS ?_ GE229.out|refine bS ?_ GE235.out)|exact HB.out)) hb)
               clear HO_220001 HO_225001 HO_230001 HO_236001 BK202 BK203 BK219 BK224 BK229 BK235 HB; have HO_220001 := n0_; have HO_225001 := n1_; have HO_230001 := n2_; have HO_236001 := n3_; have HO258 := n4_; have BK202 := n5_; have BK203 := n6_; have BK219 := n7_; have BK224 := n8_; have BK229 := n9_; have BK235 := n10_; have HB := n11_; clear n0_ n1_ n2_ n3_ n4_ n5_ n6_ n7_ n8_ n9_ n10_ n11_; (try clear hb); (try clear ho0)
               refine hK.out _ _ ⟨(blk_cell BK202.out 0).trans rfl, (blk_cell BK202.out 1).trans rfl, (blk_cell BK203.out 0).trans rfl, (blk_cell BK203.out 1).trans rfl⟩ (fun hHeld => ?_)
               clear hK K
               refine norm_ (a' := ?_) ?_ ?_
               rotate_left
               ·show Act.put _ (some 100) _ = _
                simp only [Act.put, setIfInBounds_toArray, set_cons_zero, set_cons_succ, i64_w, i32_w]
                rfl
               refine two_ (i := 3) (j := 9) (Ni := some 102) (Nj := some 17) #[true, true, true, true, true, false, false, false, false, false, false, false] #[true, true, true, false, true, false, false, false, false, true, false, false] rfl rfl rfl rfl (two_of HT_.out (by kernel_rfl)) (by decide) (by decide) (fun K hK => ?_) (fun K hK => ?_)
               ·skip
                refine goes_ Try.func24 (by kernel_rfl) rfl #[.agg #[.int .i64 a1_0, .slice A1_1 l1_1.length c1_1]] (by rfl) rfl rfl (by (try simp only [map_toArray, map_cons, map_nil]); first | done | rfl|(simp only [List.length_drop, List.length_take]; rfl)) ?_
                with_reducible refine (laws_toCyclo.calls kj108 a1_0 _ _ l1_1 t259 t260 _ ?side1 ?side2 A164.out).mono ?_
                (case side1 => repeat (first|exact (Kd.C_below HR1_1.out HB.out)|(with_reducible first|refine Kd.C_alloc ?_ _|refine Kd.C_drewN ?_ _|refine Kd.C_drew ?_)))
                (case side2 => exact HC1_1.out)
                rintro e w178 ⟨v261, rfl, ho0, hb⟩
                refine ⟨_, rfl, ?_⟩
                have n0_ := Am (R_elder' HO_220001.out (R_base ho0) hb)
                have n1_ := Am (R_elder' HO_225001.out (R_base ho0) hb)
                have n2_ := Am (R_elder' HO_230001.out (R_base ho0) hb)
                have n3_ := Am (R_elder' HO_236001.out (R_base ho0) hb)
                have n4_ := Am (R_elder' HO258.out (R_base ho0) hb)
                have n5_ := Am (R_lower (R_new' (R_new' (R_new' (R_new' (R_new' ho0 (R_lt HO_220001.out)) (R_lt HO_225001.out)) (R_lt HO_230001.out)) (R_lt HO_236001.out)) (R_lt HO258.out)) (below_size (by repeat (first|(with_reducible first|exact HB.out|apply bA|apply bN|apply b1|refine bS ?_ GE219.out|refine bS ?_ GE224.out|refine bS ?_ GE229.out|refine bS ?_ GE235.out)|exact HB.out))))
                have n6_ := Am (bb hb BK202.out)
                have n7_ := Am (bb hb BK203.out)
                have n8_ := Am (bb hb BK219.out)
                have n9_ := Am (bb hb BK224.out)
                have n10_ := Am (bb hb BK229.out)
                have n11_ := Am (bb hb BK235.out)
                have n12_ := Am (below_step (by repeat (first|(with_reducible first|exact HB.out|apply bA|apply bN|apply b1|refine bS ?_ GE219.out|refine bS ?_ GE224.out|refine bS ?_ GE229.out|refine bS ?_ GE235.out)|exact HB.out)) hb)
                clear HO_220001 HO_225001 HO_230001 HO_236001 HO258 BK202 BK203 BK219 BK224 BK229 BK235 HB; have HO_220001 := n0_; have HO_225001 := n1_; have HO_230001 := n2_; have HO_236001 := n3_; have HO258 := n4_; have HO262 := n5_; have BK202 := n6_; have BK203 := n7_; have BK219 := n8_; have BK224 := n9_; have BK229 := n10_; have BK235 := n11_; have HB := n12_; clear n0_ n1_ n2_ n3_ n4_ n5_ n6_ n7_ n8_ n9_ n10_ n11_ n12_; (try clear hb); (try clear ho0)
                obtain ⟨Ao179, co179, eo179⟩ := R_slice HO258.out
                (first|subst eo179|(injection eo179 with f1_ f2_ f3_; have f4_ := f1_.symm; have f5_ := f3_.symm; clear f1_ f2_ f3_; subst f4_; subst f5_))
                obtain ⟨Ao180, co180, eo180⟩ := R_slice HO262.out
                (first|subst eo180|(injection eo180 with f1_ f2_ f3_; have f4_ := f1_.symm; have f5_ := f3_.symm; clear f1_ f2_ f3_; subst f4_; subst f5_))
                refine hK.out _ _ ⟨(blk_cell BK202.out 0).trans rfl, (blk_cell BK202.out 1).trans rfl, (blk_cell BK203.out 0).trans rfl, (blk_cell BK203.out 1).trans rfl⟩ (fun hHeld => ?_)
                clear hK K
                refine norm_ (a' := ?_) ?_ ?_
                rotate_left
                ·show Act.put _ (some 102) _ = _
                 simp only [Act.put, setIfInBounds_toArray, set_cons_zero, set_cons_succ, i64_w, i32_w]
                 rfl
                refine two_ (i := 5) (j := 9) (Ni := some 104) (Nj := some 17) #[true, true, true, true, true, true, false, false, false, false, false, false] #[true, true, true, true, true, false, false, false, false, true, false, false] rfl rfl rfl rfl (two_of HT_.out (by kernel_rfl)) (by decide) (by decide) (fun K hK => ?_) (fun K hK => ?_)
                ·skip
                 refine goes_ Try.func36 (by kernel_rfl) rfl #[.agg #[.int .i64 t255, .slice Ao179 t256.length co179], .agg #[.int .i64 t259, .slice Ao180 t260.length co180], .int .i64 a2] (by rfl) rfl rfl (by (try simp only [map_toArray, map_cons, map_nil]); first | done | rfl|(simp only [List.length_drop, List.length_take]; rfl)) ?_
                 with_reducible refine (impl_AddCyclos.calls kj108 t255 _ _ t256 t259 _ _ t260 a2 t263 t264 t267 _ ?side1 ?side2 ?side3 ?side4 A165.out).mono ?_
                 (case side1 => repeat (first|exact (R_reads' HO258.out).2.2|(with_reducible first|refine Kd.C_alloc ?_ _|refine Kd.C_drewN ?_ _|refine Kd.C_drew ?_)))
                 (case side2 => exact (R_reads' HO258.out).2.1)
                 (case side3 => repeat (first|exact (R_reads' HO262.out).2.2|(with_reducible first|refine Kd.C_alloc ?_ _|refine Kd.C_drewN ?_ _|refine Kd.C_drew ?_)))
                 (case side4 => exact (R_reads' HO262.out).2.1)
                 rintro e w181 ⟨v265, rfl, ho0, hb⟩
                 refine ⟨_, rfl, ?_⟩
                 have n0_ := Am (R_elder' HO_220001.out (R_base ho0) hb)
                 have n1_ := Am (R_elder' HO_225001.out (R_base ho0) hb)
                 have n2_ := Am (R_elder' HO_230001.out (R_base ho0) hb)
                 have n3_ := Am (R_elder' HO_236001.out (R_base ho0) hb)
                 have n4_ := Am (R_elder' HO258.out (R_base ho0) hb)
                 have n5_ := Am (R_elder' HO262.out (R_base ho0) hb)
                 have n6_ := Am (R_lower (R_new' (R_new' (R_new' (R_new' (R_new' (R_new' ho0 (R_lt HO_220001.out)) (R_lt HO_225001.out)) (R_lt HO_230001.out)) (R_lt HO_236001.out)) (R_lt HO258.out)) (R_lt HO262.out)) (below_size (by repeat (first|(with_reducible first|exact HB.out|apply bA|apply bN|apply b1|refine bS ?_ GE219.out|refine bS ?_ GE224.out|refine bS ?_ GE229.out|refine bS ?_ GE235.out)|exact HB.out))))
                 have n7_ := Am (bb hb BK202.out)
                 have n8_ := Am (bb hb BK203.out)
                 have n9_ := Am (bb hb BK219.out)
                 have n10_ := Am (bb hb BK224.out)
                 have n11_ := Am (bb hb BK229.out)
                 have n12_ := Am (bb hb BK235.out)
                 have n13_ := Am (below_step (by repeat (first|(with_reducible first|exact HB.out|apply bA|apply bN|apply b1|refine bS ?_ GE219.out|refine bS ?_ GE224.out|refine bS ?_ GE229.out|refine bS ?_ GE235.out)|exact HB.out)) hb)
                 clear HO_220001 HO_225001 HO_230001 HO_236001 HO258 HO262 BK202 BK203 BK219 BK224 BK229 BK235 HB; have HO_220001 := n0_; have HO_225001 := n1_; have HO_230001 := n2_; have HO_236001 := n3_; have HO258 := n4_; have HO262 := n5_; have HO266 := n6_; have BK202 := n7_; have BK203 := n8_; have BK219 := n9_; have BK224 := n10_; have BK229 := n11_; have BK235 := n12_; have HB := n13_; clear n0_ n1_ n2_ n3_ n4_ n5_ n6_ n7_ n8_ n9_ n10_ n11_ n12_ n13_; (try clear hb); (try clear ho0)
                 refine hK.out _ _ ⟨(blk_cell BK202.out 0).trans rfl, (blk_cell BK202.out 1).trans rfl, (blk_cell BK203.out 0).trans rfl, (blk_cell BK203.out 1).trans rfl⟩ (fun hHeld => ?_)
                 clear hK K
                 refine norm_ (a' := ?_) ?_ ?_
                 rotate_left
                 ·show Act.put _ (some 104) _ = _
                  simp only [Act.put, setIfInBounds_toArray, set_cons_zero, set_cons_succ, i64_w, i32_w]
                  rfl
                 refine pure_ (i := 6) (N := some 98) (v := ?_) (a' := ?_) #[true, true, true, true, true, true, true, false, false, false, false, false] rfl rfl (any_of HT_.out (by kernel_rfl)) (fun _ _ _ h => h) (Or.inl ⟨by rfl, ?_⟩) ?_ ?_
                 rotate_left
                 ·intro w'
                  go_simp
                  with_reducible rfl
                 rotate_left
                 ·simp only [Act.put, setIfInBounds_toArray, set_cons_zero, set_cons_succ, i64_w, i32_w]
                  rfl
                 refine pure_ (i := 7) (N := some 105) (v := ?_) (a' := ?_) #[true, true, true, true, true, true, true, true, false, false, false, false] rfl rfl (any_of HT_.out (by kernel_rfl)) (fun _ _ _ h => h) (Or.inl ⟨by rfl, ?_⟩) ?_ ?_
                 rotate_left
                 ·intro w'
                  go_simp
                  with_reducible rfl
                 rotate_left
                 ·simp only [Act.put, setIfInBounds_toArray, set_cons_zero, set_cons_succ, i64_w, i32_w]
                  rfl
                 refine pure_ (i := 8) (N := some 106) (v := ?_) (a' := ?_) #[true, true, true, true, true, true, true, true, true, false, false, false] rfl rfl (any_of HT_.out (by kernel_rfl)) (fun _ _ _ h => h) (Or.inl ⟨by rfl, ?_⟩) ?_ ?_
                 rotate_left
                 ·intro w'
                  go_simp
                  with_reducible rfl
                 rotate_left
                 ·simp only [Act.put, setIfInBounds_toArray, set_cons_zero, set_cons_succ, i64_w, i32_w]
                  rfl
                 refine one_ (i := 9) (N := some 17) #[true, true, true, true, true, true, true, true, true, true, false, false] rfl rfl (one_of HT_.out (by kernel_rfl)) (by decide) (fun K hK => ?_)
                 refine box_step ?hg (N := 17) ?hd (cs := #[.int .i64 0, .slice none 0 0]) (t := 35) ?hr ?_; (case hd => rfl); (case hg => rfl); (case hr => first|(go_simp; done)|(go_simp; rfl))
                 intro gb268 hg w182 hbox hb
                 have n0_ := Am (R_below HO_220001.out hb)
                 have n1_ := Am (R_below HO_225001.out hb)
                 have n2_ := Am (R_below HO_230001.out hb)
                 have n3_ := Am (R_below HO_236001.out hb)
                 have n4_ := Am (R_below HO258.out hb)
                 have n5_ := Am (R_below HO262.out hb)
                 have n6_ := Am (R_below HO266.out hb)
                 have n7_ := Am (bb hb BK202.out)
                 have n8_ := Am (bb hb BK203.out)
                 have n9_ := Am (bb hb BK219.out)
                 have n10_ := Am (bb hb BK224.out)
                 have n11_ := Am (bb hb BK229.out)
                 have n12_ := Am (bb hb BK235.out)
                 have n13_ := Am (below_step (by repeat (first|(with_reducible first|exact HB.out|apply bA|apply bN|apply b1|refine bS ?_ GE219.out|refine bS ?_ GE224.out|refine bS ?_ GE229.out|refine bS ?_ GE235.out)|exact HB.out)) hb)
                 have n14_ := Am (hbox)
                 have n15_ := Am ((by rw [hg]; exact (below_size (by repeat (first|(with_reducible first|exact HB.out|apply bA|apply bN|apply b1|refine bS ?_ GE219.out|refine bS ?_ GE224.out|refine bS ?_ GE229.out|refine bS ?_ GE235.out)|exact HB.out))) : w.heap.size ≤ gb268))
                 have n16_ := Am ((by rw [hg]; exact (below_size (by repeat (first|(with_reducible first|exact HB.out|apply bA|apply bN|apply b1|refine bS ?_ GE219.out|refine bS ?_ GE224.out|refine bS ?_ GE229.out|refine bS ?_ GE235.out)|exact HB.out))) : w.heap.size ≤ gb268))
                 have n17_ := Am ((by rw [hg]; exact Nat.ne_of_lt (blk_lt BK202.out) : gb202 ≠ gb268))
                 have n18_ := Am ((by rw [hg]; exact Nat.ne_of_gt (blk_lt BK202.out) : gb268 ≠ gb202))
                 have n19_ := Am ((by rw [hg]; exact Nat.ne_of_lt (blk_lt BK203.out) : gb203 ≠ gb268))
                 have n20_ := Am ((by rw [hg]; exact Nat.ne_of_gt (blk_lt BK203.out) : gb268 ≠ gb203))
                 have n21_ := Am ((by rw [hg]; exact Nat.ne_of_lt (blk_lt BK219.out) : gb219 ≠ gb268))
                 have n22_ := Am ((by rw [hg]; exact Nat.ne_of_gt (blk_lt BK219.out) : gb268 ≠ gb219))
                 have n23_ := Am ((by rw [hg]; exact Nat.ne_of_lt (blk_lt BK224.out) : gb224 ≠ gb268))
                 have n24_ := Am ((by rw [hg]; exact Nat.ne_of_gt (blk_lt BK224.out) : gb268 ≠ gb224))
                 have n25_ := Am ((by rw [hg]; exact Nat.ne_of_lt (blk_lt BK229.out) : gb229 ≠ gb268))
                 have n26_ := Am ((by rw [hg]; exact Nat.ne_of_gt (blk_lt BK229.out) : gb268 ≠ gb229))
                 have n27_ := Am ((by rw [hg]; exact Nat.ne_of_lt (blk_lt BK235.out) : gb235 ≠ gb268))
                 have n28_ := Am ((by rw [hg]; exact Nat.ne_of_gt (blk_lt BK235.out) : gb268 ≠ gb235))
                 clear HO_220001 HO_225001 HO_230001 HO_236001 HO258 HO262 HO266 BK202 BK203 BK219 BK224 BK229 BK235 HB; have HO_220001 := n0_; have HO_225001 := n1_; have HO_230001 := n2_; have HO_236001 := n3_; have HO258 := n4_; have HO262 := n5_; have HO266 := n6_; have BK202 := n7_; have BK203 := n8_; have BK219 := n9_; have BK224 := n10_; have BK229 := n11_; have BK235 := n12_; have HB := n13_; have BK268 := n14_; have GW268 := n15_; have GE268 := n16_; have NB202_268 := n17_; have NB268_202 := n18_; have NB203_268 := n19_; have NB268_203 := n20_; have NB219_268 := n21_; have NB268_219 := n22_; have NB224_268 := n23_; have NB268_224 := n24_; have NB229_268 := n25_; have NB268_229 := n26_; have NB235_268 := n27_; have NB268_235 := n28_; clear n0_ n1_ n2_ n3_ n4_ n5_ n6_ n7_ n8_ n9_ n10_ n11_ n12_ n13_ n14_ n15_ n16_ n17_ n18_ n19_ n20_ n21_ n22_ n23_ n24_ n25_ n26_ n27_ n28_ hb hbox hg
                 refine hK.out _ _ ⟨(blk_cell BK202.out 0).trans rfl, (blk_cell BK202.out 1).trans rfl, (blk_cell BK203.out 0).trans rfl, (blk_cell BK203.out 1).trans rfl⟩ (fun hHeld => ?_)
                 clear hK K
                 refine norm_ (a' := ?_) ?_ ?_
                 rotate_left
                 ·show Act.put _ (some 17) _ = _
                  simp only [Act.put, setIfInBounds_toArray, set_cons_zero, set_cons_succ, i64_w, i32_w]
                  rfl
                 exact norm_ (by simp only [putAll, Act.put, setIfInBounds_toArray, set_cons_zero, set_cons_succ]) (hCont (.slice Ao179 t256.length co179, .slice Ao180 t260.length co180, v265, gb268) _ ⟨hHeld, (by exact R_mono HO258.out (fun _ hk => ⟨hk.1.2, ⟨hk.2, ⟨hk.1.1.1.1.1.2, ⟨hk.1.1.1.1.2, ⟨hk.1.1.1.2, hk.1.1.2⟩⟩⟩⟩⟩)), (by exact R_mono HO262.out (fun _ hk => ⟨hk.1.2, ⟨hk.2, ⟨hk.1.1.1.1.1.2, ⟨hk.1.1.1.1.2, ⟨hk.1.1.1.2, hk.1.1.2⟩⟩⟩⟩⟩)), (by exact R_mono HO266.out (fun _ hk => ⟨hk.1.2, ⟨hk.2, ⟨hk.1.1.1.1.1.2, ⟨hk.1.1.1.1.2, ⟨hk.1.1.1.2, hk.1.1.2⟩⟩⟩⟩⟩)), (by exact R_mono HO_220001.out (fun _ hk => ⟨hk.1.1.2, ⟨hk.1.2, ⟨hk.2, ⟨hk.1.1.1.1, ⟨hk.1.1.1.2.1, hk.1.1.1.2.2⟩⟩⟩⟩⟩)), (by exact R_mono HO_225001.out (fun _ hk => ⟨hk.1.1.2, ⟨hk.1.2, ⟨hk.2, ⟨hk.1.1.1.1, ⟨hk.1.1.1.2.1, hk.1.1.1.2.2⟩⟩⟩⟩⟩)), (by exact R_mono HO_230001.out (fun _ hk => ⟨hk.1.1.2, ⟨hk.1.2, ⟨hk.2, ⟨hk.1.1.1.1, ⟨hk.1.1.1.2.1, hk.1.1.1.2.2⟩⟩⟩⟩⟩)), (by exact R_mono HO_236001.out (fun _ hk => ⟨hk.1.1.2, ⟨hk.1.2, ⟨hk.2, ⟨hk.1.1.1.1, ⟨hk.1.1.1.2.1, hk.1.1.1.2.2⟩⟩⟩⟩⟩)), BK202.out, BK203.out, BK219.out, BK224.out, BK229.out, BK235.out, BK268.out, GW268.out, GE268.out, NB202_268.out, NB268_202.out, NB203_268.out, NB268_203.out, NB219_268.out, NB268_219.out, NB224_268.out, NB268_224.out, NB229_268.out, NB268_229.out, NB235_268.out, NB268_235.out, (by repeat (first|(with_reducible first|exact HB.out|apply bA|apply bN|apply b1|refine bS ?_ GE219.out|refine bS ?_ GE224.out|refine bS ?_ GE229.out|refine bS ?_ GE235.out|refine bS ?_ GE268.out)|exact HB.out))⟩)
                ·skip
                 refine box_step ?hg (N := 17) ?hd (cs := #[.int .i64 0, .slice none 0 0]) (t := 35) ?hr ?_; (case hd => rfl); (case hg => rfl); (case hr => first|(go_simp; done)|(go_simp; rfl))
                 intro gb268 hg w179 hbox hb
                 have n0_ := Am (R_below HO_220001.out hb)
                 have n1_ := Am (R_below HO_225001.out hb)
                 have n2_ := Am (R_below HO_230001.out hb)
                 have n3_ := Am (R_below HO_236001.out hb)
                 have n4_ := Am (R_below HO258.out hb)
                 have n5_ := Am (R_below HO262.out hb)
                 have n6_ := Am (bb hb BK202.out)
                 have n7_ := Am (bb hb BK203.out)
                 have n8_ := Am (bb hb BK219.out)
                 have n9_ := Am (bb hb BK224.out)
                 have n10_ := Am (bb hb BK229.out)
                 have n11_ := Am (bb hb BK235.out)
                 have n12_ := Am (below_step (by repeat (first|(with_reducible first|exact HB.out|apply bA|apply bN|apply b1|refine bS ?_ GE219.out|refine bS ?_ GE224.out|refine bS ?_ GE229.out|refine bS ?_ GE235.out)|exact HB.out)) hb)
                 have n13_ := Am (hbox)
                 have n14_ := Am ((by rw [hg]; exact (below_size (by repeat (first|(with_reducible first|exact HB.out|apply bA|apply bN|apply b1|refine bS ?_ GE219.out|refine bS ?_ GE224.out|refine bS ?_ GE229.out|refine bS ?_ GE235.out)|exact HB.out))) : w.heap.size ≤ gb268))
                 have n15_ := Am ((by rw [hg]; exact (below_size (by repeat (first|(with_reducible first|exact HB.out|apply bA|apply bN|apply b1|refine bS ?_ GE219.out|refine bS ?_ GE224.out|refine bS ?_ GE229.out|refine bS ?_ GE235.out)|exact HB.out))) : w.heap.size ≤ gb268))
                 have n16_ := Am ((by rw [hg]; exact Nat.ne_of_lt (blk_lt BK202.out) : gb202 ≠ gb268))
                 have n17_ := Am ((by rw [hg]; exact Nat.ne_of_gt (blk_lt BK202.out) : gb268 ≠ gb202))
                 have n18_ := Am ((by rw [hg]; exact Nat.ne_of_lt (blk_lt BK203.out) : gb203 ≠ gb268))
                 have n19_ := Am ((by rw [hg]; exact Nat.ne_of_gt (blk_lt BK203.out) : gb268 ≠ gb203))
                 have n20_ := Am ((by rw [hg]; exact Nat.ne_of_lt (blk_lt BK219.out) : gb219 ≠ gb268))
                 have n21_ := Am ((by rw [hg]; exact Nat.ne_of_gt (blk_lt BK219.out) : gb268 ≠ gb219))
                 have n22_ := Am ((by rw [hg]; exact Nat.ne_of_lt (blk_lt BK224.out) : gb224 ≠ gb268))
                 have n23_ := Am ((by rw [hg]; exact Nat.ne_of_gt (blk_lt BK224.out) : gb268 ≠ gb224))
                 have n24_ := Am ((by rw [hg]; exact Nat.ne_of_lt (blk_lt BK229.out) : gb229 ≠ gb268))
                 have n25_ := Am ((by rw [hg]; exact Nat.ne_of_gt (blk_lt BK229.out) : gb268 ≠ gb229))
                 have n26_ := Am ((by rw [hg]; exact Nat.ne_of_lt (blk_lt BK235.out) : gb235 ≠ gb268))
                 have n27_ := Am ((by rw [hg]; exact Nat.ne_of_gt (blk_lt BK235.out) : gb268 ≠ gb235))
                 clear HO_220001 HO_225001 HO_230001 HO_236001 HO258 HO262 BK202 BK203 BK219 BK224 BK229 BK235 HB; have HO_220001 := n0_; have HO_225001 := n1_; have HO_230001 := n2_; have HO_236001 := n3_; have HO258 := n4_; have HO262 := n5_; have BK202 := n6_; have BK203 := n7_; have BK219 := n8_; have BK224 := n9_; have BK229 := n10_; have BK235 := n11_; have HB := n12_; have BK268 := n13_; have GW268 := n14_; have GE268 := n15_; have NB202_268 := n16_; have NB268_202 := n17_; have NB203_268 := n18_; have NB268_203 := n19_; have NB219_268 := n20_; have NB268_219 := n21_; have NB224_268 := n22_; have NB268_224 := n23_; have NB229_268 := n24_; have NB268_229 := n25_; have NB235_268 := n26_; have NB268_235 := n27_; clear n0_ n1_ n2_ n3_ n4_ n5_ n6_ n7_ n8_ n9_ n10_ n11_ n12_ n13_ n14_ n15_ n16_ n17_ n18_ n19_ n20_ n21_ n22_ n23_ n24_ n25_ n26_ n27_ hb hbox hg
                 obtain ⟨Ao180, co180, eo180⟩ := R_slice HO258.out
                 (first|subst eo180|(injection eo180 with f1_ f2_ f3_; have f4_ := f1_.symm; have f5_ := f3_.symm; clear f1_ f2_ f3_; subst f4_; subst f5_))
                 obtain ⟨Ao181, co181, eo181⟩ := R_slice HO262.out
                 (first|subst eo181|(injection eo181 with f1_ f2_ f3_; have f4_ := f1_.symm; have f5_ := f3_.symm; clear f1_ f2_ f3_; subst f4_; subst f5_))
                 refine hK.out _ _ ⟨(blk_cell BK202.out 0).trans rfl, (blk_cell BK202.out 1).trans rfl, (blk_cell BK203.out 0).trans rfl, (blk_cell BK203.out 1).trans rfl⟩ (fun hHeld => ?_)
                 clear hK K
                 refine norm_ (a' := ?_) ?_ ?_
                 rotate_left
                 ·show Act.put _ (some 17) _ = _
                  simp only [Act.put, setIfInBounds_toArray, set_cons_zero, set_cons_succ, i64_w, i32_w]
                  rfl
                 refine one_ (i := 5) (N := some 104) #[true, true, true, true, true, true, false, false, false, true, false, false] rfl rfl (one_of HT_.out (by kernel_rfl)) (by decide) (fun K hK => ?_)
                 refine goes_ Try.func36 (by kernel_rfl) rfl #[.agg #[.int .i64 t255, .slice Ao180 t256.length co180], .agg #[.int .i64 t259, .slice Ao181 t260.length co181], .int .i64 a2] (by rfl) rfl rfl (by (try simp only [map_toArray, map_cons, map_nil]); first | done | rfl|(simp only [List.length_drop, List.length_take]; rfl)) ?_
                 with_reducible refine (impl_AddCyclos.calls kj108 t255 _ _ t256 t259 _ _ t260 a2 t263 t264 t267 _ ?side1 ?side2 ?side3 ?side4 A165.out).mono ?_
                 (case side1 => repeat (first|exact (R_reads' HO258.out).2.2|(with_reducible first|refine Kd.C_alloc ?_ _|refine Kd.C_drewN ?_ _|refine Kd.C_drew ?_)))
                 (case side2 => exact (R_reads' HO258.out).2.1)
                 (case side3 => repeat (first|exact (R_reads' HO262.out).2.2|(with_reducible first|refine Kd.C_alloc ?_ _|refine Kd.C_drewN ?_ _|refine Kd.C_drew ?_)))
                 (case side4 => exact (R_reads' HO262.out).2.1)
                 rintro e w182 ⟨v265, rfl, ho0, hb⟩
                 refine ⟨_, rfl, ?_⟩
                 have n0_ := Am (R_elder' HO_220001.out (R_base ho0) hb)
                 have n1_ := Am (R_elder' HO_225001.out (R_base ho0) hb)
                 have n2_ := Am (R_elder' HO_230001.out (R_base ho0) hb)
                 have n3_ := Am (R_elder' HO_236001.out (R_base ho0) hb)
                 have n4_ := Am (R_elder' HO258.out (R_base ho0) hb)
                 have n5_ := Am (R_elder' HO262.out (R_base ho0) hb)
                 have n6_ := Am (R_lower (R_new' (R_new' (R_new' (R_new' (R_new' (R_new' ho0 (R_lt HO_220001.out)) (R_lt HO_225001.out)) (R_lt HO_230001.out)) (R_lt HO_236001.out)) (R_lt HO258.out)) (R_lt HO262.out)) (below_size (by repeat (first|(with_reducible first|exact HB.out|apply bA|apply bN|apply b1|refine bS ?_ GE219.out|refine bS ?_ GE224.out|refine bS ?_ GE229.out|refine bS ?_ GE235.out|refine bS ?_ GE268.out)|exact HB.out))))
                 have n7_ := Am (bb hb BK202.out)
                 have n8_ := Am (bb hb BK203.out)
                 have n9_ := Am (bb hb BK219.out)
                 have n10_ := Am (bb hb BK224.out)
                 have n11_ := Am (bb hb BK229.out)
                 have n12_ := Am (bb hb BK235.out)
                 have n13_ := Am (bb hb BK268.out)
                 have n14_ := Am (below_step (by repeat (first|(with_reducible first|exact HB.out|apply bA|apply bN|apply b1|refine bS ?_ GE219.out|refine bS ?_ GE224.out|refine bS ?_ GE229.out|refine bS ?_ GE235.out|refine bS ?_ GE268.out)|exact HB.out)) hb)
                 clear HO_220001 HO_225001 HO_230001 HO_236001 HO258 HO262 BK202 BK203 BK219 BK224 BK229 BK235 BK268 HB; have HO_220001 := n0_; have HO_225001 := n1_; have HO_230001 := n2_; have HO_236001 := n3_; have HO258 := n4_; have HO262 := n5_; have HO266 := n6_; have BK202 := n7_; have BK203 := n8_; have BK219 := n9_; have BK224 := n10_; have BK229 := n11_; have BK235 := n12_; have BK268 := n13_; have HB := n14_; clear n0_ n1_ n2_ n3_ n4_ n5_ n6_ n7_ n8_ n9_ n10_ n11_ n12_ n13_ n14_; (try clear hb); (try clear ho0)
                 refine hK.out _ _ ⟨(blk_cell BK202.out 0).trans rfl, (blk_cell BK202.out 1).trans rfl, (blk_cell BK203.out 0).trans rfl, (blk_cell BK203.out 1).trans rfl⟩ (fun hHeld => ?_)
                 clear hK K
                 refine norm_ (a' := ?_) ?_ ?_
                 rotate_left
                 ·show Act.put _ (some 104) _ = _
                  simp only [Act.put, setIfInBounds_toArray, set_cons_zero, set_cons_succ, i64_w, i32_w]
                  rfl
                 refine pure_ (i := 6) (N := some 98) (v := ?_) (a' := ?_) #[true, true, true, true, true, true, true, false, false, true, false, false] rfl rfl (any_of HT_.out (by kernel_rfl)) (fun _ _ _ h => h) (Or.inl ⟨by rfl, ?_⟩) ?_ ?_
                 rotate_left
                 ·intro w'
                  go_simp
                  with_reducible rfl
                 rotate_left
                 ·simp only [Act.put, setIfInBounds_toArray, set_cons_zero, set_cons_succ, i64_w, i32_w]
                  rfl
                 refine pure_ (i := 7) (N := some 105) (v := ?_) (a' := ?_) #[true, true, true, true, true, true, true, true, false, true, false, false] rfl rfl (any_of HT_.out (by kernel_rfl)) (fun _ _ _ h => h) (Or.inl ⟨by rfl, ?_⟩) ?_ ?_
                 rotate_left
                 ·intro w'
                  go_simp
                  with_reducible rfl
                 rotate_left
                 ·simp only [Act.put, setIfInBounds_toArray, set_cons_zero, set_cons_succ, i64_w, i32_w]
                  rfl
                 refine pure_ (i := 8) (N := some 106) (v := ?_) (a' := ?_) #[true, true, true, true, true, true, true, true, true, true, false, false] rfl rfl (any_of HT_.out (by kernel_rfl)) (fun _ _ _ h => h) (Or.inl ⟨by rfl, ?_⟩) ?_ ?_
                 rotate_left
                 ·intro w'
                  go_simp
                  with_reducible rfl
                 rotate_left
                 ·simp only [Act.put, setIfInBounds_toArray, set_cons_zero, set_cons_succ, i64_w, i32_w]
                  rfl
                 exact norm_ (by simp only [putAll, Act.put, setIfInBounds_toArray, set_cons_zero, set_cons_succ]) (hCont (.slice Ao180 t256.length co180, .slice Ao181 t260.length co181, v265, gb268) _ ⟨hHeld, (by exact R_mono HO258.out (fun _ hk => ⟨hk.1.2, ⟨hk.2, ⟨hk.1.1.1.1.1.2, ⟨hk.1.1.1.1.2, ⟨hk.1.1.1.2, hk.1.1.2⟩⟩⟩⟩⟩)), (by exact R_mono HO262.out (fun _ hk => ⟨hk.1.2, ⟨hk.2, ⟨hk.1.1.1.1.1.2, ⟨hk.1.1.1.1.2, ⟨hk.1.1.1.2, hk.1.1.2⟩⟩⟩⟩⟩)), (by exact R_mono HO266.out (fun _ hk => ⟨hk.1.2, ⟨hk.2, ⟨hk.1.1.1.1.1.2, ⟨hk.1.1.1.1.2, ⟨hk.1.1.1.2, hk.1.1.2⟩⟩⟩⟩⟩)), (by exact R_mono HO_220001.out (fun _ hk => ⟨hk.1.1.2, ⟨hk.1.2, ⟨hk.2, ⟨hk.1.1.1.1, ⟨hk.1.1.1.2.1, hk.1.1.1.2.2⟩⟩⟩⟩⟩)), (by exact R_mono HO_225001.out (fun _ hk => ⟨hk.1.1.2, ⟨hk.1.2, ⟨hk.2, ⟨hk.1.1.1.1, ⟨hk.1.1.1.2.1, hk.1.1.1.2.2⟩⟩⟩⟩⟩)), (by exact R_mono HO_230001.out (fun _ hk => ⟨hk.1.1.2, ⟨hk.1.2, ⟨hk.2, ⟨hk.1.1.1.1, ⟨hk.1.1.1.2.1, hk.1.1.1.2.2⟩⟩⟩⟩⟩)), (by exact R_mono HO_236001.out (fun _ hk => ⟨hk.1.1.2, ⟨hk.1.2, ⟨hk.2, ⟨hk.1.1.1.1, ⟨hk.1.1.1.2.1, hk.1.1.1.2.2⟩⟩⟩⟩⟩)), BK202.out, BK203.out, BK219.out, BK224.out, BK229.out, BK235.out, BK268.out, GW268.out, GE268.out, NB202_268.out, NB268_202.out, NB203_268.out, NB268_203.out, NB219_268.out, NB268_219.out, NB224_268.out, NB268_224.out, NB229_268.out, NB268_229.out, NB235_268.out, NB268_235.out, (by repeat (first|(with_reducible first|exact HB.out|apply bA|apply bN|apply b1|refine bS ?_ GE219.out|refine bS ?_ GE224.out|refine bS ?_ GE229.out|refine bS ?_ GE235.out|refine bS ?_ GE268.out)|exact HB.out))⟩)
               ·skip
                refine box_step ?hg (N := 17) ?hd (cs := #[.int .i64 0, .slice none 0 0]) (t := 35) ?hr ?_; (case hd => rfl); (case hg => rfl); (case hr => first|(go_simp; done)|(go_simp; rfl))
                intro gb268 hg w178 hbox hb
                have n0_ := Am (R_below HO_220001.out hb)
                have n1_ := Am (R_below HO_225001.out hb)
                have n2_ := Am (R_below HO_230001.out hb)
                have n3_ := Am (R_below HO_236001.out hb)
                have n4_ := Am (R_below HO258.out hb)
                have n5_ := Am (bb hb BK202.out)
                have n6_ := Am (bb hb BK203.out)
                have n7_ := Am (bb hb BK219.out)
                have n8_ := Am (bb hb BK224.out)
                have n9_ := Am (bb hb BK229.out)
                have n10_ := Am (bb hb BK235.out)
                have n11_ := Am (below_step (by repeat (first|(with_reducible first|exact HB.out|apply bA|apply bN|apply b1|refine bS ?_ GE219.out|refine bS ?_ GE224.out|refine bS ?_ GE229.out|refine bS ?_ GE235.out)|exact HB.out)) hb)
                have n12_ := Am (hbox)
                have n13_ := Am ((by rw [hg]; exact (below_size (by repeat (first|(with_reducible first|exact HB.out|apply bA|apply bN|apply b1|refine bS ?_ GE219.out|refine bS ?_ GE224.out|refine bS ?_ GE229.out|refine bS ?_ GE235.out)|exact HB.out))) : w.heap.size ≤ gb268))
                have n14_ := Am ((by rw [hg]; exact (below_size (by repeat (first|(with_reducible first|exact HB.out|apply bA|apply bN|apply b1|refine bS ?_ GE219.out|refine bS ?_ GE224.out|refine bS ?_ GE229.out|refine bS ?_ GE235.out)|exact HB.out))) : w.heap.size ≤ gb268))
                have n15_ := Am ((by rw [hg]; exact Nat.ne_of_lt (blk_lt BK202.out) : gb202 ≠ gb268))
                have n16_ := Am ((by rw [hg]; exact Nat.ne_of_gt (blk_lt BK202.out) : gb268 ≠ gb202))
                have n17_ := Am ((by rw [hg]; exact Nat.ne_of_lt (blk_lt BK203.out) : gb203 ≠ gb268))
                have n18_ := Am ((by rw [hg]; exact Nat.ne_of_gt (blk_lt BK203.out) : gb268 ≠ gb203))
                have n19_ := Am ((by rw [hg]; exact Nat.ne_of_lt (blk_lt BK219.out) : gb219 ≠ gb268))
                have n20_ := Am ((by rw [hg]; exact Nat.ne_of_gt (blk_lt BK219.out) : gb268 ≠ gb219))
                have n21_ := Am ((by rw [hg]; exact Nat.ne_of_lt (blk_lt BK224.out) : gb224 ≠ gb268))
                have n22_ := Am ((by rw [hg]; exact Nat.ne_of_gt (blk_lt BK224.out) : gb268 ≠ gb224))
                have n23_ := Am ((by rw [hg]; exact Nat.ne_of_lt (blk_lt BK229.out) : gb229 ≠ gb268))
                have n24_ := Am ((by rw [hg]; exact Nat.ne_of_gt (blk_lt BK229.out) : gb268 ≠ gb229))
                have n25_ := Am ((by rw [hg]; exact Nat.ne_of_lt (blk_lt BK235.out) : gb235 ≠ gb268))
                have n26_ := Am ((by rw [hg]; exact Nat.ne_of_gt (blk_lt BK235.out) : gb268 ≠ gb235))
                clear HO_220001 HO_225001 HO_230001 HO_236001 HO258 BK202 BK203 BK219 BK224 BK229 BK235 HB; have HO_220001 := n0_; have HO_225001 := n1_; have HO_230001 := n2_; have HO_236001 := n3_; have HO258 := n4_; have BK202 := n5_; have BK203 := n6_; have BK219 := n7_; have BK224 := n8_; have BK229 := n9_; have BK235 := n10_; have HB := n11_; have BK268 := n12_; have GW268 := n13_; have GE268 := n14_; have NB202_268 := n15_; have NB268_202 := n16_; have NB203_268 := n17_; have NB268_203 := n18_; have NB219_268 := n19_; have NB268_219 := n20_; have NB224_268 := n21_; have NB268_224 := n22_; have NB229_268 := n23_; have NB268_229 := n24_; have NB235_268 := n25_; have NB268_235 := n26_; clear n0_ n1_ n2_ n3_ n4_ n5_ n6_ n7_ n8_ n9_ n10_ n11_ n12_ n13_ n14_ n15_ n16_ n17_ n18_ n19_ n20_ n21_ n22_ n23_ n24_ n25_ n26_ hb hbox hg
                refine hK.out _ _ ⟨(blk_cell BK202.out 0).trans rfl, (blk_cell BK202.out 1).trans rfl, (blk_cell BK203.out 0).trans rfl, (blk_cell BK203.out 1).trans rfl⟩ (fun hHeld => ?_)
                clear hK K
                refine norm_ (a' := ?_) ?_ ?_
                rotate_left
                ·show Act.put _ (some 17) _ = _
                 simp only [Act.put, setIfInBounds_toArray, set_cons_zero, set_cons_succ, i64_w, i32_w]
                 rfl
                refine one_ (i := 3) (N := some 102) #[true, true, true, true, true, false, false, false, false, true, false, false] rfl rfl (one_of HT_.out (by kernel_rfl)) (by decide) (fun K hK => ?_)
                refine goes_ Try.func24 (by kernel_rfl) rfl #[.agg #[.int .i64 a1_0, .slice A1_1 l1_1.length c1_1]] (by rfl) rfl rfl (by (try simp only [map_toArray, map_cons, map_nil]); first | done | rfl|(simp only [List.length_drop, List.length_take]; rfl)) ?_
                with_reducible refine (laws_toCyclo.calls kj108 a1_0 _ _ l1_1 t259 t260 _ ?side1 ?side2 A164.out).mono ?_
                (case side1 => repeat (first|exact (Kd.C_below HR1_1.out HB.out)|(with_reducible first|refine Kd.C_alloc ?_ _|refine Kd.C_drewN ?_ _|refine Kd.C_drew ?_)))
                (case side2 => exact HC1_1.out)
                rintro e w179 ⟨v261, rfl, ho0, hb⟩
                refine ⟨_, rfl, ?_⟩
                have n0_ := Am (R_elder' HO_220001.out (R_base ho0) hb)
                have n1_ := Am (R_elder' HO_225001.out (R_base ho0) hb)
                have n2_ := Am (R_elder' HO_230001.out (R_base ho0) hb)
                have n3_ := Am (R_elder' HO_236001.out (R_base ho0) hb)
                have n4_ := Am (R_elder' HO258.out (R_base ho0) hb)
                have n5_ := Am (R_lower (R_new' (R_new' (R_new' (R_new' (R_new' ho0 (R_lt HO_220001.out)) (R_lt HO_225001.out)) (R_lt HO_230001.out)) (R_lt HO_236001.out)) (R_lt HO258.out)) (below_size (by repeat (first|(with_reducible first|exact HB.out|apply bA|apply bN|apply b1|refine bS ?_ GE219.out|refine bS ?_ GE224.out|refine bS ?_ GE229.out|refine bS ?_ GE235.out|refine bS ?_ GE268.out)|exact HB.out))))
                have n6_ := Am (bb hb BK202.out)
                have n7_ := Am (bb hb BK203.out)
                have n8_ := Am (bb hb BK219.out)
                have n9_ := Am (bb hb BK224.out)
                have n10_ := Am (bb hb BK229.out)
                have n11_ := Am (bb hb BK235.out)
                have n12_ := Am (bb hb BK268.out)
                have n13_ := Am (below_step (by repeat (first|(with_reducible first|exact HB.out|apply bA|apply bN|apply b1|refine bS ?_ GE219.out|refine bS ?_ GE224.out|refine bS ?_ GE229.out|refine bS ?_ GE235.out|refine bS ?_ GE268.out)|exact HB.out)) hb)
                clear HO_220001 HO_225001 HO_230001 HO_236001 HO258 BK202 BK203 BK219 BK224 BK229 BK235 BK268 HB; have HO_220001 := n0_; have HO_225001 := n1_; have HO_230001 := n2_; have HO_236001 := n3_; have HO258 := n4_; have HO262 := n5_; have BK202 := n6_; have BK203 := n7_; have BK219 := n8_; have BK224 := n9_; have BK229 := n10_; have BK235 := n11_; have BK268 := n12_; have HB := n13_; clear n0_ n1_ n2_ n3_ n4_ n5_ n6_ n7_ n8_ n9_ n10_ n11_ n12_ n13_; (try clear hb); (try clear ho0)
                obtain ⟨Ao180, co180, eo180⟩ := R_slice HO258.out
                (first|subst eo180|(injection eo180 with f1_ f2_ f3_; have f4_ := f1_.symm; have f5_ := f3_.symm; clear f1_ f2_ f3_; subst f4_; subst f5_))
                obtain ⟨Ao181, co181, eo181⟩ := R_slice HO262.out
                (first|subst eo181|(injection eo181 with f1_ f2_ f3_; have f4_ := f1_.symm; have f5_ := f3_.symm; clear f1_ f2_ f3_; subst f4_; subst f5_))
                refine hK.out _ _ ⟨(blk_cell BK202.out 0).trans rfl, (blk_cell BK202.out 1).trans rfl, (blk_cell BK203.out 0).trans rfl, (blk_cell BK203.out 1).trans rfl⟩ (fun hHeld => ?_)
                clear hK K
                refine norm_ (a' := ?_) ?_ ?_
                rotate_left
                ·show Act.put _ (some 102) _ = _
                 simp only [Act.put, setIfInBounds_toArray, set_cons_zero, set_cons_succ, i64_w, i32_w]
                 rfl
                refine one_ (i := 5) (N := some 104) #[true, true, true, true, true, true, false, false, false, true, false, false] rfl rfl (one_of HT_.out (by kernel_rfl)) (by decide) (fun K hK => ?_)
                refine goes_ Try.func36 (by kernel_rfl) rfl #[.agg #[.int .i64 t255, .slice Ao180 t256.length co180], .agg #[.int .i64 t259, .slice Ao181 t260.length co181], .int .i64 a2] (by rfl) rfl rfl (by (try simp only [map_toArray, map_cons, map_nil]); first | done | rfl|(simp only [List.length_drop, List.length_take]; rfl)) ?_
                with_reducible refine (impl_AddCyclos.calls kj108 t255 _ _ t256 t259 _ _ t260 a2 t263 t264 t267 _ ?side1 ?side2 ?side3 ?side4 A165.out).mono ?_
                (case side1 => repeat (first|exact (R_reads' HO258.out).2.2|(with_reducible first|refine Kd.C_alloc ?_ _|refine Kd.C_drewN ?_ _|refine Kd.C_drew ?_)))
                (case side2 => exact (R_reads' HO258.out).2.1)
                (case side3 => repeat (first|exact (R_reads' HO262.out).2.2|(with_reducible first|refine Kd.C_alloc ?_ _|refine Kd.C_drewN ?_ _|refine Kd.C_drew ?_)))
                (case side4 => exact (R_reads' HO262.out).2.1)
                rintro e w182 ⟨v265, rfl, ho0, hb⟩
                refine ⟨_, rfl, ?_⟩
                have n0_ := Am (R_elder' HO_220001.out (R_base ho0) hb)
                have n1_ := Am (R_elder' HO_225001.out (R_base ho0) hb)
                have n2_ := Am (R_elder' HO_230001.out (R_base ho0) hb)
                have n3_ := Am (R_elder' HO_236001.out (R_base ho0) hb)
                have n4_ := Am (R_elder' HO258.out (R_base ho0) hb)
                have n5_ := Am (R_elder' HO262.out (R_base ho0) hb)
                have n6_ := Am (R_lower (R_new' (R_new' (R_new' (R_new' (R_new' (R_new' ho0 (R_lt HO_220001.out)) (R_lt HO_225001.out)) (R_lt HO_230001.out)) (R_lt HO_236001.out)) (R_lt HO258.out)) (R_lt HO262.out)) (below_size (by repeat (first|(with_reducible first|exact HB.out|apply bA|apply bN|apply b1|refine bS ?_ GE219.out|refine bS ?_ GE224.out|refine bS ?_ GE229.out|refine bS ?_ GE235.out|refine bS ?_ GE268.out)|exact HB.out))))
                have n7_ := Am (bb hb BK202.out)
                have n8_ := Am (bb hb BK203.out)
                have n9_ := Am (bb hb BK219.out)
                have n10_ := Am (bb hb BK224.out)
                have n11_ := Am (bb hb BK229.out)
                have n12_ := Am (bb hb BK235.out)
                have n13_ := Am (bb hb BK268.out)
                have n14_ := Am (below_step (by repeat (first|(with_reducible first|exact HB.out|apply bA|apply bN|apply b1|refine bS ?_ GE219.out|refine bS ?_ GE224.out|refine bS ?_ GE229.out|refine bS ?_ GE235.out|refine bS ?_ GE268.out)|exact HB.out)) hb)
                clear HO_220001 HO_225001 HO_230001 HO_236001 HO258 HO262 BK202 BK203 BK219 BK224 BK229 BK235 BK268 HB; have HO_220001 := n0_; have HO_225001 := n1_; have HO_230001 := n2_; have HO_236001 := n3_; have HO258 := n4_; have HO262 := n5_; have HO266 := n6_; have BK202 := n7_; have BK203 := n8_; have BK219 := n9_; have BK224 := n10_; have BK229 := n11_; have BK235 := n12_; have BK268 := n13_; have HB := n14_; clear n0_ n1_ n2_ n3_ n4_ n5_ n6_ n7_ n8_ n9_ n10_ n11_ n12_ n13_ n14_; (try clear hb); (try clear ho0)
                refine hK.out _ _ ⟨(blk_cell BK202.out 0).trans rfl, (blk_cell BK202.out 1).trans rfl, (blk_cell BK203.out 0).trans rfl, (blk_cell BK203.out 1).trans rfl⟩ (fun hHeld => ?_)
                clear hK K
                refine norm_ (a' := ?_) ?_ ?_
                rotate_left
                ·show Act.put _ (some 104) _ = _
                 simp only [Act.put, setIfInBounds_toArray, set_cons_zero, set_cons_succ, i64_w, i32_w]
                 rfl
                refine pure_ (i := 6) (N := some 98) (v := ?_) (a' := ?_) #[true, true, true, true, true, true, true, false, false, true, false, false] rfl rfl (any_of HT_.out (by kernel_rfl)) (fun _ _ _ h => h) (Or.inl ⟨by rfl, ?_⟩) ?_ ?_
                rotate_left
                ·intro w'
                 go_simp
                 with_reducible rfl
                rotate_left
                ·simp only [Act.put, setIfInBounds_toArray, set_cons_zero, set_cons_succ, i64_w, i32_w]
                 rfl
                refine pure_ (i := 7) (N := some 105) (v := ?_) (a' := ?_) #[true, true, true, true, true, true, true, true, false, true, false, false] rfl rfl (any_of HT_.out (by kernel_rfl)) (fun _ _ _ h => h) (Or.inl ⟨by rfl, ?_⟩) ?_ ?_
                rotate_left
                ·intro w'
                 go_simp
                 with_reducible rfl
                rotate_left
                ·simp only [Act.put, setIfInBounds_toArray, set_cons_zero, set_cons_succ, i64_w, i32_w]
                 rfl
                refine pure_ (i := 8) (N := some 106) (v := ?_) (a' := ?_) #[true, true, true, true, true, true, true, true, true, true, false, false] rfl rfl (any_of HT_.out (by kernel_rfl)) (fun _ _ _ h => h) (Or.inl ⟨by rfl, ?_⟩) ?_ ?_
                rotate_left
                ·intro w'
                 go_simp
                 with_reducible rfl
                rotate_left
                ·simp only [Act.put, setIfInBounds_toArray, set_cons_zero, set_cons_succ, i64_w, i32_w]
                 rfl
                exact norm_ (by simp only [putAll, Act.put, setIfInBounds_toArray, set_cons_zero, set_cons_succ]) (hCont (.slice Ao180 t256.length co180, .slice Ao181 t260.length co181, v265, gb268) _ ⟨hHeld, (by exact R_mono HO258.out (fun _ hk => ⟨hk.1.2, ⟨hk.2, ⟨hk.1.1.1.1.1.2, ⟨hk.1.1.1.1.2, ⟨hk.1.1.1.2, hk.1.1.2⟩⟩⟩⟩⟩)), (by exact R_mono HO262.out (fun _ hk => ⟨hk.1.2, ⟨hk.2, ⟨hk.1.1.1.1.1.2, ⟨hk.1.1.1.1.2, ⟨hk.1.1.1.2, hk.1.1.2⟩⟩⟩⟩⟩)), (by exact R_mono HO266.out (fun _ hk => ⟨hk.1.2, ⟨hk.2, ⟨hk.1.1.1.1.1.2, ⟨hk.1.1.1.1.2, ⟨hk.1.1.1.2, hk.1.1.2⟩⟩⟩⟩⟩)), (by exact R_mono HO_220001.out (fun _ hk => ⟨hk.1.1.2, ⟨hk.1.2, ⟨hk.2, ⟨hk.1.1.1.1, ⟨hk.1.1.1.2.1, hk.1.1.1.2.2⟩⟩⟩⟩⟩)), (by exact R_mono HO_225001.out (fun _ hk => ⟨hk.1.1.2, ⟨hk.1.2, ⟨hk.2, ⟨hk.1.1.1.1, ⟨hk.1.1.1.2.1, hk.1.1.1.2.2⟩⟩⟩⟩⟩)), (by exact R_mono HO_230001.out (fun _ hk => ⟨hk.1.1.2, ⟨hk.1.2, ⟨hk.2, ⟨hk.1.1.1.1, ⟨hk.1.1.1.2.1, hk.1.1.1.2.2⟩⟩⟩⟩⟩)), (by exact R_mono HO_236001.out (fun _ hk => ⟨hk.1.1.2, ⟨hk.1.2, ⟨hk.2, ⟨hk.1.1.1.1, ⟨hk.1.1.1.2.1, hk.1.1.1.2.2⟩⟩⟩⟩⟩)), BK202.out, BK203.out, BK219.out, BK224.out, BK229.out, BK235.out, BK268.out, GW268.out, GE268.out, NB202_268.out, NB268_202.out, NB203_268.out, NB268_203.out, NB219_268.out, NB268_219.out, NB224_268.out, NB268_224.out, NB229_268.out, NB268_229.out, NB235_268.out, NB268_235.out, (by repeat (first|(with_reducible first|exact HB.out|apply bA|apply bN|apply b1|refine bS ?_ GE219.out|refine bS ?_ GE224.out|refine bS ?_ GE229.out|refine bS ?_ GE235.out|refine bS ?_ GE268.out)|exact HB.out))⟩)
              ·skip
               refine box_step ?hg (N := 17) ?hd (cs := #[.int .i64 0, .slice none 0 0]) (t := 35) ?hr ?_; (case hd => rfl); (case hg => rfl); (case hr => first|(go_simp; done)|(go_simp; rfl))
               intro gb268 hg w177 hbox hb
               have n0_ := Am (R_below HO_220001.out hb)
               have n1_ := Am (R_below HO_225001.out hb)
               have n2_ := Am (R_below HO_230001.out hb)
               have n3_ := Am (R_below HO_236001.out hb)
               have n4_ := Am (bb hb BK202.out)
               have n5_ := Am (bb hb BK203.out)
               have n6_ := Am (bb hb BK219.out)
               have n7_ := Am (bb hb BK224.out)
               have n8_ := Am (bb hb BK229.out)
               have n9_ := Am (bb hb BK235.out)
               have n10_ := Am (below_step (by repeat (first|(with_reducible first|exact HB.out|apply bA|apply bN|apply b1|refine bS ?_ GE219.out|refine bS ?_ GE224.out|refine bS ?_ GE229.out|refine bS ?_ GE235.out)|exact HB.out)) hb)
               have n11_ := Am (hbox)
               have n12_ := Am ((by rw [hg]; exact (below_size (by repeat (first|(with_reducible first|exact HB.out|apply bA|apply bN|apply b1|refine bS ?_ GE219.out|refine bS ?_ GE224.out|refine bS ?_ GE229.out|refine bS ?_ GE235.out)|exact HB.out))) : w.heap.size ≤ gb268))
               have n13_ := Am ((by rw [hg]; exact (below_size (by repeat (first|(with_reducible first|exact HB.out|apply bA|apply bN|apply b1|refine bS ?_ GE219.out|refine bS ?_ GE224.out|refine bS ?_ GE229.out|refine bS ?_ GE235.out)|exact HB.out))) : w.heap.size ≤ gb268))
               have n14_ := Am ((by rw [hg]; exact Nat.ne_of_lt (blk_lt BK202.out) : gb202 ≠ gb268))
               have n15_ := Am ((by rw [hg]; exact Nat.ne_of_gt (blk_lt BK202.out) : gb268 ≠ gb202))
               have n16_ := Am ((by rw [hg]; exact Nat.ne_of_lt (blk_lt BK203.out) : gb203 ≠ gb268))
               have n17_ := Am ((by rw [hg]; exact Nat.ne_of_gt (blk_lt BK203.out) : gb268 ≠ gb203))
               have n18_ := Am ((by rw [hg]; exact Nat.ne_of_lt (blk_lt BK219.out) : gb219 ≠ gb268))
               have n19_ := Am ((by rw [hg]; exact Nat.ne_of_gt (blk_lt BK219.out) : gb268 ≠ gb219))
               have n20_ := Am ((by rw [hg]; exact Nat.ne_of_lt (blk_lt BK224.out) : gb224 ≠ gb268))
               have n21_ := Am ((by rw [hg]; exact Nat.ne_of_gt (blk_lt BK224.out) : gb268 ≠ gb224))
               have n22_ := Am ((by rw [hg]; exact Nat.ne_of_lt (blk_lt BK229.out) : gb229 ≠ gb268))
               have n23_ := Am ((by rw [hg]; exact Nat.ne_of_gt (blk_lt BK229.out) : gb268 ≠ gb229))
               have n24_ := Am ((by rw [hg]; exact Nat.ne_of_lt (blk_lt BK235.out) : gb235 ≠ gb268))
               have n25_ := Am ((by rw [hg]; exact Nat.ne_of_gt (blk_lt BK235.out) : gb268 ≠ gb235))
               clear HO_220001 HO_225001 HO_230001 HO_236001 BK202 BK203 BK219 BK224 BK229 BK235 HB; have HO_220001 := n0_; have HO_225001 := n1_; have HO_230001 := n2_; have HO_236001 := n3_; have BK202 := n4_; have BK203 := n5_; have BK219 := n6_; have BK224 := n7_; have BK229 := n8_; have BK235 := n9_; have HB := n10_; have BK268 := n11_; have GW268 := n12_; have GE268 := n13_; have NB202_268 := n14_; have NB268_202 := n15_; have NB203_268 := n16_; have NB268_203 := n17_; have NB219_268 := n18_; have NB268_219 := n19_; have NB224_268 := n20_; have NB268_224 := n21_; have NB229_268 := n22_; have NB268_229 := n23_; have NB235_268 := n24_; have NB268_235 := n25_; clear n0_ n1_ n2_ n3_ n4_ n5_ n6_ n7_ n8_ n9_ n10_ n11_ n12_ n13_ n14_ n15_ n16_ n17_ n18_ n19_ n20_ n21_ n22_ n23_ n24_ n25_ hb hbox hg
               refine hK.out _ _ ⟨(blk_cell BK202.out 0).trans rfl, (blk_cell BK202.out 1).trans rfl, (blk_cell BK203.out 0).trans rfl, (blk_cell BK203.out 1).trans rfl⟩ (fun hHeld => ?_)
               clear hK K
               refine norm_ (a' := ?_) ?_ ?_
               rotate_left
               ·show Act.put _ (some 17) _ = _
                simp only [Act.put, setIfInBounds_toArray, set_cons_zero, set_cons_succ, i64_w, i32_w]
                rfl
               refine one_ (i := 1) (N := some 100) #[true, true, true, false, true, false, false, false, false, true, false, false] rfl rfl (one_of HT_.out (by kernel_rfl)) (by decide) (fun K hK => ?_)
               refine goes_ Try.func24 (by kernel_rfl) rfl #[.agg #[.int .i64 a0_0, .slice A0_1 l0_1.length c0_1]] (by rfl) rfl rfl (by (try simp only [map_toArray, map_cons, map_nil]); first | done | rfl|(simp only [List.length_drop, List.length_take]; rfl)) ?_
               with_reducible refine (laws_toCyclo.calls kj108 a0_0 _ _ l0_1 t255 t256 _ ?side1 ?side2 A163.out).mono ?_
               (case side1 => repeat (first|exact (Kd.C_below HR0_1.out HB.out)|(with_reducible first|refine Kd.C_alloc ?_ _|refine Kd.C_drewN ?_ _|refine Kd.C_drew ?_)))
               (case side2 => exact HC0_1.out)
               rintro e w178 ⟨v257, rfl, ho0, hb⟩
               refine ⟨_, rfl, ?_⟩
               have n0_ := Am (R_elder' HO_220001.out (R_base ho0) hb)
               have n1_ := Am (R_elder' HO_225001.out (R_base ho0) hb)
               have n2_ := Am (R_elder' HO_230001.out (R_base ho0) hb)
               have n3_ := Am (R_elder' HO_236001.out (R_base ho0) hb)
               have n4_ := Am (R_lower (R_new' (R_new' (R_new' (R_new' ho0 (R_lt HO_220001.out)) (R_lt HO_225001.out)) (R_lt HO_230001.out)) (R_lt HO_236001.out)) (below_size (by repeat (first|(with_reducible first|exact HB.out|apply bA|apply bN|apply b1|refine bS ?_ GE219.out|refine bS ?_ GE224.out|refine bS ?_ GE229.out|refine bS ?_ GE235.out|refine bS ?_ GE268.out)|exact HB.out))))
               have n5_ := Am (bb hb BK202.out)
               have n6_ := Am (bb hb BK203.out)
               have n7_ := Am (bb hb BK219.out)
               have n8_ := Am (bb hb BK224.out)
               have n9_ := Am (bb hb BK229.out)
               have n10_ := Am (bb hb BK235.out)
               have n11_ := Am (bb hb BK268.out)
               have n12_ := Am (below_step (by repeat (first|(with_reducible first|exact HB.out|apply bA|apply bN|apply b1|refine bS ?_ GE219.out|refine bS ?_ GE224.out|refine bS ?_ GE229.out|refine bS ?_ GE235.out|refine bS ?_ GE268.out)|exact HB.out)) hb)
               clear HO_220001 HO_225001 HO_230001 HO_236001 BK202 BK203 BK219 BK224 BK229 BK235 BK268 HB; have HO_220001 := n0_; have HO_225001 := n1_; have HO_230001 := n2_; have HO_236001 := n3_; have HO258 := n4_; have BK202 := n5_; have BK203 := n6_; have BK219 := n7_; have BK224 := n8_; have BK229 := n9_; have BK235 := n10_; have BK268 := n11_; have HB := n12_; clear n0_ n1_ n2_ n3_ n4_ n5_ n6_ n7_ n8_ n9_ n10_ n11_ n12_; (try clear hb); (try clear ho0)
               refine hK.out _ _ ⟨(blk_cell BK202.out 0).trans rfl, (blk_cell BK202.out 1).trans rfl, (blk_cell BK203.out 0).trans rfl, (blk_cell BK203.out 1).trans rfl⟩ (fun hHeld => ?_)
               clear hK K
               refine norm_ (a' := ?_) ?_ ?_
               rotate_left
               ·show Act.put _ (some 100) _ = _
                simp only [Act.put, setIfInBounds_toArray, set_cons_zero, set_cons_succ, i64_w, i32_w]
                rfl
               refine one_ (i := 3) (N := some 102) #[true, true, true, true, true, false, false, false, false, true, false, false] rfl rfl (one_of HT_.out (by kernel_rfl)) (by decide) (fun K hK => ?_)
               refine goes_ Try.func24 (by kernel_rfl) rfl #[.agg #[.int .i64 a1_0, .slice A1_1 l1_1.length c1_1]] (by rfl) rfl rfl (by (try simp only [map_toArray, map_cons, map_nil]); first | done | rfl|(simp only [List.length_drop, List.length_take]; rfl)) ?_
               with_reducible refine (laws_toCyclo.calls kj108 a1_0 _ _ l1_1 t259 t260 _ ?side1 ?side2 A164.out).mono ?_
               (case side1 => repeat (first|exact (Kd.C_below HR1_1.out HB.out)|(with_reducible first|refine Kd.C_alloc ?_ _|refine Kd.C_drewN ?_ _|refine Kd.C_drew ?_)))
               (case side2 => exact HC1_1.out)
               rintro e w179 ⟨v261, rfl, ho0, hb⟩
               refine ⟨_, rfl, ?_⟩
               have n0_ := Am (R_elder' HO_220001.out (R_base ho0) hb)
               have n1_ := Am (R_elder' HO_225001.out (R_base ho0) hb)
               have n2_ := Am (R_elder' HO_230001.out (R_base ho0) hb)
               have n3_ := Am (R_elder' HO_236001.out (R_base ho0) hb)
               have n4_ := Am (R_elder' HO258.out (R_base ho0) hb)
               have n5_ := Am (R_lower (R_new' (R_new' (R_new' (R_new' (R_new' ho0 (R_lt HO_220001.out)) (R_lt HO_225001.out)) (R_lt HO_230001.out)) (R_lt HO_236001.out)) (R_lt HO258.out)) (below_size (by repeat (first|(with_reducible first|exact HB.out|apply bA|apply bN|apply b1|refine bS ?_ GE219.out|refine bS ?_ GE224.out|refine bS ?_ GE229.out|refine bS ?_ GE235.out|refine bS ?_ GE268.out)|exact HB.out))))
               have n6_ := Am (bb hb BK202.out)
               have n7_ := Am (bb hb BK203.out)
               have n8_ := Am (bb hb BK219.out)
               have n9_ := Am (bb hb BK224.out)
               have n10_ := Am (bb hb BK229.out)
               have n11_ := Am (bb hb BK235.out)
               have n12_ := Am (bb hb BK268.out)
               have n13_ := Am (below_step (by repeat (first|(with_reducible first|exact HB.out|apply bA|apply bN|apply b1|refine bS ?_ GE219.out|refine bS ?_ GE224.out|refine bS ?_ GE229.out|refine bS ?_ GE235.out|refine bS ?_ GE268.out)|exact HB.out)) hb)
               clear HO_220001 HO_225001 HO_230001 HO_236001 HO258 BK202 BK203 BK219 BK224 BK229 BK235 BK268 HB; have HO_220001 := n0_; have HO_225001 := n1_; have HO_230001 := n2_; have HO_236001 := n3_; have HO258 := n4_; have HO262 := n5_; have BK202 := n6_; have BK203 := n7_; have BK219 := n8_; have BK224 := n9_; have BK229 := n10_; have BK235 := n11_; have BK268 := n12_; have HB := n13_; clear n0_ n1_ n2_ n3_ n4_ n5_ n6_ n7_ n8_ n9_ n10_ n11_ n12_ n13_; (try clear hb); (try clear ho0)
               obtain ⟨Ao180, co180, eo180⟩ := R_slice HO258.out
               (first|subst eo180|(injection eo180 with f1_ f2_ f3_; have f4_ := f1_.symm; have f5_ := f3_.symm; clear f1_ f2_ f3_; subst f4_; subst f5_))
               obtain ⟨Ao181, co181, eo181⟩ := R_slice HO262.out
               (first|subst eo181|(injection eo181 with f1_ f2_ f3_; have f4_ := f1_.symm; have f5_ := f3_.symm; clear f1_ f2_ f3_; subst f4_; subst f5_))
               refine hK.out _ _ ⟨(blk_cell BK202.out 0).trans rfl, (blk_cell BK202.out 1).trans rfl, (blk_cell BK203.out 0).trans rfl, (blk_cell BK203.out 1).trans rfl⟩ (fun hHeld => ?_)
               clear hK K
               refine norm_ (a' := ?_) ?_ ?_
               rotate_left
               ·show Act.put _ (some 102) _ = _
                simp only [Act.put, setIfInBounds_toArray, set_cons_zero, set_cons_succ, i64_w, i32_w]
                rfl
               refine one_ (i := 5) (N := some 104) #[true, true, true, true, true, true, false, false, false, true, false, false] rfl rfl (one_of HT_.out (by kernel_rfl)) (by decide) (fun K hK => ?_)
               refine goes_ Try.func36 (by kernel_rfl) rfl #[.agg #[.int .i64 t255, .slice Ao180 t256.length co180], .agg #[.int .i64 t259, .slice Ao181 t260.length co181], .int .i64 a2] (by rfl) rfl rfl (by (try simp only [map_toArray, map_cons, map_nil]); first | done | rfl|(simp only [List.length_drop, List.length_take]; rfl)) ?_
               with_reducible refine (impl_AddCyclos.calls kj108 t255 _ _ t256 t259 _ _ t260 a2 t263 t264 t267 _ ?side1 ?side2 ?side3 ?side4 A165.out).mono ?_
               (case side1 => repeat (first|exact (R_reads' HO258.out).2.2|(with_reducible first|refine Kd.C_alloc ?_ _|refine Kd.C_drewN ?_ _|refine Kd.C_drew ?_)))
               (case side2 => exact (R_reads' HO258.out).2.1)
               (case side3 => repeat (first|exact (R_reads' HO262.out).2.2|(with_reducible first|refine Kd.C_alloc ?_ _|refine Kd.C_drewN ?_ _|refine Kd.C_drew ?_)))
               (case side4 => exact (R_reads' HO262.out).2.1)
               rintro e w182 ⟨v265, rfl, ho0, hb⟩
               refine ⟨_, rfl, ?_⟩
               have n0_ := Am (R_elder' HO_220001.out (R_base ho0) hb)
               have n1_ := Am (R_elder' HO_225001.out (R_base ho0) hb)
               have n2_ := Am (R_elder' HO_230001.out (R_base ho0) hb)
               have n3_ := Am (R_elder' HO_236001.out (R_base ho0) hb)
               have n4_ := Am (R_elder' HO258.out (R_base ho0) hb)
               have n5_ := Am (R_elder' HO262.out (R_base ho0) hb)
               have n6_ := Am (R_lower (R_new' (R_new' (R_new' (R_new' (R_new' (R_new' ho0 (R_lt HO_220001.out)) (R_lt HO_225001.out)) (R_lt HO_230001.out)) (R_lt HO_236001.out)) (R_lt HO258.out)) (R_lt HO262.out)) (below_size (by repeat (first|(with_reducible first|exact HB.out|apply bA|apply bN|apply b1|refine bS ?_ GE219.out|refine bS ?_ GE224.out|refine bS ?_ GE229.out|refine bS ?_ GE235.out|refine bS ?_ GE268.out)|exact HB.out))))
               have n7_ := Am (bb hb BK202.out)
               have n8_ := Am (bb hb BK203.out)
               have n9_ := Am (bb hb BK219.out)
               have n10_ := Am (bb hb BK224.out)
               have n11_ := Am (bb hb BK229.out)
               have n12_ := Am (bb hb BK235.out)
               have n13_ := Am (bb hb BK268.out)
               have n14_ := Am (below_step (by repeat (first|(with_reducible first|exact HB.out|apply bA|apply bN|apply b1|refine bS ?_ GE219.out|refine bS ?_ GE224.out|refine bS ?_ GE229.out|refine bS ?_ GE235.out|refine bS ?_ GE268.out)|exact HB.out)) hb)
               clear HO_220001 HO_225001 HO_230001 HO_236001 HO258 HO262 BK202 BK203 BK219 BK224 BK229 BK235 BK268 HB; have HO_220001 := n0_; have HO_225001 := n1_; have HO_230001 := n2_; have HO_236001 := n3_; have HO258 := n4_; have HO262 := n5_; have HO266 := n6_; have BK202 := n7_; have BK203 := n8_; have BK219 := n9_; have BK224 := n10_; have BK229 := n11_; have BK235 := n12_; have BK268 := n13_; have HB := n14_; clear n0_ n1_ n2_ n3_ n4_ n5_ n6_ n7_ n8_ n9_ n10_ n11_ n12_ n13_ n14_; (try clear hb); (try clear ho0)
               refine hK.out _ _ ⟨(blk_cell BK202.out 0).trans rfl, (blk_cell BK202.out 1).trans rfl, (blk_cell BK203.out 0).trans rfl, (blk_cell BK203.out 1).trans rfl⟩ (fun hHeld => ?_)
               clear hK K
               refine norm_ (a' := ?_) ?_ ?_
               rotate_left
               ·show Act.put _ (some 104) _ = _
                simp only [Act.put, setIfInBounds_toArray, set_cons_zero, set_cons_succ, i64_w, i32_w]
                rfl
               refine pure_ (i := 6) (N := some 98) (v := ?_) (a' := ?_) #[true, true, true, true, true, true, true, false, false, true, false, false] rfl rfl (any_of HT_.out (by kernel_rfl)) (fun _ _ _ h => h) (Or.inl ⟨by rfl, ?_⟩) ?_ ?_
               rotate_left
               ·intro w'
                go_simp
                with_reducible rfl
               rotate_left
               ·simp only [Act.put, setIfInBounds_toArray, set_cons_zero, set_cons_succ, i64_w, i32_w]
                rfl
               refine pure_ (i := 7) (N := some 105) (v := ?_) (a' := ?_) #[true, true, true, true, true, true, true, true, false, true, false, false] rfl rfl (any_of HT_.out (by kernel_rfl)) (fun _ _ _ h => h) (Or.inl ⟨by rfl, ?_⟩) ?_ ?_
               rotate_left
               ·intro w'
                go_simp
                with_reducible rfl
               rotate_left
               ·simp only [Act.put, setIfInBounds_toArray, set_cons_zero, set_cons_succ, i64_w, i32_w]
                rfl
               refine pure_ (i := 8) (N := some 106) (v := ?_) (a' := ?_) #[true, true, true, true, true, true, true, true, true, true, false, false] rfl rfl (any_of HT_.out (by kernel_rfl)) (fun _ _ _ h => h) (Or.inl ⟨by rfl, ?_⟩) ?_ ?_
               rotate_left
               ·intro w'
                go_simp
                with_reducible rfl
               rotate_left
               ·simp only [Act.put, setIfInBounds_toArray, set_cons_zero, set_cons_succ, i64_w, i32_w]
                rfl
               exact norm_ (by simp only [putAll, Act.put, setIfInBounds_toArray, set_cons_zero, set_cons_succ]) (hCont (.slice Ao180 t256.length co180, .slice Ao181 t260.length co181, v265, gb268) _ ⟨hHeld, (by exact R_mono HO258.out (fun _ hk => ⟨hk.1.2, ⟨hk.2, ⟨hk.1.1.1.1.1.2, ⟨hk.1.1.1.1.2, ⟨hk.1.1.1.2, hk.1.1.2⟩⟩⟩⟩⟩)), (by exact R_mono HO262.out (fun _ hk => ⟨hk.1.2, ⟨hk.2, ⟨hk.1.1.1.1.1.2, ⟨hk.1.1.1.1.2, ⟨hk.1.1.1.2, hk.1.1.2⟩⟩⟩⟩⟩)), (by exact R_mono HO266.out (fun _ hk => ⟨hk.1.2, ⟨hk.2, ⟨hk.1.1.1.1.1.2, ⟨hk.1.1.1.1.2, ⟨hk.1.1.1.2, hk.1.1.2⟩⟩⟩⟩⟩)), (by exact R_mono HO_220001.out (fun _ hk => ⟨hk.1.1.2, ⟨hk.1.2, ⟨hk.2, ⟨hk.1.1.1.1, ⟨hk.1.1.1.2.1, hk.1.1.1.2.2⟩⟩⟩⟩⟩)), (by exact R_mono HO_225001.out (fun _ hk => ⟨hk.1.1.2, ⟨hk.1.2, ⟨hk.2, ⟨hk.1.1.1.1, ⟨hk.1.1.1.2.1, hk.1.1.1.2.2⟩⟩⟩⟩⟩)), (by exact R_mono HO_230001.out (fun _ hk => ⟨hk.1.1.2, ⟨hk.1.2, ⟨hk.2, ⟨hk.1.1.1.1, ⟨hk.1.1.1.2.1, hk.1.1.1.2.2⟩⟩⟩⟩⟩)), (by exact R_mono HO_236001.out (fun _ hk => ⟨hk.1.1.2, ⟨hk.1.2, ⟨hk.2, ⟨hk.1.1.1.1, ⟨hk.1.1.1.2.1, hk.1.1.1.2.2⟩⟩⟩⟩⟩)), BK202.out, BK203.out, BK219.out, BK224.out, BK229.out, BK235.out, BK268.out, GW268.out, GE268.out, NB202_268.out, NB268_202.out, NB203_268.out, NB268_203.out, NB219_268.out, NB268_219.out, NB224_268.out, NB268_224.out, NB229_268.out, NB268_229.out, NB235_268.out, NB268_235.out, (by repeat (first|(with_reducible first|exact HB.out|apply bA|apply bN|apply b1|refine bS ?_ GE219.out|refine bS ?_ GE224.out|refine bS ?_ GE229.out|refine bS ?_ GE235.out|refine bS ?_ GE268.out)|exact HB.out))⟩)
             rintro ⟨v257, v261, v265, gb268⟩ w183 ⟨hS_, h0_, h1_, h2_, h3_, h4_, h5_, h6_, h7_, h8_, h9_, h10_, h11_, h12_, h13_, h14_, h15_, h16_, h17_, h18_, h19_, h20_, h21_, h22_, h23_, h24_, h25_, h26_, h27_, h28_⟩
             have n0_ : Aside0 (Kd.R (Kd.int .i64) 2 w183 w.heap.size (fun k_ => some k_ ≠ (v261 : Value).ownBlock ∧ some k_ ≠ (v265 : Value).ownBlock ∧ some k_ ≠ (.slice Ao43 t215.length co43 : Value).ownBlock ∧ some k_ ≠ (.slice Ao53 t248.length co53 : Value).ownBlock ∧ some k_ ≠ (.slice Ao63 t250.length co63 : Value).ownBlock ∧ some k_ ≠ (.slice Ao73 t231.length co73 : Value).ownBlock) v257 t256) := ⟨h0_⟩
             have n1_ : Aside0 (Kd.R (Kd.int .i64) 2 w183 w.heap.size (fun k_ => some k_ ≠ (v257 : Value).ownBlock ∧ some k_ ≠ (v265 : Value).ownBlock ∧ some k_ ≠ (.slice Ao43 t215.length co43 : Value).ownBlock ∧ some k_ ≠ (.slice Ao53 t248.length co53 : Value).ownBlock ∧ some k_ ≠ (.slice Ao63 t250.length co63 : Value).ownBlock ∧ some k_ ≠ (.slice Ao73 t231.length co73 : Value).ownBlock) v261 t260) := ⟨h1_⟩
             have n2_ : Aside0 (Kd.R (Kd.int .i64) 2 w183 w.heap.size (fun k_ => some k_ ≠ (v257 : Value).ownBlock ∧ some k_ ≠ (v261 : Value).ownBlock ∧ some k_ ≠ (.slice Ao43 t215.length co43 : Value).ownBlock ∧ some k_ ≠ (.slice Ao53 t248.length co53 : Value).ownBlock ∧ some k_ ≠ (.slice Ao63 t250.length co63 : Value).ownBlock ∧ some k_ ≠ (.slice Ao73 t231.length co73 : Value).ownBlock) v265 t264) := ⟨h2_⟩
             have n3_ : Aside0 (Kd.R (Kd.int .i64) 2 w183 w.heap.size (fun k_ => some k_ ≠ (v257 : Value).ownBlock ∧ some k_ ≠ (v261 : Value).ownBlock ∧ some k_ ≠ (v265 : Value).ownBlock ∧ some k_ ≠ (.slice Ao53 t248.length co53 : Value).ownBlock ∧ some k_ ≠ (.slice Ao63 t250.length co63 : Value).ownBlock ∧ some k_ ≠ (.slice Ao73 t231.length co73 : Value).ownBlock) (.slice Ao43 t215.length co43) t215) := ⟨h3_⟩
             have n4_ : Aside0 (Kd.R (Kd.int .i64) 2 w183 w.heap.size (fun k_ => some k_ ≠ (v257 : Value).ownBlock ∧ some k_ ≠ (v261 : Value).ownBlock ∧ some k_ ≠ (v265 : Value).ownBlock ∧ some k_ ≠ (.slice Ao43 t215.length co43 : Value).ownBlock ∧ some k_ ≠ (.slice Ao63 t250.length co63 : Value).ownBlock ∧ some k_ ≠ (.slice Ao73 t231.length co73 : Value).ownBlock) (.slice Ao53 t248.length co53) t248) := ⟨h4_⟩
             have n5_ : Aside0 (Kd.R (Kd.int .i64) 2 w183 w.heap.size (fun k_ => some k_ ≠ (v257 : Value).ownBlock ∧ some k_ ≠ (v261 : Value).ownBlock ∧ some k_ ≠ (v265 : Value).ownBlock ∧ some k_ ≠ (.slice Ao43 t215.length co43 : Value).ownBlock ∧ some k_ ≠ (.slice Ao53 t248.length co53 : Value).ownBlock ∧ some k_ ≠ (.slice Ao73 t231.length co73 : Value).ownBlock) (.slice Ao63 t250.length co63) t250) := ⟨h5_⟩
             have n6_ : Aside0 (Kd.R (Kd.int .i64) 2 w183 w.heap.size (fun k_ => some k_ ≠ (v257 : Value).ownBlock ∧ some k_ ≠ (v261 : Value).ownBlock ∧ some k_ ≠ (v265 : Value).ownBlock ∧ some k_ ≠ (.slice Ao43 t215.length co43 : Value).ownBlock ∧ some k_ ≠ (.slice Ao53 t248.length co53 : Value).ownBlock ∧ some k_ ≠ (.slice Ao63 t250.length co63 : Value).ownBlock) (.slice Ao73 t231.length co73) t253) := ⟨h6_⟩
             have n7_ : Aside0 (w183.heap[gb202]? = some (.cells #[.int .i64 a0_0, .slice A0_1 l0_1.length c0_1] 32 (0, 0))) := ⟨h7_⟩
             have n8_ : Aside0 (w183.heap[gb203]? = some (.cells #[.int .i64 a1_0, .slice A1_1 l1_1.length c1_1] 32 (0, 0))) := ⟨h8_⟩
             have n9_ : Aside0 (w183.heap[gb219]? = some (.cells #[.int .i64 t214, .slice Ao43 t215.length co43] 35 (0, 0))) := ⟨h9_⟩
             have n10_ : Aside0 (w183.heap[gb224]? = some (.cells #[.int .i64 t220, .slice Ao53 t248.length co53] 35 (0, 0))) := ⟨h10_⟩
             have n11_ : Aside0 (w183.heap[gb229]? = some (.cells #[.int .i64 t225, .slice Ao63 t250.length co63] 35 (0, 0))) := ⟨h11_⟩
             have n12_ : Aside0 (w183.heap[gb235]? = some (.cells #[.int .i64 t230, .slice Ao73 t231.length co73] 35 (0, 0))) := ⟨h12_⟩
             have n13_ : Aside0 (w183.heap[gb268]? = some (.cells #[.int .i64 0, .slice none 0 0] 35 (0, 0))) := ⟨h13_⟩
             have n14_ : Aside0 (w.heap.size ≤ gb268) := ⟨h14_⟩
             have n15_ : Aside0 (w.heap.size ≤ gb268) := ⟨h15_⟩
             have n16_ : Aside0 (gb202 ≠ gb268) := ⟨h16_⟩
             have n17_ : Aside0 (gb268 ≠ gb202) := ⟨h17_⟩
             have n18_ : Aside0 (gb203 ≠ gb268) := ⟨h18_⟩
             have n19_ : Aside0 (gb268 ≠ gb203) := ⟨h19_⟩
             have n20_ : Aside0 (gb219 ≠ gb268) := ⟨h20_⟩
             have n21_ : Aside0 (gb268 ≠ gb219) := ⟨h21_⟩
             have n22_ : Aside0 (gb224 ≠ gb268) := ⟨h22_⟩
             have n23_ : Aside0 (gb268 ≠ gb224) := ⟨h23_⟩
             have n24_ : Aside0 (gb229 ≠ gb268) := ⟨h24_⟩
             have n25_ : Aside0 (gb268 ≠ gb229) := ⟨h25_⟩
             have n26_ : Aside0 (gb235 ≠ gb268) := ⟨h26_⟩
             have n27_ : Aside0 (gb268 ≠ gb235) := ⟨h27_⟩
             have n28_ : Aside0 (Below w.heap.size w w183) := ⟨h28_⟩
             clear HO_220001 HO_225001 HO_230001 HO_236001 BK202 BK203 BK219 BK224 BK229 BK235 HB h0_ h1_ h2_ h3_ h4_ h5_ h6_ h7_ h8_ h9_ h10_ h11_ h12_ h13_ h14_ h15_ h16_ h17_ h18_ h19_ h20_ h21_ h22_ h23_ h24_ h25_ h26_ h27_ h28_; have HO258 := n0_; have HO262 := n1_; have HO266 := n2_; have HO_220001 := n3_; have HO_225001 := n4_; have HO_230001 := n5_; have HO_236001 := n6_; have BK202 := n7_; have BK203 := n8_; have BK219 := n9_; have BK224 := n10_; have BK229 := n11_; have BK235 := n12_; have BK268 := n13_; have GW268 := n14_; have GE268 := n15_; have NB202_268 := n16_; have NB268_202 := n17_; have NB203_268 := n18_; have NB268_203 := n19_; have NB219_268 := n20_; have NB268_219 := n21_; have NB224_268 := n22_; have NB268_224 := n23_; have NB229_268 := n24_; have NB268_229 := n25_; have NB235_268 := n26_; have NB268_235 := n27_; have HB := n28_; clear n0_ n1_ n2_ n3_ n4_ n5_ n6_ n7_ n8_ n9_ n10_ n11_ n12_ n13_ n14_ n15_ n16_ n17_ n18_ n19_ n20_ n21_ n22_ n23_ n24_ n25_ n26_ n27_ n28_
             have hHeld : w183.cell? ⟨gb202, 0, none⟩ = some (.int .i64 a0_0) ∧ w183.cell? ⟨gb202, 1, none⟩ = some (.slice A0_1 l0_1.length c0_1) ∧ w183.cell? ⟨gb203, 0, none⟩ = some (.int .i64 a1_0) ∧ w183.cell? ⟨gb203, 1, none⟩ = some (.slice A1_1 l1_1.length c1_1) := hS_
             obtain ⟨Ao185, co185, eo185⟩ := R_slice HO266.out
             (first|subst eo185|(injection eo185 with f1_ f2_ f3_; have f4_ := f1_.symm; have f5_ := f3_.symm; clear f1_ f2_ f3_; subst f4_; subst f5_))
             refine norm_ (a' := ?_) ?_ ?_
             rotate_left
             ·simp only [putAll, Act.put, setIfInBounds_toArray, set_cons_zero, set_cons_succ]
              rfl
             refine one_ (i := 10) (N := none) #[true, true, true, true, true, true, true, true, true, true, true, false] rfl rfl (one_of HT_.out (by kernel_rfl)) (by decide) (fun K hK => ?_)
             have hs184 : w183.cell? ⟨gb268, 0, none⟩ = some (.int .i64 0) := (blk_cell BK268.out 0).trans rfl
             have hfs184 := blk_frozen BK268.out 0
             have hns184_0 := NB202_268.out
             have hns184_1 := NB203_268.out
             have hns184_2 := NB219_268.out
             have hns184_3 := NB224_268.out
             have hns184_4 := NB229_268.out
             have hns184_5 := NB235_268.out
             have hms184_0 := NB268_202.out
             have hms184_1 := NB268_203.out
             have hms184_2 := NB268_219.out
             have hms184_3 := NB268_224.out
             have hms184_4 := NB268_229.out
             have hms184_5 := NB268_235.out
             have hs186 : w183.cell? ⟨gb268, 1, none⟩ = some (.slice none 0 0) := (blk_cell BK268.out 1).trans rfl
             have hfs186 := blk_frozen BK268.out 1
             have hns186_0 := NB202_268.out
             have hns186_1 := NB203_268.out
             have hns186_2 := NB219_268.out
             have hns186_3 := NB224_268.out
             have hns186_4 := NB229_268.out
             have hns186_5 := NB235_268.out
             have hms186_0 := NB268_202.out
             have hms186_1 := NB268_203.out
             have hms186_2 := NB268_219.out
             have hms186_3 := NB268_224.out
             have hms186_4 := NB268_229.out
             have hms186_5 := NB268_235.out
             refine skip_ (w1 := ?_) (by rfl) rfl ?_ ?_
             rotate_left
             ·go_simp
              rfl
             refine hK.out _ _ ⟨((cell_far (p := ⟨gb268, _, none⟩) NB202_268.out _).trans (((cell_far (p := ⟨gb268, _, none⟩) NB202_268.out _).trans (hHeld.1)))), ((cell_far (p := ⟨gb268, _, none⟩) NB202_268.out _).trans (((cell_far (p := ⟨gb268, _, none⟩) NB202_268.out _).trans (hHeld.2.1)))), ((cell_far (p := ⟨gb268, _, none⟩) NB203_268.out _).trans (((cell_far (p := ⟨gb268, _, none⟩) NB203_268.out _).trans (hHeld.2.2.1)))), ((cell_far (p := ⟨gb268, _, none⟩) NB203_268.out _).trans (((cell_far (p := ⟨gb268, _, none⟩) NB203_268.out _).trans (hHeld.2.2.2))))⟩ (fun hHeld => ?_)
             clear hK K
             refine pure_ (i := 11) (N := some 18) (v := ?_) (a' := ?_) #[true, true, true, true, true, true, true, true, true, true, true, true] rfl rfl (any_of HT_.out (by kernel_rfl)) (fun _ _ _ h => h) (Or.inl ⟨by rfl, ?_⟩) ?_ ?_
             rotate_left
             ·intro w'
              go_simp
              with_reducible rfl
             rotate_left
             ·simp only [Act.put, setIfInBounds_toArray, set_cons_zero, set_cons_succ, i64_w, i32_w]
              rfl
             refine done_ (done_of HT_.out (by kernel_rfl)) ?_
             go_upto_region 32 with (fail)
             go_cut [115] (fun v115 wc => ∃ (kq : Nat) (x115_165 : Bool), v115 = .bool x115_165 ∧ Aside0 (j2 kq t252 x115_165 t230 t253 = some r) ∧ Aside0 (kq ≤ kj108) ∧ Aside0 (Kd.R (Kd.int .i64) 2 wc w.heap.size (fun k_ => some k_ ≠ ((.slice Ao53 t248.length co53) : Value).ownBlock ∧ some k_ ≠ ((.slice Ao63 t250.length co63) : Value).ownBlock ∧ some k_ ≠ ((.slice Ao73 t231.length co73) : Value).ownBlock ∧ some k_ ≠ ((.slice Ao185 t264.length co185) : Value).ownBlock) (.slice Ao43 t215.length co43) t215) ∧ Aside0 (Kd.R (Kd.int .i64) 2 wc w.heap.size (fun k_ => some k_ ≠ ((.slice Ao43 t215.length co43) : Value).ownBlock ∧ some k_ ≠ ((.slice Ao63 t250.length co63) : Value).ownBlock ∧ some k_ ≠ ((.slice Ao73 t231.length co73) : Value).ownBlock ∧ some k_ ≠ ((.slice Ao185 t264.length co185) : Value).ownBlock) (.slice Ao53 t248.length co53) t248) ∧ Aside0 (Kd.R (Kd.int .i64) 2 wc w.heap.size (fun k_ => some k_ ≠ ((.slice Ao43 t215.length co43) : Value).ownBlock ∧ some k_ ≠ ((.slice Ao53 t248.length co53) : Value).ownBlock ∧ some k_ ≠ ((.slice Ao73 t231.length co73) : Value).ownBlock ∧ some k_ ≠ ((.slice Ao185 t264.length co185) : Value).ownBlock) (.slice Ao63 t250.length co63) t250) ∧ Aside0 (Kd.R (Kd.int .i64) 2 wc w.heap.size (fun k_ => some k_ ≠ ((.slice Ao43 t215.length co43) : Value).ownBlock ∧ some k_ ≠ ((.slice Ao53 t248.length co53) : Value).ownBlock ∧ some k_ ≠ ((.slice Ao63 t250.length co63) : Value).ownBlock ∧ some k_ ≠ ((.slice Ao185 t264.length co185) : Value).ownBlock) (.slice Ao73 t231.length co73) t253) ∧ Aside0 (Kd.R (Kd.int .i64) 2 wc w.heap.size (fun k_ => some k_ ≠ ((.slice Ao43 t215.length co43) : Value).ownBlock ∧ some k_ ≠ ((.slice Ao53 t248.length co53) : Value).ownBlock ∧ some k_ ≠ ((.slice Ao63 t250.length co63) : Value).ownBlock ∧ some k_ ≠ ((.slice Ao73 t231.length co73) : Value).ownBlock) (.slice Ao185 t264.length co185) t264) ∧ Aside0 (wc.heap[gb202]? = some (.cells #[.int .i64 a0_0, (.slice A0_1 l0_1.length c0_1)] 32 (0, 0))) ∧ Aside0 (wc.heap[gb203]? = some (.cells #[.int .i64 a1_0, (.slice A1_1 l1_1.length c1_1)] 32 (0, 0))) ∧ Aside0 (wc.heap[gb219]? = some (.cells #[.int .i64 t214, (.slice Ao43 t215.length co43)] 35 (0, 0))) ∧ Aside0 (wc.heap[gb224]? = some (.cells #[.int .i64 t220, (.slice Ao53 t248.length co53)] 35 (0, 0))) ∧ Aside0 (wc.heap[gb229]? = some (.cells #[.int .i64 t225, (.slice Ao63 t250.length co63)] 35 (0, 0))) ∧ Aside0 (wc.heap[gb235]? = some (.cells #[.int .i64 t230, (.slice Ao73 t231.length co73)] 35 (0, 0))) ∧ Aside0 (wc.heap[gb268]? = some (.cells #[.int .i64 t263, (.slice Ao185 t264.length co185)] 35 (0, 0))) ∧ Aside0 (Below w.heap.size w wc))
             case first =>
              have H := HC166.out
              clear HC166
              replace H := Option.bind_eq_some_iff.mp H
              obtain ⟨t269, A1870, H⟩ := H
              replace H : (if t269 = true then (j2 kj108 t252 (t267 != t218) t230 t253) else (j2 kj108 t252 true t230 t253)) = some r := H
              have A187 := Am A1870
              clear A1870
              by_cases c188 : t269 = true
              ·subst c188
               have H1 : (j2 kj108 t252 (t267 != t218) t230 t253) = some r := by rw [if_pos rfl] at H; exact H
               clear H
               have H := H1
               clear H1
               have H' := Am H
               clear H
               have hnb189 := NB268_202.out
               have hnc189 := NB202_268.out
               have hnb190 := NB268_203.out
               have hnc190 := NB203_268.out
               have hnb191 := NB268_219.out
               have hnc191 := NB219_268.out
               have hnb192 := NB268_224.out
               have hnc192 := NB224_268.out
               have hnb193 := NB268_229.out
               have hnc193 := NB229_268.out
               have hnb194 := NB268_235.out
               have hnc194 := NB235_268.out
               have hcz195_0 : w183.cell? ⟨gb268, 0, none⟩ = some (.int .i64 0) := (blk_cell BK268.out 0).trans rfl
               have hcz195_1 : w183.cell? ⟨gb268, 1, none⟩ = some (.slice none 0 0) := (blk_cell BK268.out 1).trans rfl
               have hfz195_0 := blk_frozen BK268.out 0
               have hfz195_1 := blk_frozen BK268.out 1
               have hnb196 := NB219_202.out
               have hnc196 := NB202_219.out
               have hnb197 := NB219_203.out
               have hnc197 := NB203_219.out
               have hnb198 := NB219_224.out
               have hnc198 := NB224_219.out
               have hnb199 := NB219_229.out
               have hnc199 := NB229_219.out
               have hnb200 := NB219_235.out
               have hnc200 := NB235_219.out
               have hcz201_0 : w183.cell? ⟨gb219, 0, none⟩ = some (.int .i64 t214) := (blk_cell BK219.out 0).trans rfl
               have hcz201_1 : w183.cell? ⟨gb219, 1, none⟩ = some (.slice Ao43 t215.length co43) := (blk_cell BK219.out 1).trans rfl
               have hfz201_0 := blk_frozen BK219.out 0
               have hfz201_1 := blk_frozen BK219.out 1
               go_wp2_with (first|((with_reducible refine gate_callee (f := 26) rfl ?_); refine goesL_ (some 109) rfl rfl Try.func26 (by kernel_rfl) rfl #[.agg #[.int .i64 t263, .slice Ao185 t264.length co185], .agg #[.int .i64 t214, .slice Ao43 t215.length co43]] rfl (by (try simp only [map_toArray, map_cons, map_nil]); first | done | rfl|(simp only [List.length_drop, List.length_take]; rfl)) ?_; (with_reducible refine (laws_eqCyclo.calls kj108 t263 _ _ t264 t214 _ _ t215 true _ ?side1 ?side2 ?side3 ?side4 A187.out).mono ?_); (case side1 => refine (R_reads' (e := 2) (base := w.heap.size) (ok := fun k_ => (some k_ ≠ (v257 : Value).ownBlock ∧ (some k_ ≠ (v261 : Value).ownBlock ∧ (some k_ ≠ (.slice Ao43 t215.length co43 : Value).ownBlock ∧ (some k_ ≠ (.slice Ao53 t248.length co53 : Value).ownBlock ∧ (some k_ ≠ (.slice Ao63 t250.length co63 : Value).ownBlock ∧ some k_ ≠ (.slice Ao73 t231.length co73 : Value).ownBlock)))))) (n := t264.length) (c := co185) ?_).2.2; exact (by exact (R_mono (R_far (p := ⟨gb268, 1, none⟩) (R_far (p := ⟨gb268, 0, none⟩) (R_types HO266.out BK268.out (by decide)) (fun _ hk => hk.2) (.int .i64 t263)) (fun _ hk => hk.2) (.slice Ao185 t264.length co185)) (fun _ h_ => h_.1)))); (case side2 => exact (R_reads' HO266.out).2.1); (case side3 => refine (R_reads' (e := 2) (base := w.heap.size) (ok := fun k_ => (some k_ ≠ (v257 : Value).ownBlock ∧ (some k_ ≠ (v261 : Value).ownBlock ∧ (some k_ ≠ (.slice Ao185 t264.length co185 : Value).ownBlock ∧ (some k_ ≠ (.slice Ao53 t248.length co53 : Value).ownBlock ∧ (some k_ ≠ (.slice Ao63 t250.length co63 : Value).ownBlock ∧ some k_ ≠ (.slice Ao73 t231.length co73 : Value).ownBlock)))))) (n := t215.length) (c := co43) ?_).2.2; exact (by exact (R_mono (R_far (p := ⟨gb268, 1, none⟩) (R_far (p := ⟨gb268, 0, none⟩) (R_types HO_220001.out BK268.out (by decide)) (fun _ hk => hk.2) (.int .i64 t263)) (fun _ hk => hk.2) (.slice Ao185 t264.length co185)) (fun _ h_ => h_.1)))); (case side4 => exact (R_reads' HO_220001.out).2.1); rintro e w202 ⟨rfl, hb⟩; refine ⟨_, rfl, ?_⟩; have n0_ := Am (R_below (by exact (R_mono (R_far (p := ⟨gb268, 1, none⟩) (R_far (p := ⟨gb268, 0, none⟩) (R_types HO_220001.out BK268.out (by decide)) (fun _ hk => hk.2) (.int .i64 t263)) (fun _ hk => hk.2) (.slice Ao185 t264.length co185)) (fun _ h_ => h_.1))) hb); have n1_ := Am (R_below (by exact (R_mono (R_far (p := ⟨gb268, 1, none⟩) (R_far (p := ⟨gb268, 0, none⟩) (R_types HO_225001.out BK268.out (by decide)) (fun _ hk => hk.2) (.int .i64 t263)) (fun _ hk => hk.2) (.slice Ao185 t264.length co185)) (fun _ h_ => h_.1))) hb); have n2_ := Am (R_below (by exact (R_mono (R_far (p := ⟨gb268, 1, none⟩) (R_far (p := ⟨gb268, 0, none⟩) (R_types HO_230001.out BK268.out (by decide)) (fun _ hk => hk.2) (.int .i64 t263)) (fun _ hk => hk.2) (.slice Ao185 t264.length co185)) (fun _ h_ => h_.1))) hb); have n3_ := Am (R_below (by exact (R_mono (R_far (p := ⟨gb268, 1, none⟩) (R_far (p := ⟨gb268, 0, none⟩) (R_types HO_236001.out BK268.out (by decide)) (fun _ hk => hk.2) (.int .i64 t263)) (fun _ hk => hk.2) (.slice Ao185 t264.length co185)) (fun _ h_ => h_.1))) hb); have n4_ := Am (R_below (by exact (R_mono (R_far (p := ⟨gb268, 1, none⟩) (R_far (p := ⟨gb268, 0, none⟩) (R_types HO258.out BK268.out (by decide)) (fun _ hk => hk.2) (.int .i64 t263)) (fun _ hk => hk.2) (.slice Ao185 t264.length co185)) (fun _ h_ => h_.1))) hb); have n5_ := Am (R_below (by exact (R_mono (R_far (p := ⟨gb268, 1, none⟩) (R_far (p := ⟨gb268, 0, none⟩) (R_types HO262.out BK268.out (by decide)) (fun _ hk => hk.2) (.int .i64 t263)) (fun _ hk => hk.2) (.slice Ao185 t264.length co185)) (fun _ h_ => h_.1))) hb); have n6_ := Am (R_below (by exact (R_mono (R_far (p := ⟨gb268, 1, none⟩) (R_far (p := ⟨gb268, 0, none⟩) (R_types HO266.out BK268.out (by decide)) (fun _ hk => hk.2) (.int .i64 t263)) (fun _ hk => hk.2) (.slice Ao185 t264.length co185)) (fun _ h_ => h_.1))) hb); have n7_ := Am (blk_below (g := gb202) (o := .cells #[.int .i64 a0_0, .slice A0_1 l0_1.length c0_1] 32 (0, 0)) (by refine blk_far ?_ NB202_268.out _; refine blk_far ?_ NB202_268.out _; exact BK202.out) hb); have n8_ := Am (blk_below (g := gb203) (o := .cells #[.int .i64 a1_0, .slice A1_1 l1_1.length c1_1] 32 (0, 0)) (by refine blk_far ?_ NB203_268.out _; refine blk_far ?_ NB203_268.out _; exact BK203.out) hb); have n9_ := Am (blk_below (g := gb219) (o := .cells #[.int .i64 t214, .slice Ao43 t215.length co43] 35 (0, 0)) (by refine blk_far ?_ NB219_268.out _; refine blk_far ?_ NB219_268.out _; exact BK219.out) hb); have n10_ := Am (blk_below (g := gb224) (o := .cells #[.int .i64 t220, .slice Ao53 t248.length co53] 35 (0, 0)) (by refine blk_far ?_ NB224_268.out _; refine blk_far ?_ NB224_268.out _; exact BK224.out) hb); have n11_ := Am (blk_below (g := gb229) (o := .cells #[.int .i64 t225, .slice Ao63 t250.length co63] 35 (0, 0)) (by refine blk_far ?_ NB229_268.out _; refine blk_far ?_ NB229_268.out _; exact BK229.out) hb); have n12_ := Am (blk_below (g := gb235) (o := .cells #[.int .i64 t230, .slice Ao73 t231.length co73] 35 (0, 0)) (by refine blk_far ?_ NB235_268.out _; refine blk_far ?_ NB235_268.out _; exact BK235.out) hb); have n13_ := Am (blk_below (g := gb268) (o := .cells #[.int .i64 t263, .slice Ao185 t264.length co185] 35 (0, 0)) (by refine blk_put (cs := #[.int .i64 t263, .slice none 0 0]) ?_ 1 _ rfl; refine blk_put (cs := #[.int .i64 0, .slice none 0 0]) ?_ 0 _ rfl; exact BK268.out) hb); have n14_ := Am (below_step (by repeat (first|(with_reducible first|exact HB.out|apply bA|apply bN|apply b1|refine bS ?_ GE219.out|refine bS ?_ GE224.out|refine bS ?_ GE229.out|refine bS ?_ GE235.out|refine bS ?_ GE268.out)|exact HB.out)) hb); clear HO_220001; clear HO_225001; clear HO_230001; clear HO_236001; clear HO258; clear HO262; clear HO266; clear BK202; clear BK203; clear BK219; clear BK224; clear BK229; clear BK235; clear BK268; clear HB; have HO_220001 := n0_; have HO_225001 := n1_; have HO_230001 := n2_; have HO_236001 := n3_; have HO258 := n4_; have HO262 := n5_; have HO266 := n6_; have BK202 := n7_; have BK203 := n8_; have BK219 := n9_; have BK224 := n10_; have BK229 := n11_; have BK235 := n12_; have BK268 := n13_; have HB := n14_; clear n0_ n1_ n2_ n3_ n4_ n5_ n6_ n7_ n8_ n9_ n10_ n11_ n12_ n13_ n14_; (try clear hb); (try clear hk)))
               go_meet
               case rel => exact ⟨_, ((t267 != t218)), (by first | rfl|(simp; done)|(simp [*]; done)), H', ⟨by have := HJ25.out; have := HJ108.out; first|omega|exact Nat.le_refl _⟩, ⟨by (try simp only [hl225001_108]); (try simp only [hl230001_108]); (with_reducible repeat (first|apply R_alloc | apply R_drewN | apply R_drew)); exact R_mono HO_220001.out (fun _ hk => ⟨hk.2.2.2.1, ⟨hk.2.2.2.2.1, ⟨hk.2.2.2.2.2, hk.2.2.1⟩⟩⟩)⟩, ⟨by (try simp only [hl225001_108]); (try simp only [hl230001_108]); (with_reducible repeat (first|apply R_alloc | apply R_drewN | apply R_drew)); exact R_mono HO_225001.out (fun _ hk => ⟨hk.2.2.2.1, ⟨hk.2.2.2.2.1, ⟨hk.2.2.2.2.2, hk.2.2.1⟩⟩⟩)⟩, ⟨by (try simp only [hl225001_108]); (try simp only [hl230001_108]); (with_reducible repeat (first|apply R_alloc | apply R_drewN | apply R_drew)); exact R_mono HO_230001.out (fun _ hk => ⟨hk.2.2.2.1, ⟨hk.2.2.2.2.1, ⟨hk.2.2.2.2.2, hk.2.2.1⟩⟩⟩)⟩, ⟨by (try simp only [hl225001_108]); (try simp only [hl230001_108]); (with_reducible repeat (first|apply R_alloc | apply R_drewN | apply R_drew)); exact R_mono HO_236001.out (fun _ hk => ⟨hk.2.2.2.1, ⟨hk.2.2.2.2.1, ⟨hk.2.2.2.2.2, hk.2.2.1⟩⟩⟩)⟩, ⟨by (try simp only [hl225001_108]); (try simp only [hl230001_108]); (with_reducible repeat (first|apply R_alloc | apply R_drewN | apply R_drew)); exact R_mono HO266.out (fun _ hk => ⟨hk.2.2.1, ⟨hk.2.2.2.1, ⟨hk.2.2.2.2.1, hk.2.2.2.2.2⟩⟩⟩)⟩, ⟨by (try simp only [hl225001_108]); (try simp only [hl230001_108]); exact BK202.out⟩, ⟨by (try simp only [hl225001_108]); (try simp only [hl230001_108]); exact BK203.out⟩, ⟨by (try simp only [hl225001_108]); (try simp only [hl230001_108]); exact BK219.out⟩, ⟨by (try simp only [hl225001_108]); (try simp only [hl230001_108]); exact BK224.out⟩, ⟨by (try simp only [hl225001_108]); (try simp only [hl230001_108]); exact BK229.out⟩, ⟨by (try simp only [hl225001_108]); (try simp only [hl230001_108]); exact BK235.out⟩, ⟨by (try simp only [hl225001_108]); (try simp only [hl230001_108]); exact BK268.out⟩, ⟨by repeat (first|(with_reducible first|exact HB.out|apply bA|apply bN|apply b1|refine bS ?_ GE219.out|refine bS ?_ GE224.out|refine bS ?_ GE229.out|refine bS ?_ GE235.out|refine bS ?_ GE268.out)|exact HB.out)⟩⟩
              ·replace c188 := Bool.eq_false_iff.mpr c188
               subst c188
               have H1 : (j2 kj108 t252 true t230 t253) = some r := by rw [if_neg (show ¬ (false = true) by decide)] at H; exact H
               clear H
               have H := H1
               clear H1
               have H' := Am H
               clear H
               have hnb203 := NB268_202.out
               have hnc203 := NB202_268.out
               have hnb204 := NB268_203.out
               have hnc204 := NB203_268.out
               have hnb205 := NB268_219.out
               have hnc205 := NB219_268.out
               have hnb206 := NB268_224.out
               have hnc206 := NB224_268.out
               have hnb207 := NB268_229.out
               have hnc207 := NB229_268.out
               have hnb208 := NB268_235.out
               have hnc208 := NB235_268.out
               have hcz209_0 : w183.cell? ⟨gb268, 0, none⟩ = some (.int .i64 0) := (blk_cell BK268.out 0).trans rfl
               have hcz209_1 : w183.cell? ⟨gb268, 1, none⟩ = some (.slice none 0 0) := (blk_cell BK268.out 1).trans rfl
               have hfz209_0 := blk_frozen BK268.out 0
               have hfz209_1 := blk_frozen BK268.out 1
               have hnb210 := NB219_202.out
               have hnc210 := NB202_219.out
               have hnb211 := NB219_203.out
               have hnc211 := NB203_219.out
               have hnb212 := NB219_224.out
               have hnc212 := NB224_219.out
               have hnb213 := NB219_229.out
               have hnc213 := NB229_219.out
               have hnb214 := NB219_235.out
               have hnc214 := NB235_219.out
               have hcz215_0 : w183.cell? ⟨gb219, 0, none⟩ = some (.int .i64 t214) := (blk_cell BK219.out 0).trans rfl
               have hcz215_1 : w183.cell? ⟨gb219, 1, none⟩ = some (.slice Ao43 t215.length co43) := (blk_cell BK219.out 1).trans rfl
               have hfz215_0 := blk_frozen BK219.out 0
               have hfz215_1 := blk_frozen BK219.out 1
               go_wp2_with (first|((with_reducible refine gate_callee (f := 26) rfl ?_); refine goesL_ (some 109) rfl rfl Try.func26 (by kernel_rfl) rfl #[.agg #[.int .i64 t263, .slice Ao185 t264.length co185], .agg #[.int .i64 t214, .slice Ao43 t215.length co43]] rfl (by (try simp only [map_toArray, map_cons, map_nil]); first | done | rfl|(simp only [List.length_drop, List.length_take]; rfl)) ?_; (with_reducible refine (laws_eqCyclo.calls kj108 t263 _ _ t264 t214 _ _ t215 false _ ?side1 ?side2 ?side3 ?side4 A187.out).mono ?_); (case side1 => refine (R_reads' (e := 2) (base := w.heap.size) (ok := fun k_ => (some k_ ≠ (v257 : Value).ownBlock ∧ (some k_ ≠ (v261 : Value).ownBlock ∧ (some k_ ≠ (.slice Ao43 t215.length co43 : Value).ownBlock ∧ (some k_ ≠ (.slice Ao53 t248.length co53 : Value).ownBlock ∧ (some k_ ≠ (.slice Ao63 t250.length co63 : Value).ownBlock ∧ some k_ ≠ (.slice Ao73 t231.length co73 : Value).ownBlock)))))) (n := t264.length) (c := co185) ?_).2.2; exact (by exact (R_mono (R_far (p := ⟨gb268, 1, none⟩) (R_far (p := ⟨gb268, 0, none⟩) (R_types HO266.out BK268.out (by decide)) (fun _ hk => hk.2) (.int .i64 t263)) (fun _ hk => hk.2) (.slice Ao185 t264.length co185)) (fun _ h_ => h_.1)))); (case side2 => exact (R_reads' HO266.out).2.1); (case side3 => refine (R_reads' (e := 2) (base := w.heap.size) (ok := fun k_ => (some k_ ≠ (v257 : Value).ownBlock ∧ (some k_ ≠ (v261 : Value).ownBlock ∧ (some k_ ≠ (.slice Ao185 t264.length co185 : Value).ownBlock ∧ (some k_ ≠ (.slice Ao53 t248.length co53 : Value).ownBlock ∧ (some k_ ≠ (.slice Ao63 t250.length co63 : Value).ownBlock ∧ some k_ ≠ (.slice Ao73 t231.length co73 : Value).ownBlock)))))) (n := t215.length) (c := co43) ?_).2.2; exact (by exact (R_mono (R_far (p := ⟨gb268, 1, none⟩) (R_far (p := ⟨gb268, 0, none⟩) (R_types HO_220001.out BK268.out (by decide)) (fun _ hk => hk.2) (.int .i64 t263)) (fun _ hk => hk.2) (.slice Ao185 t264.length co185)) (fun _ h_ => h_.1)))); (case side4 => exact (R_reads' HO_220001.out).2.1); rintro e w216 ⟨rfl, hb⟩; refine ⟨_, rfl, ?_⟩; have n0_ := Am (R_below (by exact (R_mono (R_far (p := ⟨gb268, 1, none⟩) (R_far (p := ⟨gb268, 0, none⟩) (R_types HO_220001.out BK268.out (by decide)) (fun _ hk => hk.2) (.int .i64 t263)) (fun _ hk => hk.2) (.slice Ao185 t264.length co185)) (fun _ h_ => h_.1))) hb); have n1_ := Am (R_below (by exact (R_mono (R_far (p := ⟨gb268, 1, none⟩) (R_far (p := ⟨gb268, 0, none⟩) (R_types HO_225001.out BK268.out (by decide)) (fun _ hk => hk.2) (.int .i64 t263)) (fun _ hk => hk.2) (.slice Ao185 t264.length co185)) (fun _ h_ => h_.1))) hb); have n2_ := Am (R_below (by exact (R_mono (R_far (p := ⟨gb268, 1, none⟩) (R_far (p := ⟨gb268, 0, none⟩) (R_types HO_230001.out BK268.out (by decide)) (fun _ hk => hk.2) (.int .i64 t263)) (fun _ hk => hk.2) (.slice Ao185 t264.length co185)) (fun _ h_ => h_.1))) hb); have n3_ := Am (R_below (by exact (R_mono (R_far (p := ⟨gb268, 1, none⟩) (R_far (p := ⟨gb268, 0, none⟩) (R_types HO_236001.out BK268.out (by decide)) (fun _ hk => hk.2) (.int .i64 t263)) (fun _ hk => hk.2) (.slice Ao185 t264.length co185)) (fun _ h_ => h_.1))) hb); have n4_ := Am (R_below (by exact (R_mono (R_far (p := ⟨gb268, 1, none⟩) (R_far (p := ⟨gb268, 0, none⟩) (R_types HO258.out BK268.out (by decide)) (fun _ hk => hk.2) (.int .i64 t263)) (fun _ hk => hk.2) (.slice Ao185 t264.length co185)) (fun _ h_ => h_.1))) hb); have n5_ := Am (R_below (by exact (R_mono (R_far (p := ⟨gb268, 1, none⟩) (R_far (p := ⟨gb268, 0, none⟩) (R_types HO262.out BK268.out (by decide)) (fun _ hk => hk.2) (.int .i64 t263)) (fun _ hk => hk.2) (.slice Ao185 t264.length co185)) (fun _ h_ => h_.1))) hb); have n6_ := Am (R_below (by exact (R_mono (R_far (p := ⟨gb268, 1, none⟩) (R_far (p := ⟨gb268, 0, none⟩) (R_types HO266.out BK268.out (by decide)) (fun _ hk => hk.2) (.int .i64 t263)) (fun _ hk => hk.2) (.slice Ao185 t264.length co185)) (fun _ h_ => h_.1))) hb); have n7_ := Am (blk_below (g := gb202) (o := .cells #[.int .i64 a0_0, .slice A0_1 l0_1.length c0_1] 32 (0, 0)) (by refine blk_far ?_ NB202_268.out _; refine blk_far ?_ NB202_268.out _; exact BK202.out) hb); have n8_ := Am (blk_below (g := gb203) (o := .cells #[.int .i64 a1_0, .slice A1_1 l1_1.length c1_1] 32 (0, 0)) (by refine blk_far ?_ NB203_268.out _; refine blk_far ?_ NB203_268.out _; exact BK203.out) hb); have n9_ := Am (blk_below (g := gb219) (o := .cells #[.int .i64 t214, .slice Ao43 t215.length co43] 35 (0, 0)) (by refine blk_far ?_ NB219_268.out _; refine blk_far ?_ NB219_268.out _; exact BK219.out) hb); have n10_ := Am (blk_below (g := gb224) (o := .cells #[.int .i64 t220, .slice Ao53 t248.length co53] 35 (0, 0)) (by refine blk_far ?_ NB224_268.out _; refine blk_far ?_ NB224_268.out _; exact BK224.out) hb); have n11_ := Am (blk_below (g := gb229) (o := .cells #[.int .i64 t225, .slice Ao63 t250.length co63] 35 (0, 0)) (by refine blk_far ?_ NB229_268.out _; refine blk_far ?_ NB229_268.out _; exact BK229.out) hb); have n12_ := Am (blk_below (g := gb235) (o := .cells #[.int .i64 t230, .slice Ao73 t231.length co73] 35 (0, 0)) (by refine blk_far ?_ NB235_268.out _; refine blk_far ?_ NB235_268.out _; exact BK235.out) hb); have n13_ := Am (blk_below (g := gb268) (o := .cells #[.int .i64 t263, .slice Ao185 t264.length co185] 35 (0, 0)) (by refine blk_put (cs := #[.int .i64 t263, .slice none 0 0]) ?_ 1 _ rfl; refine blk_put (cs := #[.int .i64 0, .slice none 0 0]) ?_ 0 _ rfl; exact BK268.out) hb); have n14_ := Am (below_step (by repeat (first|(with_reducible first|exact HB.out|apply bA|apply bN|apply b1|refine bS ?_ GE219.out|refine bS ?_ GE224.out|refine bS ?_ GE229.out|refine bS ?_ GE235.out|refine bS ?_ GE268.out)|exact HB.out)) hb); clear HO_220001; clear HO_225001; clear HO_230001; clear HO_236001; clear HO258; clear HO262; clear HO266; clear BK202; clear BK203; clear BK219; clear BK224; clear BK229; clear BK235; clear BK268; clear HB; have HO_220001 := n0_; have HO_225001 := n1_; have HO_230001 := n2_; have HO_236001 := n3_; have HO258 := n4_; have HO262 := n5_; have HO266 := n6_; have BK202 := n7_; have BK203 := n8_; have BK219 := n9_; have BK224 := n10_; have BK229 := n11_; have BK235 := n12_; have BK268 := n13_; have HB := n14_; clear n0_ n1_ n2_ n3_ n4_ n5_ n6_ n7_ n8_ n9_ n10_ n11_ n12_ n13_ n14_; (try clear hb); (try clear hk)))
               go_meet
               case rel => exact ⟨_, (true), (by first | rfl|(simp; done)|(simp [*]; done)), H', ⟨by have := HJ25.out; have := HJ108.out; first|omega|exact Nat.le_refl _⟩, ⟨by (try simp only [hl225001_108]); (try simp only [hl230001_108]); (with_reducible repeat (first|apply R_alloc | apply R_drewN | apply R_drew)); exact R_mono HO_220001.out (fun _ hk => ⟨hk.2.2.2.1, ⟨hk.2.2.2.2.1, ⟨hk.2.2.2.2.2, hk.2.2.1⟩⟩⟩)⟩, ⟨by (try simp only [hl225001_108]); (try simp only [hl230001_108]); (with_reducible repeat (first|apply R_alloc | apply R_drewN | apply R_drew)); exact R_mono HO_225001.out (fun _ hk => ⟨hk.2.2.2.1, ⟨hk.2.2.2.2.1, ⟨hk.2.2.2.2.2, hk.2.2.1⟩⟩⟩)⟩, ⟨by (try simp only [hl225001_108]); (try simp only [hl230001_108]); (with_reducible repeat (first|apply R_alloc | apply R_drewN | apply R_drew)); exact R_mono HO_230001.out (fun _ hk => ⟨hk.2.2.2.1, ⟨hk.2.2.2.2.1, ⟨hk.2.2.2.2.2, hk.2.2.1⟩⟩⟩)⟩, ⟨by (try simp only [hl225001_108]); (try simp only [hl230001_108]); (with_reducible repeat (first|apply R_alloc | apply R_drewN | apply R_drew)); exact R_mono HO_236001.out (fun _ hk => ⟨hk.2.2.2.1, ⟨hk.2.2.2.2.1, ⟨hk.2.2.2.2.2, hk.2.2.1⟩⟩⟩)⟩, ⟨by (try simp only [hl225001_108]); (try simp only [hl230001_108]); (with_reducible repeat (first|apply R_alloc | apply R_drewN | apply R_drew)); exact R_mono HO266.out (fun _ hk => ⟨hk.2.2.1, ⟨hk.2.2.2.1, ⟨hk.2.2.2.2.1, hk.2.2.2.2.2⟩⟩⟩)⟩, ⟨by (try simp only [hl225001_108]); (try simp only [hl230001_108]); exact BK202.out⟩, ⟨by (try simp only [hl225001_108]); (try simp only [hl230001_108]); exact BK203.out⟩, ⟨by (try simp only [hl225001_108]); (try simp only [hl230001_108]); exact BK219.out⟩, ⟨by (try simp only [hl225001_108]); (try simp only [hl230001_108]); exact BK224.out⟩, ⟨by (try simp only [hl225001_108]); (try simp only [hl230001_108]); exact BK229.out⟩, ⟨by (try simp only [hl225001_108]); (try simp only [hl230001_108]); exact BK235.out⟩, ⟨by (try simp only [hl225001_108]); (try simp only [hl230001_108]); exact BK268.out⟩, ⟨by repeat (first|(with_reducible first|exact HB.out|apply bA|apply bN|apply b1|refine bS ?_ GE219.out|refine bS ?_ GE224.out|refine bS ?_ GE229.out|refine bS ?_ GE235.out|refine bS ?_ GE268.out)|exact HB.out)⟩⟩
             case rest =>
              clear HC166
              try clear c188
              try clear hcz195_0
              try clear hcz195_1
              try clear hcz201_0
              try clear hcz201_1
              try clear hcz209_0
              try clear hcz209_1
              try clear hcz215_0
              try clear hcz215_1
              try clear hfz195_0
              try clear hfz195_1
              try clear hfz201_0
              try clear hfz201_1
              try clear hfz209_0
              try clear hfz209_1
              try clear hfz215_0
              try clear hfz215_1
              obtain ⟨kq, x115_165, rfl, HA, HJ165, HO_220001, HO_225001, HO_230001, HO_236001, HO_269001, BK202, BK203, BK219, BK224, BK229, BK235, BK268, HB⟩ := hcut
              have hl236001_165 := (R_reads' HO_236001.out).1
              rw [hl236001_165] at HO_236001
              (try simp only [hl236001_165])
              (try simp only [hl236001_165] at BK202)
              (try simp only [hl236001_165] at BK203)
              (try simp only [hl236001_165] at BK219)
              (try simp only [hl236001_165] at BK224)
              (try simp only [hl236001_165] at BK229)
              (try simp only [hl236001_165] at BK235)
              (try simp only [hl236001_165] at BK268)
              (try simp only [hl236001_165] at HO_220001)
              (try simp only [hl236001_165] at HO_225001)
              (try simp only [hl236001_165] at HO_230001)
              (try simp only [hl236001_165] at HO_269001)
              cases kq with
              | zero => exact absurd HA.out (by simp [j2])
              | succ kj165 =>
               have H := HA.out
               clear HA
               simp only [j2] at H
               by_cases c217 : x115_165 = true
               ·subst c217
                have H1 : (none) = some r := by rw [if_pos rfl] at H; exact H
                clear H
                have H := H1
                clear H1
                exact absurd H (by simp)
               ·replace c217 := Bool.eq_false_iff.mpr c217
                subst c217
                have H1 : ((laws_heldCyclo.f kj165 t230 t253 1).bind fun t270 => (if t270 < 0 then (none) else (if t270 = t252 then (some true) else (none)))) = some r := by rw [if_neg (show ¬ (false = true) by decide)] at H; exact H
                clear H
                have H := H1
                clear H1
                replace H := Option.bind_eq_some_iff.mp H
                obtain ⟨t270, A2180, H⟩ := H
                replace H : (if t270 < 0 then (none) else (if t270 = t252 then (some true) else (none))) = some r := H
                have A218 := Am A2180
                clear A2180
                by_cases c219 : t270 < 0
                ·rw [if_pos c219] at H
                 exact absurd H (by simp)
                ·rw [if_neg c219] at H
                 have c219b0 : decide (t270 < 0) = false := decide_eq_false c219
                 clear c219
                 by_cases c220 : t270 = t252
                 ·rw [if_pos c220] at H
                  have c220b0 : (t270 == t252) = true := beq_iff_eq.mpr c220
                  have c220b1 : (t270 != t252) = false := bne_eq_false_iff_eq.mpr c220
                  clear c220
                  obtain rfl := Option.some.inj H
                  have hnb221 := NB235_202.out
                  have hnc221 := NB202_235.out
                  have hnb222 := NB235_203.out
                  have hnc222 := NB203_235.out
                  have hnb223 := NB235_219.out
                  have hnc223 := NB219_235.out
                  have hnb224 := NB235_224.out
                  have hnc224 := NB224_235.out
                  have hnb225 := NB235_229.out
                  have hnc225 := NB229_235.out
                  have hnb226 := NB235_268.out
                  have hnc226 := NB268_235.out
                  have hcz227_0 : wc.cell? ⟨gb235, 0, none⟩ = some (.int .i64 t230) := (blk_cell BK235.out 0).trans rfl
                  have hcz227_1 : wc.cell? ⟨gb235, 1, none⟩ = some (.slice Ao73 t253.length co73) := (blk_cell BK235.out 1).trans rfl
                  have hfz227_0 := blk_frozen BK235.out 0
                  have hfz227_1 := blk_frozen BK235.out 1
                  go_wp2_with (first|((with_reducible refine gate_callee (f := 38) rfl ?_); refine goesL_ (some 118) rfl rfl Try.func38 (by kernel_rfl) rfl #[.agg #[.int .i64 t230, .slice Ao73 t253.length co73], .int .i64 1] rfl (by (try simp only [map_toArray, map_cons, map_nil]); first | done | rfl|(simp only [List.length_drop, List.length_take]; rfl)) ?_; (with_reducible refine (laws_heldCyclo.calls kj165 t230 _ _ t253 1 t270 _ ?side1 ?side2 A218.out).mono ?_); (case side1 => repeat (first|exact (R_reads' HO_236001.out).2.2|(with_reducible first|refine Kd.C_alloc ?_ _|refine Kd.C_drewN ?_ _|refine Kd.C_drew ?_))); (case side2 => exact (R_reads' HO_236001.out).2.1); rintro e w228 ⟨rfl, hb⟩; refine ⟨_, rfl, ?_⟩; have n0_ := Am (R_below HO_220001.out hb); have n1_ := Am (R_below HO_225001.out hb); have n2_ := Am (R_below HO_230001.out hb); have n3_ := Am (R_below HO_236001.out hb); have n4_ := Am (R_below HO_269001.out hb); have n5_ := Am (bb hb BK202.out); have n6_ := Am (bb hb BK203.out); have n7_ := Am (bb hb BK219.out); have n8_ := Am (bb hb BK224.out); have n9_ := Am (bb hb BK229.out); have n10_ := Am (bb hb BK235.out); have n11_ := Am (bb hb BK268.out); have n12_ := Am (below_step (by repeat (first|(with_reducible first|exact HB.out|apply bA|apply bN|apply b1|refine bS ?_ GE219.out|refine bS ?_ GE224.out|refine bS ?_ GE229.out|refine bS ?_ GE235.out|refine bS ?_ GE268.out)|exact HB.out)) hb); clear HO_220001; clear HO_225001; clear HO_230001; clear HO_236001; clear HO_269001; clear BK202; clear BK203; clear BK219; clear BK224; clear BK229; clear BK235; clear BK268; clear HB; have HO_220001 := n0_; have HO_225001 := n1_; have HO_230001 := n2_; have HO_236001 := n3_; have HO_269001 := n4_; have BK202 := n5_; have BK203 := n6_; have BK219 := n7_; have BK224 := n8_; have BK229 := n9_; have BK235 := n10_; have BK268 := n11_; have HB := n12_; clear n0_ n1_ n2_ n3_ n4_ n5_ n6_ n7_ n8_ n9_ n10_ n11_ n12_; (try clear hb)))
                  go_ret
                  exact ⟨by first | rfl|(simp [errW_none, errW_some] <;> rfl)|(simp [*, errW_none, errW_some] <;> rfl), by repeat (first|(with_reducible first|exact HB.out|apply bA|apply bN|apply b1|refine bS ?_ GE219.out|refine bS ?_ GE224.out|refine bS ?_ GE229.out|refine bS ?_ GE235.out|refine bS ?_ GE268.out)|exact HB.out)⟩
                 ·rw [if_neg c220] at H
                  exact absurd H (by simp)
            ·rw [if_neg c162] at H
             exact absurd H (by simp)
       ·replace c106 := Bool.eq_false_iff.mpr c106
        subst c106
        have H1 : (none) = some r := by rw [if_neg (show ¬ (false = true) by decide)] at H; exact H
        clear H
        have H := H1
        clear H1
        exact absurd H (by simp)
      ·replace c103 := Bool.eq_false_iff.mpr c103
       subst c103
       have H1 : (none) = some r := by rw [if_neg (show ¬ (false = true) by decide)] at H; exact H
       clear H
       have H := H1
       clear H1
       exact absurd H (by simp)

/-- THE ONE PURE STATEMENT of laws_FnExactAddCyclos: yours. -/
def laws_FnExactAddCyclos.Pure : Prop := ∀ (a0_0 : Int) (l0_1 : List Int) (a1_0 : Int) (l1_1 : List Int) (a2 : Int), (Lit.int .i64 a0_0).wf = true → l0_1.length ≤ maxLen → (∀ x ∈ l0_1, (Lit.int .i64 x).wf = true) → (Lit.int .i64 a1_0).wf = true → l1_1.length ≤ maxLen → (∀ x ∈ l1_1, (Lit.int .i64 x).wf = true) → (Lit.int .i64 a2).wf = true → ∃ k, laws_FnExactAddCyclos.f k a0_0 l0_1 a1_0 l1_1 a2 = some true
theorem laws_FnExactAddCyclos.walk (P : laws_FnExactAddCyclos.Pure) (a0_0 : Int) (A0_1 : Option Addr) (c0_1 : Nat) (l0_1 : List Int) (a1_0 : Int) (A1_1 : Option Addr) (c1_1 : Nat) (l1_1 : List Int) (a2 : Int) (w : World) (w0_0 : (Lit.int .i64 a0_0).wf = true) (m0_1 : l0_1.length ≤ maxLen) (v0_1 : ∀ x ∈ l0_1, (Lit.int .i64 x).wf = true) (hr0_1 : Kd.C (Kd.int .i64) w A0_1 l0_1.length l0_1) (hc0_1 : l0_1.length ≤ c0_1) (w1_0 : (Lit.int .i64 a1_0).wf = true) (m1_1 : l1_1.length ≤ maxLen) (v1_1 : ∀ x ∈ l1_1, (Lit.int .i64 x).wf = true) (hr1_1 : Kd.C (Kd.int .i64) w A1_1 l1_1.length l1_1) (hc1_1 : l1_1.length ≤ c1_1) (w2 : (Lit.int .i64 a2).wf = true) :
  Calls Try.prog 12 #[.agg #[.int .i64 a0_0, .slice A0_1 l0_1.length c0_1], .agg #[.int .i64 a1_0, .slice A1_1 l1_1.length c1_1], .int .i64 a2] w fun e w' => e = .returned (.bool true) ∧ Below w.heap.size w w' := by
 obtain ⟨k, h⟩ := P a0_0 l0_1 a1_0 l1_1 a2 w0_0 m0_1 v0_1 w1_0 m1_1 v1_1 w2
 refine (laws_FnExactAddCyclos.calls k a0_0 A0_1 c0_1 l0_1 a1_0 A1_1 c1_1 l1_1 a2 true w hr0_1 hc0_1 hr1_1 hc1_1 h).mono ?_
 rintro e w' ⟨rfl, hd⟩
 exact ⟨rfl, hd⟩

end Go.Proofs.Ytakjogepokmbfaa.XFnExactAddCyclos
