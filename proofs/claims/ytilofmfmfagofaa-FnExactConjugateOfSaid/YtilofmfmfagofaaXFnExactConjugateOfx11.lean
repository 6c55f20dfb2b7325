-- Written by px.py, a program of this session's, for this claim.
import Derived.Test.YtilofmfmfagofaaXFnExactConjugateOfx0
import Derived.Test.YtilofmfmfagofaaXFnExactConjugateOfx1
import Derived.Test.YtilofmfmfagofaaXFnExactConjugateOfx6
import Derived.Test.YtilofmfmfagofaaXFnExactConjugateOfx10
namespace Go.Proofs.Ytilofmfmfagofaa.XFnExactConjugateOf
open Go.RowKit Go.Proofs.YtilofmfmfagofaaW.PrintWords Go.Proofs.YtilofmfmfagofaaW.PrintLast Go.Proofs.YtilofmfmfagofaaW.PrintMore
attribute [local go_sem] max2_int min2_int max_two min_two max_three min_three max_four min_four   -- for this text's walks alone
set_option linter.unusedVariables false
set_option linter.unusedSimpArgs false

/-! ### laws_FnExactConjugateOf: function 9 -/
mutual
def laws_FnExactConjugateOf.j0 : Nat → Int → Int → Bool → Int → List Int → Int → List Int → Int → List Int → Int → List Int → Option (Bool)
 | 0, _, _, _, _, _, _, _, _, _, _, _ => none
 | k + 1, x5, x8, x40, x312000, x312001, x323000, x323001, x328000, x328001, x334000, x334001 => if x40 = true then (some false) else ((laws_toCyclo.f k x312000 x312001).bind fun bt335 => ((laws_eqCyclo.f k x328000 x328001 bt335.1 bt335.2).bind fun t339 => (if t339 = true then ((laws_markCyclo.f k x328000 x328001 1).bind fun bt340 => (if bt340.1 < 0 then (laws_FnExactConjugateOf.j1 k x5 true x312000 x312001 x323000 x323001 x334000 x334001) else ((laws_eqCyclo.f k x334000 x334001 x323000 x323001).bind fun t342 => (if t342 = true then (laws_FnExactConjugateOf.j1 k x5 (x8 != x5) x312000 x312001 x323000 x323001 x334000 x334001) else (laws_FnExactConjugateOf.j1 k x5 true x312000 x312001 x323000 x323001 x334000 x334001))))) else (some false))))
def laws_FnExactConjugateOf.j1 : Nat → Int → Bool → Int → List Int → Int → List Int → Int → List Int → Option (Bool)
 | 0, _, _, _, _, _, _, _, _ => none
 | k + 1, x5, x61, x312000, x312001, x323000, x323001, x334000, x334001 => if x61 = true then (some false) else ((laws_markCyclo.f k x334000 x334001 1).bind fun bt343 => ((laws_heldCyclo.f k x334000 bt343.2 1).bind fun t345 => (if t345 < 0 then (some false) else (if t345 = bt343.1 then ((laws_toCyclo.f k x312000 x312001).bind fun bt346 => ((impl_ConjugateOf.f k bt346.1 bt346.2).bind fun bt350 => ((laws_eqCyclo.f k bt350.1 bt350.2.1 x323000 x323001).bind fun t356 => (if t356 = true then (laws_FnExactConjugateOf.j2 k bt343.1 (bt350.2.2 != x5) x334000 bt343.2) else (laws_FnExactConjugateOf.j2 k bt343.1 true x334000 bt343.2))))) else (some false)))))
def laws_FnExactConjugateOf.j2 : Nat → Int → Bool → Int → List Int → Option (Bool)
 | 0, _, _, _, _ => none
 | k + 1, x10, x87, x334000, x334001 => if x87 = true then (some false) else ((laws_heldCyclo.f k x334000 x334001 1).bind fun t357 => (if t357 < 0 then (some false) else (if t357 = x10 then (some true) else (some false))))
end
def laws_FnExactConjugateOf.f (k : Nat) (a0_0 : Int) (l0_1 : List Int) : Option (Bool) := (laws_szCyclo.f a0_0 l0_1 1048576).bind fun t312 => (if t312 < 0 then (some true) else ((laws_toCyclo.f k a0_0 l0_1).bind fun bt313 => ((spec_ConjugateOf.f k bt313.1 bt313.2).bind fun bt317 => ((laws_toCyclo.f k a0_0 l0_1).bind fun bt323 => ((impl_ConjugateOf.f k bt323.1 bt323.2).bind fun bt328 => ((laws_eqCyclo.f k bt328.1 bt328.2.1 bt317.1 bt317.2.1).bind fun t334 => (if t334 = true then (laws_FnExactConjugateOf.j0 k bt317.2.2 bt328.2.2 (bt328.2.2 != bt317.2.2) a0_0 l0_1 bt317.1 bt317.2.1 bt323.1 bt323.2 bt328.1 bt328.2.1) else (laws_FnExactConjugateOf.j0 k bt317.2.2 bt328.2.2 true a0_0 l0_1 bt317.1 bt317.2.1 bt323.1 bt323.2 bt328.1 bt328.2.1))))))))
theorem laws_FnExactConjugateOf.mono_l : ∀ k, (∀ y0 y1 y2 y3 y4 y5 y6 y7 y8 y9 y10, LeO (laws_FnExactConjugateOf.j0 k y0 y1 y2 y3 y4 y5 y6 y7 y8 y9 y10) (laws_FnExactConjugateOf.j0 (k + 1) y0 y1 y2 y3 y4 y5 y6 y7 y8 y9 y10)) ∧ (∀ y0 y1 y2 y3 y4 y5 y6 y7, LeO (laws_FnExactConjugateOf.j1 k y0 y1 y2 y3 y4 y5 y6 y7) (laws_FnExactConjugateOf.j1 (k + 1) y0 y1 y2 y3 y4 y5 y6 y7)) ∧ (∀ y0 y1 y2 y3, LeO (laws_FnExactConjugateOf.j2 k y0 y1 y2 y3) (laws_FnExactConjugateOf.j2 (k + 1) y0 y1 y2 y3))
 | 0 => ⟨fun _ _ _ _ _ _ _ _ _ _ _ r h => by simp [laws_FnExactConjugateOf.j0] at h, fun _ _ _ _ _ _ _ _ r h => by simp [laws_FnExactConjugateOf.j1] at h, fun _ _ _ _ r h => by simp [laws_FnExactConjugateOf.j2] at h⟩
 | k + 1 => by
  obtain ⟨ih0, ih1, ih2⟩ := laws_FnExactConjugateOf.mono_l k
  refine ⟨?_, ?_, ?_⟩
  ·intro y0 y1 y2 y3 y4 y5 y6 y7 y8 y9 y10
   unfold laws_FnExactConjugateOf.j0
   repeat' first
   | (with_reducible exact ih0 _ _ _ _ _ _ _ _ _ _ _)
   | (with_reducible exact ih1 _ _ _ _ _ _ _ _)
   | (with_reducible exact ih2 _ _ _ _)
   | (with_reducible exact impl_ConjugateOf.mono _ _ _)
   | (with_reducible exact laws_eqCyclo.mono _ _ _ _ _)
   | (with_reducible exact laws_heldCyclo.mono _ _ _ _)
   | (with_reducible exact laws_markCyclo.mono _ _ _ _)
   | (with_reducible exact laws_toCyclo.mono _ _ _)
   | (with_reducible exact spec_ConjugateOf.mono _ _ _)
   | (with_reducible exact LeO.refl _)
   | (with_reducible exact LeO.none _)
   | (with_reducible refine LeO.ite ?_ ?_)
   | (with_reducible refine LeO.bind ?_ (fun _ => ?_))
   | exact ih0 _ _ _ _ _ _ _ _ _ _ _
   | exact ih1 _ _ _ _ _ _ _ _
   | exact ih2 _ _ _ _
   | exact impl_ConjugateOf.mono _ _ _
   | exact laws_eqCyclo.mono _ _ _ _ _
   | exact laws_heldCyclo.mono _ _ _ _
   | exact laws_markCyclo.mono _ _ _ _
   | exact laws_toCyclo.mono _ _ _
   | exact spec_ConjugateOf.mono _ _ _
   | exact LeO.none _
   | refine LeO.ite ?_ ?_
   | refine LeO.bind ?_ (fun _ => ?_)
  ·intro y0 y1 y2 y3 y4 y5 y6 y7
   unfold laws_FnExactConjugateOf.j1
   repeat' first
   | (with_reducible exact ih0 _ _ _ _ _ _ _ _ _ _ _)
   | (with_reducible exact ih1 _ _ _ _ _ _ _ _)
   | (with_reducible exact ih2 _ _ _ _)
   | (with_reducible exact impl_ConjugateOf.mono _ _ _)
   | (with_reducible exact laws_eqCyclo.mono _ _ _ _ _)
   | (with_reducible exact laws_heldCyclo.mono _ _ _ _)
   | (with_reducible exact laws_markCyclo.mono _ _ _ _)
   | (with_reducible exact laws_toCyclo.mono _ _ _)
   | (with_reducible exact spec_ConjugateOf.mono _ _ _)
   | (with_reducible exact LeO.refl _)
   | (with_reducible exact LeO.none _)
   | (with_reducible refine LeO.ite ?_ ?_)
   | (with_reducible refine LeO.bind ?_ (fun _ => ?_))
   | exact ih0 _ _ _ _ _ _ _ _ _ _ _
   | exact ih1 _ _ _ _ _ _ _ _
   | exact ih2 _ _ _ _
   | exact impl_ConjugateOf.mono _ _ _
   | exact laws_eqCyclo.mono _ _ _ _ _
   | exact laws_heldCyclo.mono _ _ _ _
   | exact laws_markCyclo.mono _ _ _ _
   | exact laws_toCyclo.mono _ _ _
   | exact spec_ConjugateOf.mono _ _ _
   | exact LeO.none _
   | refine LeO.ite ?_ ?_
   | refine LeO.bind ?_ (fun _ => ?_)
  ·intro y0 y1 y2 y3
   unfold laws_FnExactConjugateOf.j2
   repeat' first
   | (with_reducible exact ih0 _ _ _ _ _ _ _ _ _ _ _)
   | (with_reducible exact ih1 _ _ _ _ _ _ _ _)
   | (with_reducible exact ih2 _ _ _ _)
   | (with_reducible exact impl_ConjugateOf.mono _ _ _)
   | (with_reducible exact laws_eqCyclo.mono _ _ _ _ _)
   | (with_reducible exact laws_heldCyclo.mono _ _ _ _)
   | (with_reducible exact laws_markCyclo.mono _ _ _ _)
   | (with_reducible exact laws_toCyclo.mono _ _ _)
   | (with_reducible exact spec_ConjugateOf.mono _ _ _)
   | (with_reducible exact LeO.refl _)
   | (with_reducible exact LeO.none _)
   | (with_reducible refine LeO.ite ?_ ?_)
   | (with_reducible refine LeO.bind ?_ (fun _ => ?_))
   | exact ih0 _ _ _ _ _ _ _ _ _ _ _
   | exact ih1 _ _ _ _ _ _ _ _
   | exact ih2 _ _ _ _
   | exact impl_ConjugateOf.mono _ _ _
   | exact laws_eqCyclo.mono _ _ _ _ _
   | exact laws_heldCyclo.mono _ _ _ _
   | exact laws_markCyclo.mono _ _ _ _
   | exact laws_toCyclo.mono _ _ _
   | exact spec_ConjugateOf.mono _ _ _
   | exact LeO.none _
   | refine LeO.ite ?_ ?_
   | refine LeO.bind ?_ (fun _ => ?_)
theorem laws_FnExactConjugateOf.mono : ∀ a0 a1 k, LeO (laws_FnExactConjugateOf.f k a0 a1) (laws_FnExactConjugateOf.f (k + 1) a0 a1) := by
 intro a0 a1 k
 obtain ⟨ih0, ih1, ih2⟩ := laws_FnExactConjugateOf.mono_l k
 unfold laws_FnExactConjugateOf.f
 repeat' first
   | (with_reducible exact ih0 _ _ _ _ _ _ _ _ _ _ _)
   | (with_reducible exact ih1 _ _ _ _ _ _ _ _)
   | (with_reducible exact ih2 _ _ _ _)
   | (with_reducible exact impl_ConjugateOf.mono _ _ _)
   | (with_reducible exact laws_eqCyclo.mono _ _ _ _ _)
   | (with_reducible exact laws_heldCyclo.mono _ _ _ _)
   | (with_reducible exact laws_markCyclo.mono _ _ _ _)
   | (with_reducible exact laws_toCyclo.mono _ _ _)
   | (with_reducible exact spec_ConjugateOf.mono _ _ _)
   | (with_reducible exact LeO.refl _)
   | (with_reducible exact LeO.none _)
   | (with_reducible refine LeO.ite ?_ ?_)
   | (with_reducible refine LeO.bind ?_ (fun _ => ?_))
   | exact ih0 _ _ _ _ _ _ _ _ _ _ _
   | exact ih1 _ _ _ _ _ _ _ _
   | exact ih2 _ _ _ _
   | exact impl_ConjugateOf.mono _ _ _
   | exact laws_eqCyclo.mono _ _ _ _ _
   | exact laws_heldCyclo.mono _ _ _ _
   | exact laws_markCyclo.mono _ _ _ _
   | exact laws_toCyclo.mono _ _ _
   | exact spec_ConjugateOf.mono _ _ _
   | exact LeO.none _
   | refine LeO.ite ?_ ?_
   | refine LeO.bind ?_ (fun _ => ?_)
set_option maxHeartbeats 8000000 in
set_option maxRecDepth 100000 in
theorem laws_FnExactConjugateOf.calls (k : Nat) (a0_0 : Int) (A0_1 : Option Addr) (c0_1 : Nat) (l0_1 : List Int) (r : Bool) (w : World) (hr0_1 : Kd.C (Kd.int .i64) w A0_1 l0_1.length l0_1) (hc0_1 : l0_1.length ≤ c0_1) (h : laws_FnExactConjugateOf.f k a0_0 l0_1 = some r) :
  Calls Try.prog 9 #[.agg #[.int .i64 a0_0, .slice A0_1 l0_1.length c0_1]] w fun e w' => e = .returned (.bool r) ∧ Below w.heap.size w w' := by
 have hu24 := Try.underlying24
 have hu28 := Try.underlying28
 have HR0_1 := Aside0.mk hr0_1
 have HC0_1 := Aside0.mk hc0_1
 clear hr0_1 hc0_1
 have HB := Aside0.mk (Below.refl w.heap.size w)
 have H : ((laws_szCyclo.f a0_0 l0_1 1048576).bind fun t312 => (if t312 < 0 then (some true) else ((laws_toCyclo.f k a0_0 l0_1).bind fun bt313 => ((spec_ConjugateOf.f k bt313.1 bt313.2).bind fun bt317 => ((laws_toCyclo.f k a0_0 l0_1).bind fun bt323 => ((impl_ConjugateOf.f k bt323.1 bt323.2).bind fun bt328 => ((laws_eqCyclo.f k bt328.1 bt328.2.1 bt317.1 bt317.2.1).bind fun t334 => (if t334 = true then (laws_FnExactConjugateOf.j0 k bt317.2.2 bt328.2.2 (bt328.2.2 != bt317.2.2) a0_0 l0_1 bt317.1 bt317.2.1 bt323.1 bt323.2 bt328.1 bt328.2.1) else (laws_FnExactConjugateOf.j0 k bt317.2.2 bt328.2.2 true a0_0 l0_1 bt317.1 bt317.2.1 bt323.1 bt323.2 bt328.1 bt328.2.1))))))))) = some r := h
 clear h
 replace H := Option.bind_eq_some_iff.mp H
 obtain ⟨t312, A20, H⟩ := H
 replace H : (if t312 < 0 then (some true) else ((laws_toCyclo.f k a0_0 l0_1).bind fun bt313 => ((spec_ConjugateOf.f k bt313.1 bt313.2).bind fun bt317 => ((laws_toCyclo.f k a0_0 l0_1).bind fun bt323 => ((impl_ConjugateOf.f k bt323.1 bt323.2).bind fun bt328 => ((laws_eqCyclo.f k bt328.1 bt328.2.1 bt317.1 bt317.2.1).bind fun t334 => (if t334 = true then (laws_FnExactConjugateOf.j0 k bt317.2.2 bt328.2.2 (bt328.2.2 != bt317.2.2) a0_0 l0_1 bt317.1 bt317.2.1 bt323.1 bt323.2 bt328.1 bt328.2.1) else (laws_FnExactConjugateOf.j0 k bt317.2.2 bt328.2.2 true a0_0 l0_1 bt317.1 bt317.2.1 bt323.1 bt323.2 bt328.1 bt328.2.1)))))))) = some r := H
 have A2 := Aside0.mk A20
 clear A20
 by_cases c3 : t312 < 0
 ·rw [if_pos c3] at H
  have c3b0 : decide (t312 < 0) = true := decide_eq_true c3
  clear c3
  obtain rfl := Option.some.inj H
  go_enter Try.func9, Try.ntmps9
  go_wp2_with (first | ((with_reducible refine gate_dst (N := 1) rfl ?_); refine box_event ?hg (N := 1) ?hd (cs := #[.int .i64 a0_0, .slice A0_1 l0_1.length c0_1]) (t := 24) ?hr ?_; (case hd => rfl); (case hg => rfl); (case hr => first | (go_simp; done) | (go_simp; rfl)); intro gb311 hg w4 hbox hb; have n0_ := Aside0.mk (below_step (by repeat (first | (with_reducible first | exact HB.out | apply below_alloc | apply pw_below_drewN | apply below_drew1) | exact HB.out)) hb); have n1_ := Aside0.mk (hbox); have n2_ := Aside0.mk ((by rw [hg]; exact (below_size (by repeat (first | (with_reducible first | exact HB.out | apply below_alloc | apply pw_below_drewN | apply below_drew1) | exact HB.out))) : w.heap.size ≤ gb311)); have n3_ := Aside0.mk ((by rw [hg]; exact (below_size (by repeat (first | (with_reducible first | exact HB.out | apply below_alloc | apply pw_below_drewN | apply below_drew1) | exact HB.out))) : w.heap.size ≤ gb311)); clear HB; have HB := n0_; have BK311 := n1_; have GW311 := n2_; have GE311 := n3_; clear n0_ n1_ n2_ n3_; clear hb hbox hg; have hcz5_0 : w4.cell? ⟨gb311, 0, none⟩ = some (.int .i64 a0_0) := (blk_cell BK311.out 0).trans rfl; have hcz5_1 : w4.cell? ⟨gb311, 1, none⟩ = some (.slice A0_1 l0_1.length c0_1) := (blk_cell BK311.out 1).trans rfl; have hfz5_0 := blk_frozen BK311.out 0; have hfz5_1 := blk_frozen BK311.out 1) | ((with_reducible refine gate_callee (f := 13) rfl ?_); refine goesL_ (some 16) rfl rfl Try.func13 (by kernel_rfl) rfl #[.agg #[.int .i64 a0_0, .slice A0_1 l0_1.length c0_1], .int .i64 1048576] rfl (by (try simp only [List.map_toArray, List.map_cons, List.map_nil]); first | done | rfl | (simp only [List.length_drop, List.length_take]; rfl)) ?_; (with_reducible refine (laws_szCyclo.calls a0_0 _ _ l0_1 1048576 t312 _ ?side1 ?side2 A2.out).mono ?_); (case side1 => repeat (first | exact (Kd.C_below HR0_1.out HB.out) | (with_reducible refine Kd.C_alloc ?_ _) | (with_reducible refine Kd.C_drewN ?_ _) | (with_reducible refine Kd.C_drew ?_))); (case side2 => exact HC0_1.out); rintro e w6 ⟨rfl, hb⟩; refine ⟨_, rfl, ?_⟩; have n0_ := Aside0.mk (blk_below (g := gb311) (o := .cells #[.int .i64 a0_0, .slice A0_1 l0_1.length c0_1] 24 (0, 0)) (by (with_reducible repeat (first | refine blk_drewN ?_ _ | refine blk_drew ?_ | refine blk_alloc ?_ _)); exact BK311.out) hb); have n1_ := Aside0.mk (below_step (by repeat (first | (with_reducible first | exact HB.out | apply below_alloc | apply pw_below_drewN | apply below_drew1 | refine below_set ?_ GE311.out) | exact HB.out)) hb); clear BK311; clear HB; have BK311 := n0_; have HB := n1_; clear n0_ n1_; (try clear hb)))
  go_ret
  exact ⟨by first | rfl | (simp [errW_none, errW_some] <;> rfl) | (simp [*, errW_none, errW_some] <;> rfl), by repeat (first | (with_reducible first | exact HB.out | apply below_alloc | apply pw_below_drewN | apply below_drew1 | refine below_set ?_ GE311.out) | exact HB.out)⟩
 ·rw [if_neg c3] at H
  have c3b0 : decide (t312 < 0) = false := decide_eq_false c3
  clear c3
  replace H := Option.bind_eq_some_iff.mp H
  obtain ⟨⟨t313, t314⟩, A70, H⟩ := H
  replace H : ((spec_ConjugateOf.f k t313 t314).bind fun bt317 => ((laws_toCyclo.f k a0_0 l0_1).bind fun bt323 => ((impl_ConjugateOf.f k bt323.1 bt323.2).bind fun bt328 => ((laws_eqCyclo.f k bt328.1 bt328.2.1 bt317.1 bt317.2.1).bind fun t334 => (if t334 = true then (laws_FnExactConjugateOf.j0 k bt317.2.2 bt328.2.2 (bt328.2.2 != bt317.2.2) a0_0 l0_1 bt317.1 bt317.2.1 bt323.1 bt323.2 bt328.1 bt328.2.1) else (laws_FnExactConjugateOf.j0 k bt317.2.2 bt328.2.2 true a0_0 l0_1 bt317.1 bt317.2.1 bt323.1 bt323.2 bt328.1 bt328.2.1)))))) = some r := H
  have A7 := Aside0.mk A70
  clear A70
  replace H := Option.bind_eq_some_iff.mp H
  obtain ⟨⟨t317, t318, t321⟩, A80, H⟩ := H
  replace H : ((laws_toCyclo.f k a0_0 l0_1).bind fun bt323 => ((impl_ConjugateOf.f k bt323.1 bt323.2).bind fun bt328 => ((laws_eqCyclo.f k bt328.1 bt328.2.1 t317 t318).bind fun t334 => (if t334 = true then (laws_FnExactConjugateOf.j0 k t321 bt328.2.2 (bt328.2.2 != t321) a0_0 l0_1 t317 t318 bt323.1 bt323.2 bt328.1 bt328.2.1) else (laws_FnExactConjugateOf.j0 k t321 bt328.2.2 true a0_0 l0_1 t317 t318 bt323.1 bt323.2 bt328.1 bt328.2.1))))) = some r := H
  have A8 := Aside0.mk A80
  clear A80
  replace H := Option.bind_eq_some_iff.mp H
  obtain ⟨⟨t323, t324⟩, A90, H⟩ := H
  replace H : ((impl_ConjugateOf.f k t323 t324).bind fun bt328 => ((laws_eqCyclo.f k bt328.1 bt328.2.1 t317 t318).bind fun t334 => (if t334 = true then (laws_FnExactConjugateOf.j0 k t321 bt328.2.2 (bt328.2.2 != t321) a0_0 l0_1 t317 t318 t323 t324 bt328.1 bt328.2.1) else (laws_FnExactConjugateOf.j0 k t321 bt328.2.2 true a0_0 l0_1 t317 t318 t323 t324 bt328.1 bt328.2.1)))) = some r := H
  have A9 := Aside0.mk A90
  clear A90
  replace H := Option.bind_eq_some_iff.mp H
  obtain ⟨⟨t328, t329, t332⟩, A100, H⟩ := H
  replace H : ((laws_eqCyclo.f k t328 t329 t317 t318).bind fun t334 => (if t334 = true then (laws_FnExactConjugateOf.j0 k t321 t332 (t332 != t321) a0_0 l0_1 t317 t318 t323 t324 t328 t329) else (laws_FnExactConjugateOf.j0 k t321 t332 true a0_0 l0_1 t317 t318 t323 t324 t328 t329))) = some r := H
  have A10 := Aside0.mk A100
  clear A100
  have HC11 := Aside0.mk H
  clear H
  go_enter Try.func9, Try.ntmps9
  go_upto_region 8 with (first | ((with_reducible refine gate_dst (N := 1) rfl ?_); refine box_event ?hg (N := 1) ?hd (cs := #[.int .i64 a0_0, .slice A0_1 l0_1.length c0_1]) (t := 24) ?hr ?_; (case hd => rfl); (case hg => rfl); (case hr => first | (go_simp; done) | (go_simp; rfl)); intro gb311 hg w12 hbox hb; have n0_ := Aside0.mk (below_step (by repeat (first | (with_reducible first | exact HB.out | apply below_alloc | apply pw_below_drewN | apply below_drew1) | exact HB.out)) hb); have n1_ := Aside0.mk (hbox); have n2_ := Aside0.mk ((by rw [hg]; exact (below_size (by repeat (first | (with_reducible first | exact HB.out | apply below_alloc | apply pw_below_drewN | apply below_drew1) | exact HB.out))) : w.heap.size ≤ gb311)); have n3_ := Aside0.mk ((by rw [hg]; exact (below_size (by repeat (first | (with_reducible first | exact HB.out | apply below_alloc | apply pw_below_drewN | apply below_drew1) | exact HB.out))) : w.heap.size ≤ gb311)); clear HB; have HB := n0_; have BK311 := n1_; have GW311 := n2_; have GE311 := n3_; clear n0_ n1_ n2_ n3_; clear hb hbox hg; have hcz13_0 : w12.cell? ⟨gb311, 0, none⟩ = some (.int .i64 a0_0) := (blk_cell BK311.out 0).trans rfl; have hcz13_1 : w12.cell? ⟨gb311, 1, none⟩ = some (.slice A0_1 l0_1.length c0_1) := (blk_cell BK311.out 1).trans rfl; have hfz13_0 := blk_frozen BK311.out 0; have hfz13_1 := blk_frozen BK311.out 1) | ((with_reducible refine gate_callee (f := 13) rfl ?_); refine goesL_ (some 16) rfl rfl Try.func13 (by kernel_rfl) rfl #[.agg #[.int .i64 a0_0, .slice A0_1 l0_1.length c0_1], .int .i64 1048576] rfl (by (try simp only [List.map_toArray, List.map_cons, List.map_nil]); first | done | rfl | (simp only [List.length_drop, List.length_take]; rfl)) ?_; (with_reducible refine (laws_szCyclo.calls a0_0 _ _ l0_1 1048576 t312 _ ?side1 ?side2 A2.out).mono ?_); (case side1 => repeat (first | exact (Kd.C_below HR0_1.out HB.out) | (with_reducible refine Kd.C_alloc ?_ _) | (with_reducible refine Kd.C_drewN ?_ _) | (with_reducible refine Kd.C_drew ?_))); (case side2 => exact HC0_1.out); rintro e w14 ⟨rfl, hb⟩; refine ⟨_, rfl, ?_⟩; have n0_ := Aside0.mk (blk_below (g := gb311) (o := .cells #[.int .i64 a0_0, .slice A0_1 l0_1.length c0_1] 24 (0, 0)) (by (with_reducible repeat (first | refine blk_drewN ?_ _ | refine blk_drew ?_ | refine blk_alloc ?_ _)); exact BK311.out) hb); have n1_ := Aside0.mk (below_step (by repeat (first | (with_reducible first | exact HB.out | apply below_alloc | apply pw_below_drewN | apply below_drew1 | refine below_set ?_ GE311.out) | exact HB.out)) hb); clear BK311; clear HB; have BK311 := n0_; have HB := n1_; clear n0_ n1_; (try clear hb); (try clear hk); have hcz15_0 : w14.cell? ⟨gb311, 0, none⟩ = some (.int .i64 a0_0) := (blk_cell BK311.out 0).trans rfl; have hcz15_1 : w14.cell? ⟨gb311, 1, none⟩ = some (.slice A0_1 l0_1.length c0_1) := (blk_cell BK311.out 1).trans rfl; have hfz15_0 := blk_frozen BK311.out 0; have hfz15_1 := blk_frozen BK311.out 1) | ((with_reducible refine gate_callee (f := 15) rfl ?_); refine goesL_ (some 21) rfl rfl Try.func15 (by kernel_rfl) rfl #[.agg #[.int .i64 a0_0, .slice A0_1 l0_1.length c0_1]] rfl (by (try simp only [List.map_toArray, List.map_cons, List.map_nil]); first | done | rfl | (simp only [List.length_drop, List.length_take]; rfl)) ?_; (with_reducible refine (laws_toCyclo.calls k a0_0 _ _ l0_1 t313 t314 _ ?side1 ?side2 A7.out).mono ?_); (case side1 => repeat (first | exact (Kd.C_below HR0_1.out HB.out) | (with_reducible refine Kd.C_alloc ?_ _) | (with_reducible refine Kd.C_drewN ?_ _) | (with_reducible refine Kd.C_drew ?_))); (case side2 => exact HC0_1.out); rintro e w16 ⟨v315, rfl, ho0, hb⟩; refine ⟨_, rfl, ?_⟩; have n0_ := Aside0.mk (Kd.R_lower ho0 (below_size (by repeat (first | (with_reducible first | exact HB.out | apply below_alloc | apply pw_below_drewN | apply below_drew1 | refine below_set ?_ GE311.out) | exact HB.out)))); have n1_ := Aside0.mk (blk_below (g := gb311) (o := .cells #[.int .i64 a0_0, .slice A0_1 l0_1.length c0_1] 24 (0, 0)) (by (with_reducible repeat (first | refine blk_drewN ?_ _ | refine blk_drew ?_ | refine blk_alloc ?_ _)); exact BK311.out) hb); have n2_ := Aside0.mk (below_step (by repeat (first | (with_reducible first | exact HB.out | apply below_alloc | apply pw_below_drewN | apply below_drew1 | refine below_set ?_ GE311.out) | exact HB.out)) hb); clear BK311; clear HB; have HO316 := n0_; have BK311 := n1_; have HB := n2_; clear n0_ n1_ n2_; (try clear hb); (try clear hk); (try clear ho0); obtain ⟨Ao17, co17, eo17⟩ := Kd.R_slice HO316.out; subst eo17) | ((with_reducible refine gate_callee (f := 33) rfl ?_); refine goesL_ (some 22) rfl rfl Try.func33 (by kernel_rfl) rfl #[.agg #[.int .i64 t313, .slice Ao17 t314.length co17]] rfl (by (try simp only [List.map_toArray, List.map_cons, List.map_nil]); first | done | rfl | (simp only [List.length_drop, List.length_take]; rfl)) ?_; (with_reducible refine (spec_ConjugateOf.calls k t313 _ _ t314 t317 t318 t321 _ ?side1 ?side2 A8.out).mono ?_); (case side1 => repeat (first | exact (Kd.R_reads' HO316.out).2.2 | (with_reducible refine Kd.C_alloc ?_ _) | (with_reducible refine Kd.C_drewN ?_ _) | (with_reducible refine Kd.C_drew ?_))); (case side2 => exact (Kd.R_reads' HO316.out).2.1); rintro e w18 ⟨v319, rfl, ho0, hb⟩; refine ⟨_, rfl, ?_⟩; have n0_ := Aside0.mk (Kd.R_elder' (by (with_reducible repeat (first | apply Kd.R_alloc | apply Kd.R_drewN | apply Kd.R_drew)); exact HO316.out) (Kd.R_base ho0) hb); have n1_ := Aside0.mk (Kd.R_lower (Kd.R_new' ho0 (Kd.R_lt (by (with_reducible repeat (first | apply Kd.R_alloc | apply Kd.R_drewN | apply Kd.R_drew)); exact HO316.out))) (below_size (by repeat (first | (with_reducible first | exact HB.out | apply below_alloc | apply pw_below_drewN | apply below_drew1 | refine below_set ?_ GE311.out) | exact HB.out)))); have n2_ := Aside0.mk (blk_below (g := gb311) (o := .cells #[.int .i64 a0_0, .slice A0_1 l0_1.length c0_1] 24 (0, 0)) (by (with_reducible repeat (first | refine blk_drewN ?_ _ | refine blk_drew ?_ | refine blk_alloc ?_ _)); exact BK311.out) hb); have n3_ := Aside0.mk (below_step (by repeat (first | (with_reducible first | exact HB.out | apply below_alloc | apply pw_below_drewN | apply below_drew1 | refine below_set ?_ GE311.out) | exact HB.out)) hb); clear HO316; clear BK311; clear HB; have HO316 := n0_; have HO320 := n1_; have BK311 := n2_; have HB := n3_; clear n0_ n1_ n2_ n3_; (try clear hb); (try clear hk); (try clear ho0)) | ((with_reducible refine gate_dst (N := 4) rfl ?_); refine box_event ?hg (N := 4) ?hd (cs := #[.int .i64 0, .slice none 0 0]) (t := 28) ?hr ?_; (case hd => rfl); (case hg => rfl); (case hr => first | (go_simp; done) | (go_simp; rfl)); intro gb322 hg w19 hbox hb; have n0_ := Aside0.mk (Kd.R_below (by (with_reducible repeat (first | apply Kd.R_alloc | apply Kd.R_drewN | apply Kd.R_drew)); exact HO316.out) hb); have n1_ := Aside0.mk (Kd.R_below (by (with_reducible repeat (first | apply Kd.R_alloc | apply Kd.R_drewN | apply Kd.R_drew)); exact HO320.out) hb); have n2_ := Aside0.mk (blk_below (g := gb311) (o := .cells #[.int .i64 a0_0, .slice A0_1 l0_1.length c0_1] 24 (0, 0)) (by (with_reducible repeat (first | refine blk_drewN ?_ _ | refine blk_drew ?_ | refine blk_alloc ?_ _)); exact BK311.out) hb); have n3_ := Aside0.mk (below_step (by repeat (first | (with_reducible first | exact HB.out | apply below_alloc | apply pw_below_drewN | apply below_drew1 | refine below_set ?_ GE311.out) | exact HB.out)) hb); have n4_ := Aside0.mk (hbox); have n5_ := Aside0.mk ((by rw [hg]; exact (below_size (by repeat (first | (with_reducible first | exact HB.out | apply below_alloc | apply pw_below_drewN | apply below_drew1 | refine below_set ?_ GE311.out) | exact HB.out))) : w.heap.size ≤ gb322)); have n6_ := Aside0.mk ((by rw [hg]; exact (below_size (by repeat (first | (with_reducible first | exact HB.out | apply below_alloc | apply pw_below_drewN | apply below_drew1 | refine below_set ?_ GE311.out) | exact HB.out))) : w.heap.size ≤ gb322)); have n7_ := Aside0.mk ((by rw [hg]; exact Nat.ne_of_lt (blk_lt (g := gb311) (o := .cells #[.int .i64 a0_0, .slice A0_1 l0_1.length c0_1] 24 (0, 0)) (by (with_reducible repeat (first | refine blk_drewN ?_ _ | refine blk_drew ?_ | refine blk_alloc ?_ _)); exact BK311.out)) : gb311 ≠ gb322)); have n8_ := Aside0.mk ((by rw [hg]; exact Nat.ne_of_gt (blk_lt (g := gb311) (o := .cells #[.int .i64 a0_0, .slice A0_1 l0_1.length c0_1] 24 (0, 0)) (by (with_reducible repeat (first | refine blk_drewN ?_ _ | refine blk_drew ?_ | refine blk_alloc ?_ _)); exact BK311.out)) : gb322 ≠ gb311)); clear HO316; clear HO320; clear BK311; clear HB; have HO316 := n0_; have HO320 := n1_; have BK311 := n2_; have HB := n3_; have BK322 := n4_; have GW322 := n5_; have GE322 := n6_; have NB311_322 := n7_; have NB322_311 := n8_; clear n0_ n1_ n2_ n3_ n4_ n5_ n6_ n7_ n8_; clear hb hbox hg; have hnb20 := NB322_311.out; have hnc20 := NB311_322.out; have hcz21_0 : w19.cell? ⟨gb322, 0, none⟩ = some (.int .i64 0) := (blk_cell BK322.out 0).trans rfl; have hcz21_1 : w19.cell? ⟨gb322, 1, none⟩ = some (.slice none 0 0) := (blk_cell BK322.out 1).trans rfl; have hfz21_0 := blk_frozen BK322.out 0; have hfz21_1 := blk_frozen BK322.out 1; obtain ⟨Ao22, co22, eo22⟩ := Kd.R_slice HO320.out; subst eo22; have hcz23_0 : w19.cell? ⟨gb311, 0, none⟩ = some (.int .i64 a0_0) := (blk_cell BK311.out 0).trans rfl; have hcz23_1 : w19.cell? ⟨gb311, 1, none⟩ = some (.slice A0_1 l0_1.length c0_1) := (blk_cell BK311.out 1).trans rfl; have hfz23_0 := blk_frozen BK311.out 0; have hfz23_1 := blk_frozen BK311.out 1) | ((with_reducible refine gate_callee (f := 15) rfl ?_); refine goesL_ (some 26) rfl rfl Try.func15 (by kernel_rfl) rfl #[.agg #[.int .i64 a0_0, .slice A0_1 l0_1.length c0_1]] rfl (by (try simp only [List.map_toArray, List.map_cons, List.map_nil]); first | done | rfl | (simp only [List.length_drop, List.length_take]; rfl)) ?_; (with_reducible refine (laws_toCyclo.calls k a0_0 _ _ l0_1 t323 t324 _ ?side1 ?side2 A9.out).mono ?_); (case side1 => exact Kd.C_below HR0_1.out (by repeat (first | (with_reducible first | exact HB.out | apply below_alloc | apply pw_below_drewN | apply below_drew1 | refine below_set ?_ GE311.out | refine below_set ?_ GE322.out) | exact HB.out))); (case side2 => exact HC0_1.out); rintro e w24 ⟨v325, rfl, ho0, hb⟩; refine ⟨_, rfl, ?_⟩; have n0_ := Aside0.mk (Kd.R_elder' (by (with_reducible repeat (first | apply Kd.R_alloc | apply Kd.R_drewN | apply Kd.R_drew)); exact (Kd.R_mono (Kd.R_far (p := ⟨gb322, 1, none⟩) (Kd.R_far (p := ⟨gb322, 0, none⟩) (Kd.R_types HO316.out BK322.out (by decide)) (fun _ hk => hk.2) (.int .i64 t317)) (fun _ hk => hk.2) (.slice Ao22 t318.length co22)) (fun _ h_ => h_.1))) (Kd.R_base ho0) hb); have n1_ := Aside0.mk (Kd.R_elder' (by (with_reducible repeat (first | apply Kd.R_alloc | apply Kd.R_drewN | apply Kd.R_drew)); exact (Kd.R_mono (Kd.R_far (p := ⟨gb322, 1, none⟩) (Kd.R_far (p := ⟨gb322, 0, none⟩) (Kd.R_types HO320.out BK322.out (by decide)) (fun _ hk => hk.2) (.int .i64 t317)) (fun _ hk => hk.2) (.slice Ao22 t318.length co22)) (fun _ h_ => h_.1))) (Kd.R_base ho0) hb); have n2_ := Aside0.mk (Kd.R_lower (Kd.R_new' (Kd.R_new' ho0 (Kd.R_lt (by (with_reducible repeat (first | apply Kd.R_alloc | apply Kd.R_drewN | apply Kd.R_drew)); exact (Kd.R_mono (Kd.R_far (p := ⟨gb322, 1, none⟩) (Kd.R_far (p := ⟨gb322, 0, none⟩) (Kd.R_types HO316.out BK322.out (by decide)) (fun _ hk => hk.2) (.int .i64 t317)) (fun _ hk => hk.2) (.slice Ao22 t318.length co22)) (fun _ h_ => h_.1))))) (Kd.R_lt (by (with_reducible repeat (first | apply Kd.R_alloc | apply Kd.R_drewN | apply Kd.R_drew)); exact (Kd.R_mono (Kd.R_far (p := ⟨gb322, 1, none⟩) (Kd.R_far (p := ⟨gb322, 0, none⟩) (Kd.R_types HO320.out BK322.out (by decide)) (fun _ hk => hk.2) (.int .i64 t317)) (fun _ hk => hk.2) (.slice Ao22 t318.length co22)) (fun _ h_ => h_.1))))) (below_size (by repeat (first | (with_reducible first | exact HB.out | apply below_alloc | apply pw_below_drewN | apply below_drew1 | refine below_set ?_ GE311.out | refine below_set ?_ GE322.out) | exact HB.out)))); have n3_ := Aside0.mk (blk_below (g := gb311) (o := .cells #[.int .i64 a0_0, .slice A0_1 l0_1.length c0_1] 24 (0, 0)) (by (with_reducible repeat (first | refine blk_drewN ?_ _ | refine blk_drew ?_ | refine blk_alloc ?_ _)); refine blk_far ?_ NB311_322.out _; (with_reducible repeat (first | refine blk_drewN ?_ _ | refine blk_drew ?_ | refine blk_alloc ?_ _)); refine blk_far ?_ NB311_322.out _; (with_reducible repeat (first | refine blk_drewN ?_ _ | refine blk_drew ?_ | refine blk_alloc ?_ _)); exact BK311.out) hb); have n4_ := Aside0.mk (blk_below (g := gb322) (o := .cells #[.int .i64 t317, .slice Ao22 t318.length co22] 28 (0, 0)) (by (with_reducible repeat (first | refine blk_drewN ?_ _ | refine blk_drew ?_ | refine blk_alloc ?_ _)); refine blk_put (cs := #[.int .i64 t317, .slice none 0 0]) ?_ 1 _ rfl; (with_reducible repeat (first | refine blk_drewN ?_ _ | refine blk_drew ?_ | refine blk_alloc ?_ _)); refine blk_put (cs := #[.int .i64 0, .slice none 0 0]) ?_ 0 _ rfl; (with_reducible repeat (first | refine blk_drewN ?_ _ | refine blk_drew ?_ | refine blk_alloc ?_ _)); exact BK322.out) hb); have n5_ := Aside0.mk (below_step (by repeat (first | (with_reducible first | exact HB.out | apply below_alloc | apply pw_below_drewN | apply below_drew1 | refine below_set ?_ GE311.out | refine below_set ?_ GE322.out) | exact HB.out)) hb); clear HO316; clear HO320; clear BK311; clear BK322; clear HB; have HO316 := n0_; have HO320 := n1_; have HO326 := n2_; have BK311 := n3_; have BK322 := n4_; have HB := n5_; clear n0_ n1_ n2_ n3_ n4_ n5_; (try clear hb); (try clear hk); (try clear ho0)) | ((with_reducible refine gate_dst (N := 6) rfl ?_); refine box_event ?hg (N := 6) ?hd (cs := #[.int .i64 0, .slice none 0 0]) (t := 28) ?hr ?_; (case hd => rfl); (case hg => rfl); (case hr => first | (go_simp; done) | (go_simp; rfl)); intro gb327 hg w25 hbox hb; have n0_ := Aside0.mk (Kd.R_below (by (with_reducible repeat (first | apply Kd.R_alloc | apply Kd.R_drewN | apply Kd.R_drew)); exact HO316.out) hb); have n1_ := Aside0.mk (Kd.R_below (by (with_reducible repeat (first | apply Kd.R_alloc | apply Kd.R_drewN | apply Kd.R_drew)); exact HO320.out) hb); have n2_ := Aside0.mk (Kd.R_below (by (with_reducible repeat (first | apply Kd.R_alloc | apply Kd.R_drewN | apply Kd.R_drew)); exact HO326.out) hb); have n3_ := Aside0.mk (blk_below (g := gb311) (o := .cells #[.int .i64 a0_0, .slice A0_1 l0_1.length c0_1] 24 (0, 0)) (by (with_reducible repeat (first | refine blk_drewN ?_ _ | refine blk_drew ?_ | refine blk_alloc ?_ _)); exact BK311.out) hb); have n4_ := Aside0.mk (blk_below (g := gb322) (o := .cells #[.int .i64 t317, .slice Ao22 t318.length co22] 28 (0, 0)) (by (with_reducible repeat (first | refine blk_drewN ?_ _ | refine blk_drew ?_ | refine blk_alloc ?_ _)); exact BK322.out) hb); have n5_ := Aside0.mk (below_step (by repeat (first | (with_reducible first | exact HB.out | apply below_alloc | apply pw_below_drewN | apply below_drew1 | refine below_set ?_ GE311.out | refine below_set ?_ GE322.out) | exact HB.out)) hb); have n6_ := Aside0.mk (hbox); have n7_ := Aside0.mk ((by rw [hg]; exact (below_size (by repeat (first | (with_reducible first | exact HB.out | apply below_alloc | apply pw_below_drewN | apply below_drew1 | refine below_set ?_ GE311.out | refine below_set ?_ GE322.out) | exact HB.out))) : w.heap.size ≤ gb327)); have n8_ := Aside0.mk ((by rw [hg]; exact (below_size (by repeat (first | (with_reducible first | exact HB.out | apply below_alloc | apply pw_below_drewN | apply below_drew1 | refine below_set ?_ GE311.out | refine below_set ?_ GE322.out) | exact HB.out))) : w.heap.size ≤ gb327)); have n9_ := Aside0.mk ((by rw [hg]; exact Nat.ne_of_lt (blk_lt (g := gb311) (o := .cells #[.int .i64 a0_0, .slice A0_1 l0_1.length c0_1] 24 (0, 0)) (by (with_reducible repeat (first | refine blk_drewN ?_ _ | refine blk_drew ?_ | refine blk_alloc ?_ _)); exact BK311.out)) : gb311 ≠ gb327)); have n10_ := Aside0.mk ((by rw [hg]; exact Nat.ne_of_gt (blk_lt (g := gb311) (o := .cells #[.int .i64 a0_0, .slice A0_1 l0_1.length c0_1] 24 (0, 0)) (by (with_reducible repeat (first | refine blk_drewN ?_ _ | refine blk_drew ?_ | refine blk_alloc ?_ _)); exact BK311.out)) : gb327 ≠ gb311)); have n11_ := Aside0.mk ((by rw [hg]; exact Nat.ne_of_lt (blk_lt (g := gb322) (o := .cells #[.int .i64 t317, .slice Ao22 t318.length co22] 28 (0, 0)) (by (with_reducible repeat (first | refine blk_drewN ?_ _ | refine blk_drew ?_ | refine blk_alloc ?_ _)); exact BK322.out)) : gb322 ≠ gb327)); have n12_ := Aside0.mk ((by rw [hg]; exact Nat.ne_of_gt (blk_lt (g := gb322) (o := .cells #[.int .i64 t317, .slice Ao22 t318.length co22] 28 (0, 0)) (by (with_reducible repeat (first | refine blk_drewN ?_ _ | refine blk_drew ?_ | refine blk_alloc ?_ _)); exact BK322.out)) : gb327 ≠ gb322)); clear HO316; clear HO320; clear HO326; clear BK311; clear BK322; clear HB; have HO316 := n0_; have HO320 := n1_; have HO326 := n2_; have BK311 := n3_; have BK322 := n4_; have HB := n5_; have BK327 := n6_; have GW327 := n7_; have GE327 := n8_; have NB311_327 := n9_; have NB327_311 := n10_; have NB322_327 := n11_; have NB327_322 := n12_; clear n0_ n1_ n2_ n3_ n4_ n5_ n6_ n7_ n8_ n9_ n10_ n11_ n12_; clear hb hbox hg; have hnb26 := NB327_311.out; have hnc26 := NB311_327.out; have hnb27 := NB327_322.out; have hnc27 := NB322_327.out; have hcz28_0 : w25.cell? ⟨gb327, 0, none⟩ = some (.int .i64 0) := (blk_cell BK327.out 0).trans rfl; have hcz28_1 : w25.cell? ⟨gb327, 1, none⟩ = some (.slice none 0 0) := (blk_cell BK327.out 1).trans rfl; have hfz28_0 := blk_frozen BK327.out 0; have hfz28_1 := blk_frozen BK327.out 1; obtain ⟨Ao29, co29, eo29⟩ := Kd.R_slice HO326.out; subst eo29) | ((with_reducible refine gate_callee (f := 34) rfl ?_); refine goesL_ (some 29) rfl rfl Try.func34 (by kernel_rfl) rfl #[.agg #[.int .i64 t323, .slice Ao29 t324.length co29]] rfl (by (try simp only [List.map_toArray, List.map_cons, List.map_nil]); first | done | rfl | (simp only [List.length_drop, List.length_take]; rfl)) ?_; (with_reducible refine (impl_ConjugateOf.calls k t323 _ _ t324 t328 t329 t332 _ ?side1 ?side2 A10.out).mono ?_); (case side1 => refine (Kd.R_reads' (e := 2) (base := w.heap.size) (ok := fun k_ => ((True ∧ some k_ ≠ (.slice Ao17 t314.length co17 : Value).ownBlock) ∧ some k_ ≠ (.slice Ao22 t318.length co22 : Value).ownBlock)) (n := t324.length) (c := co29) ?_).2.2; exact (by (with_reducible repeat (first | apply Kd.R_alloc | apply Kd.R_drewN | apply Kd.R_drew)); exact (Kd.R_mono (Kd.R_far (p := ⟨gb327, 1, none⟩) (Kd.R_far (p := ⟨gb327, 0, none⟩) (Kd.R_types HO326.out BK327.out (by decide)) (fun _ hk => hk.2) (.int .i64 t323)) (fun _ hk => hk.2) (.slice Ao29 t324.length co29)) (fun _ h_ => h_.1)))); (case side2 => exact (Kd.R_reads' HO326.out).2.1); rintro e w30 ⟨v330, rfl, ho0, hb⟩; refine ⟨_, rfl, ?_⟩; have n0_ := Aside0.mk (Kd.R_elder' (by (with_reducible repeat (first | apply Kd.R_alloc | apply Kd.R_drewN | apply Kd.R_drew)); exact (Kd.R_mono (Kd.R_far (p := ⟨gb327, 1, none⟩) (Kd.R_far (p := ⟨gb327, 0, none⟩) (Kd.R_types HO316.out BK327.out (by decide)) (fun _ hk => hk.2) (.int .i64 t323)) (fun _ hk => hk.2) (.slice Ao29 t324.length co29)) (fun _ h_ => h_.1))) (Kd.R_base ho0) hb); have n1_ := Aside0.mk (Kd.R_elder' (by (with_reducible repeat (first | apply Kd.R_alloc | apply Kd.R_drewN | apply Kd.R_drew)); exact (Kd.R_mono (Kd.R_far (p := ⟨gb327, 1, none⟩) (Kd.R_far (p := ⟨gb327, 0, none⟩) (Kd.R_types HO320.out BK327.out (by decide)) (fun _ hk => hk.2) (.int .i64 t323)) (fun _ hk => hk.2) (.slice Ao29 t324.length co29)) (fun _ h_ => h_.1))) (Kd.R_base ho0) hb); have n2_ := Aside0.mk (Kd.R_elder' (by (with_reducible repeat (first | apply Kd.R_alloc | apply Kd.R_drewN | apply Kd.R_drew)); exact (Kd.R_mono (Kd.R_far (p := ⟨gb327, 1, none⟩) (Kd.R_far (p := ⟨gb327, 0, none⟩) (Kd.R_types HO326.out BK327.out (by decide)) (fun _ hk => hk.2) (.int .i64 t323)) (fun _ hk => hk.2) (.slice Ao29 t324.length co29)) (fun _ h_ => h_.1))) (Kd.R_base ho0) hb); have n3_ := Aside0.mk (Kd.R_lower (Kd.R_new' (Kd.R_new' (Kd.R_new' ho0 (Kd.R_lt (by (with_reducible repeat (first | apply Kd.R_alloc | apply Kd.R_drewN | apply Kd.R_drew)); exact (Kd.R_mono (Kd.R_far (p := ⟨gb327, 1, none⟩) (Kd.R_far (p := ⟨gb327, 0, none⟩) (Kd.R_types HO316.out BK327.out (by decide)) (fun _ hk => hk.2) (.int .i64 t323)) (fun _ hk => hk.2) (.slice Ao29 t324.length co29)) (fun _ h_ => h_.1))))) (Kd.R_lt (by (with_reducible repeat (first | apply Kd.R_alloc | apply Kd.R_drewN | apply Kd.R_drew)); exact (Kd.R_mono (Kd.R_far (p := ⟨gb327, 1, none⟩) (Kd.R_far (p := ⟨gb327, 0, none⟩) (Kd.R_types HO320.out BK327.out (by decide)) (fun _ hk => hk.2) (.int .i64 t323)) (fun _ hk => hk.2) (.slice Ao29 t324.length co29)) (fun _ h_ => h_.1))))) (Kd.R_lt (by (with_reducible repeat (first | apply Kd.R_alloc | apply Kd.R_drewN | apply Kd.R_drew)); exact (Kd.R_mono (Kd.R_far (p := ⟨gb327, 1, none⟩) (Kd.R_far (p := ⟨gb327, 0, none⟩) (Kd.R_types HO326.out BK327.out (by decide)) (fun _ hk => hk.2) (.int .i64 t323)) (fun _ hk => hk.2) (.slice Ao29 t324.length co29)) (fun _ h_ => h_.1))))) (below_size (by repeat (first | (with_reducible first | exact HB.out | apply below_alloc | apply pw_below_drewN | apply below_drew1 | refine below_set ?_ GE311.out | refine below_set ?_ GE322.out | refine below_set ?_ GE327.out) | exact HB.out)))); have n4_ := Aside0.mk (blk_below (g := gb311) (o := .cells #[.int .i64 a0_0, .slice A0_1 l0_1.length c0_1] 24 (0, 0)) (by (with_reducible repeat (first | refine blk_drewN ?_ _ | refine blk_drew ?_ | refine blk_alloc ?_ _)); refine blk_far ?_ NB311_327.out _; (with_reducible repeat (first | refine blk_drewN ?_ _ | refine blk_drew ?_ | refine blk_alloc ?_ _)); refine blk_far ?_ NB311_327.out _; (with_reducible repeat (first | refine blk_drewN ?_ _ | refine blk_drew ?_ | refine blk_alloc ?_ _)); exact BK311.out) hb); have n5_ := Aside0.mk (blk_below (g := gb322) (o := .cells #[.int .i64 t317, .slice Ao22 t318.length co22] 28 (0, 0)) (by (with_reducible repeat (first | refine blk_drewN ?_ _ | refine blk_drew ?_ | refine blk_alloc ?_ _)); refine blk_far ?_ NB322_327.out _; (with_reducible repeat (first | refine blk_drewN ?_ _ | refine blk_drew ?_ | refine blk_alloc ?_ _)); refine blk_far ?_ NB322_327.out _; (with_reducible repeat (first | refine blk_drewN ?_ _ | refine blk_drew ?_ | refine blk_alloc ?_ _)); exact BK322.out) hb); have n6_ := Aside0.mk (blk_below (g := gb327) (o := .cells #[.int .i64 t323, .slice Ao29 t324.length co29] 28 (0, 0)) (by (with_reducible repeat (first | refine blk_drewN ?_ _ | refine blk_drew ?_ | refine blk_alloc ?_ _)); refine blk_put (cs := #[.int .i64 t323, .slice none 0 0]) ?_ 1 _ rfl; (with_reducible repeat (first | refine blk_drewN ?_ _ | refine blk_drew ?_ | refine blk_alloc ?_ _)); refine blk_put (cs := #[.int .i64 0, .slice none 0 0]) ?_ 0 _ rfl; (with_reducible repeat (first | refine blk_drewN ?_ _ | refine blk_drew ?_ | refine blk_alloc ?_ _)); exact BK327.out) hb); have n7_ := Aside0.mk (below_step (by repeat (first | (with_reducible first | exact HB.out | apply below_alloc | apply pw_below_drewN | apply below_drew1 | refine below_set ?_ GE311.out | refine below_set ?_ GE322.out | refine below_set ?_ GE327.out) | exact HB.out)) hb); clear HO316; clear HO320; clear HO326; clear BK311; clear BK322; clear BK327; clear HB; have HO316 := n0_; have HO320 := n1_; have HO326 := n2_; have HO331 := n3_; have BK311 := n4_; have BK322 := n5_; have BK327 := n6_; have HB := n7_; clear n0_ n1_ n2_ n3_ n4_ n5_ n6_ n7_; (try clear hb); (try clear hk); (try clear ho0)) | ((with_reducible refine gate_dst (N := 7) rfl ?_); refine box_event ?hg (N := 7) ?hd (cs := #[.int .i64 0, .slice none 0 0]) (t := 28) ?hr ?_; (case hd => rfl); (case hg => rfl); (case hr => first | (go_simp; done) | (go_simp; rfl)); intro gb333 hg w31 hbox hb; have n0_ := Aside0.mk (Kd.R_below (by (with_reducible repeat (first | apply Kd.R_alloc | apply Kd.R_drewN | apply Kd.R_drew)); exact HO316.out) hb); have n1_ := Aside0.mk (Kd.R_below (by (with_reducible repeat (first | apply Kd.R_alloc | apply Kd.R_drewN | apply Kd.R_drew)); exact HO320.out) hb); have n2_ := Aside0.mk (Kd.R_below (by (with_reducible repeat (first | apply Kd.R_alloc | apply Kd.R_drewN | apply Kd.R_drew)); exact HO326.out) hb); have n3_ := Aside0.mk (Kd.R_below (by (with_reducible repeat (first | apply Kd.R_alloc | apply Kd.R_drewN | apply Kd.R_drew)); exact HO331.out) hb); have n4_ := Aside0.mk (blk_below (g := gb311) (o := .cells #[.int .i64 a0_0, .slice A0_1 l0_1.length c0_1] 24 (0, 0)) (by (with_reducible repeat (first | refine blk_drewN ?_ _ | refine blk_drew ?_ | refine blk_alloc ?_ _)); exact BK311.out) hb); have n5_ := Aside0.mk (blk_below (g := gb322) (o := .cells #[.int .i64 t317, .slice Ao22 t318.length co22] 28 (0, 0)) (by (with_reducible repeat (first | refine blk_drewN ?_ _ | refine blk_drew ?_ | refine blk_alloc ?_ _)); exact BK322.out) hb); have n6_ := Aside0.mk (blk_below (g := gb327) (o := .cells #[.int .i64 t323, .slice Ao29 t324.length co29] 28 (0, 0)) (by (with_reducible repeat (first | refine blk_drewN ?_ _ | refine blk_drew ?_ | refine blk_alloc ?_ _)); exact BK327.out) hb); have n7_ := Aside0.mk (below_step (by repeat (first | (with_reducible first | exact HB.out | apply below_alloc | apply pw_below_drewN | apply below_drew1 | refine below_set ?_ GE311.out | refine below_set ?_ GE322.out | refine below_set ?_ GE327.out) | exact HB.out)) hb); have n8_ := Aside0.mk (hbox); have n9_ := Aside0.mk ((by rw [hg]; exact (below_size (by repeat (first | (with_reducible first | exact HB.out | apply below_alloc | apply pw_below_drewN | apply below_drew1 | refine below_set ?_ GE311.out | refine below_set ?_ GE322.out | refine below_set ?_ GE327.out) | exact HB.out))) : w.heap.size ≤ gb333)); have n10_ := Aside0.mk ((by rw [hg]; exact (below_size (by repeat (first | (with_reducible first | exact HB.out | apply below_alloc | apply pw_below_drewN | apply below_drew1 | refine below_set ?_ GE311.out | refine below_set ?_ GE322.out | refine below_set ?_ GE327.out) | exact HB.out))) : w.heap.size ≤ gb333)); have n11_ := Aside0.mk ((by rw [hg]; exact Nat.ne_of_lt (blk_lt (g := gb311) (o := .cells #[.int .i64 a0_0, .slice A0_1 l0_1.length c0_1] 24 (0, 0)) (by (with_reducible repeat (first | refine blk_drewN ?_ _ | refine blk_drew ?_ | refine blk_alloc ?_ _)); exact BK311.out)) : gb311 ≠ gb333)); have n12_ := Aside0.mk ((by rw [hg]; exact Nat.ne_of_gt (blk_lt (g := gb311) (o := .cells #[.int .i64 a0_0, .slice A0_1 l0_1.length c0_1] 24 (0, 0)) (by (with_reducible repeat (first | refine blk_drewN ?_ _ | refine blk_drew ?_ | refine blk_alloc ?_ _)); exact BK311.out)) : gb333 ≠ gb311)); have n13_ := Aside0.mk ((by rw [hg]; exact Nat.ne_of_lt (blk_lt (g := gb322) (o := .cells #[.int .i64 t317, .slice Ao22 t318.length co22] 28 (0, 0)) (by (with_reducible repeat (first | refine blk_drewN ?_ _ | refine blk_drew ?_ | refine blk_alloc ?_ _)); exact BK322.out)) : gb322 ≠ gb333)); have n14_ := Aside0.mk ((by rw [hg]; exact Nat.ne_of_gt (blk_lt (g := gb322) (o := .cells #[.int .i64 t317, .slice Ao22 t318.length co22] 28 (0, 0)) (by (with_reducible repeat (first | refine blk_drewN ?_ _ | refine blk_drew ?_ | refine blk_alloc ?_ _)); exact BK322.out)) : gb333 ≠ gb322)); have n15_ := Aside0.mk ((by rw [hg]; exact Nat.ne_of_lt (blk_lt (g := gb327) (o := .cells #[.int .i64 t323, .slice Ao29 t324.length co29] 28 (0, 0)) (by (with_reducible repeat (first | refine blk_drewN ?_ _ | refine blk_drew ?_ | refine blk_alloc ?_ _)); exact BK327.out)) : gb327 ≠ gb333)); have n16_ := Aside0.mk ((by rw [hg]; exact Nat.ne_of_gt (blk_lt (g := gb327) (o := .cells #[.int .i64 t323, .slice Ao29 t324.length co29] 28 (0, 0)) (by (with_reducible repeat (first | refine blk_drewN ?_ _ | refine blk_drew ?_ | refine blk_alloc ?_ _)); exact BK327.out)) : gb333 ≠ gb327)); clear HO316; clear HO320; clear HO326; clear HO331; clear BK311; clear BK322; clear BK327; clear HB; have HO316 := n0_; have HO320 := n1_; have HO326 := n2_; have HO331 := n3_; have BK311 := n4_; have BK322 := n5_; have BK327 := n6_; have HB := n7_; have BK333 := n8_; have GW333 := n9_; have GE333 := n10_; have NB311_333 := n11_; have NB333_311 := n12_; have NB322_333 := n13_; have NB333_322 := n14_; have NB327_333 := n15_; have NB333_327 := n16_; clear n0_ n1_ n2_ n3_ n4_ n5_ n6_ n7_ n8_ n9_ n10_ n11_ n12_ n13_ n14_ n15_ n16_; clear hb hbox hg; have hnb32 := NB333_311.out; have hnc32 := NB311_333.out; have hnb33 := NB333_322.out; have hnc33 := NB322_333.out; have hnb34 := NB333_327.out; have hnc34 := NB327_333.out; have hcz35_0 : w31.cell? ⟨gb333, 0, none⟩ = some (.int .i64 0) := (blk_cell BK333.out 0).trans rfl; have hcz35_1 : w31.cell? ⟨gb333, 1, none⟩ = some (.slice none 0 0) := (blk_cell BK333.out 1).trans rfl; have hfz35_0 := blk_frozen BK333.out 0; have hfz35_1 := blk_frozen BK333.out 1; obtain ⟨Ao36, co36, eo36⟩ := Kd.R_slice HO331.out; subst eo36))
  (try simp only [Act.put, List.setIfInBounds_toArray, List.set_cons_zero, List.set_cons_succ])
  go_cut [40] (fun v40 wc => ∃ (kq : Nat) (x40_10 : Bool), v40 = .bool x40_10 ∧ Aside0 (laws_FnExactConjugateOf.j0 kq t321 t332 x40_10 a0_0 l0_1 t317 t318 t323 t324 t328 t329 = some r) ∧ Aside0 (kq ≤ k) ∧ Aside0 (Kd.R (Kd.int .i64) 2 wc w.heap.size (fun k_ => some k_ ≠ ((.slice Ao29 t324.length co29) : Value).ownBlock ∧ some k_ ≠ ((.slice Ao36 t329.length co36) : Value).ownBlock) (.slice Ao22 t318.length co22) t318) ∧ Aside0 (Kd.R (Kd.int .i64) 2 wc w.heap.size (fun k_ => some k_ ≠ ((.slice Ao22 t318.length co22) : Value).ownBlock ∧ some k_ ≠ ((.slice Ao36 t329.length co36) : Value).ownBlock) (.slice Ao29 t324.length co29) t324) ∧ Aside0 (Kd.R (Kd.int .i64) 2 wc w.heap.size (fun k_ => some k_ ≠ ((.slice Ao22 t318.length co22) : Value).ownBlock ∧ some k_ ≠ ((.slice Ao29 t324.length co29) : Value).ownBlock) (.slice Ao36 t329.length co36) t329) ∧ Aside0 (wc.heap[gb311]? = some (.cells #[.int .i64 a0_0, (.slice A0_1 l0_1.length c0_1)] 24 (0, 0))) ∧ Aside0 (wc.heap[gb322]? = some (.cells #[.int .i64 t317, (.slice Ao22 t318.length co22)] 28 (0, 0))) ∧ Aside0 (wc.heap[gb327]? = some (.cells #[.int .i64 t323, (.slice Ao29 t324.length co29)] 28 (0, 0))) ∧ Aside0 (wc.heap[gb333]? = some (.cells #[.int .i64 t328, (.slice Ao36 t329.length co36)] 28 (0, 0))) ∧ Aside0 (Below w.heap.size w wc))
  case first =>
   have H := HC11.out
   clear HC11
   replace H := Option.bind_eq_some_iff.mp H
   obtain ⟨t334, A370, H⟩ := H
   replace H : (if t334 = true then (laws_FnExactConjugateOf.j0 k t321 t332 (t332 != t321) a0_0 l0_1 t317 t318 t323 t324 t328 t329) else (laws_FnExactConjugateOf.j0 k t321 t332 true a0_0 l0_1 t317 t318 t323 t324 t328 t329)) = some r := H
   have A37 := Aside0.mk A370
   clear A370
   by_cases c38 : t334 = true
   ·subst c38
    have H1 : (laws_FnExactConjugateOf.j0 k t321 t332 (t332 != t321) a0_0 l0_1 t317 t318 t323 t324 t328 t329) = some r := by rw [if_pos rfl] at H; exact H
    clear H
    have H := H1
    clear H1
    have H' := Aside0.mk H
    clear H
    have hnb39 := NB333_311.out
    have hnc39 := NB311_333.out
    have hnb40 := NB333_322.out
    have hnc40 := NB322_333.out
    have hnb41 := NB333_327.out
    have hnc41 := NB327_333.out
    have hcz42_0 : w31.cell? ⟨gb333, 0, none⟩ = some (.int .i64 0) := (blk_cell BK333.out 0).trans rfl
    have hcz42_1 : w31.cell? ⟨gb333, 1, none⟩ = some (.slice none 0 0) := (blk_cell BK333.out 1).trans rfl
    have hfz42_0 := blk_frozen BK333.out 0
    have hfz42_1 := blk_frozen BK333.out 1
    have hnb43 := NB322_311.out
    have hnc43 := NB311_322.out
    have hnb44 := NB322_327.out
    have hnc44 := NB327_322.out
    have hcz45_0 : w31.cell? ⟨gb322, 0, none⟩ = some (.int .i64 t317) := (blk_cell BK322.out 0).trans rfl
    have hcz45_1 : w31.cell? ⟨gb322, 1, none⟩ = some (.slice Ao22 t318.length co22) := (blk_cell BK322.out 1).trans rfl
    have hfz45_0 := blk_frozen BK322.out 0
    have hfz45_1 := blk_frozen BK322.out 1
    go_wp2_with (first | ((with_reducible refine gate_callee (f := 17) rfl ?_); refine goesL_ (some 34) rfl rfl Try.func17 (by kernel_rfl) rfl #[.agg #[.int .i64 t328, .slice Ao36 t329.length co36], .agg #[.int .i64 t317, .slice Ao22 t318.length co22]] rfl (by (try simp only [List.map_toArray, List.map_cons, List.map_nil]); first | done | rfl | (simp only [List.length_drop, List.length_take]; rfl)) ?_; (with_reducible refine (laws_eqCyclo.calls k t328 _ _ t329 t317 _ _ t318 true _ ?side1 ?side2 ?side3 ?side4 A37.out).mono ?_); (case side1 => refine (Kd.R_reads' (e := 2) (base := w.heap.size) (ok := fun k_ => (((True ∧ some k_ ≠ (.slice Ao17 t314.length co17 : Value).ownBlock) ∧ some k_ ≠ (.slice Ao22 t318.length co22 : Value).ownBlock) ∧ some k_ ≠ (.slice Ao29 t324.length co29 : Value).ownBlock)) (n := t329.length) (c := co36) ?_).2.2; exact (by (with_reducible repeat (first | apply Kd.R_alloc | apply Kd.R_drewN | apply Kd.R_drew)); exact (Kd.R_mono (Kd.R_far (p := ⟨gb333, 1, none⟩) (Kd.R_far (p := ⟨gb333, 0, none⟩) (Kd.R_types HO331.out BK333.out (by decide)) (fun _ hk => hk.2) (.int .i64 t328)) (fun _ hk => hk.2) (.slice Ao36 t329.length co36)) (fun _ h_ => h_.1)))); (case side2 => exact (Kd.R_reads' HO331.out).2.1); (case side3 => refine (Kd.R_reads' (e := 2) (base := w.heap.size) (ok := fun k_ => (((True ∧ some k_ ≠ (.slice Ao17 t314.length co17 : Value).ownBlock) ∧ some k_ ≠ (.slice Ao29 t324.length co29 : Value).ownBlock) ∧ some k_ ≠ (.slice Ao36 t329.length co36 : Value).ownBlock)) (n := t318.length) (c := co22) ?_).2.2; exact (by (with_reducible repeat (first | apply Kd.R_alloc | apply Kd.R_drewN | apply Kd.R_drew)); exact (Kd.R_mono (Kd.R_far (p := ⟨gb333, 1, none⟩) (Kd.R_far (p := ⟨gb333, 0, none⟩) (Kd.R_types HO320.out BK333.out (by decide)) (fun _ hk => hk.2) (.int .i64 t328)) (fun _ hk => hk.2) (.slice Ao36 t329.length co36)) (fun _ h_ => h_.1)))); (case side4 => exact (Kd.R_reads' HO320.out).2.1); rintro e w46 ⟨rfl, hb⟩; refine ⟨_, rfl, ?_⟩; have n0_ := Aside0.mk (Kd.R_below (by (with_reducible repeat (first | apply Kd.R_alloc | apply Kd.R_drewN | apply Kd.R_drew)); exact (Kd.R_mono (Kd.R_far (p := ⟨gb333, 1, none⟩) (Kd.R_far (p := ⟨gb333, 0, none⟩) (Kd.R_types HO316.out BK333.out (by decide)) (fun _ hk => hk.2) (.int .i64 t328)) (fun _ hk => hk.2) (.slice Ao36 t329.length co36)) (fun _ h_ => h_.1))) hb); have n1_ := Aside0.mk (Kd.R_below (by (with_reducible repeat (first | apply Kd.R_alloc | apply Kd.R_drewN | apply Kd.R_drew)); exact (Kd.R_mono (Kd.R_far (p := ⟨gb333, 1, none⟩) (Kd.R_far (p := ⟨gb333, 0, none⟩) (Kd.R_types HO320.out BK333.out (by decide)) (fun _ hk => hk.2) (.int .i64 t328)) (fun _ hk => hk.2) (.slice Ao36 t329.length co36)) (fun _ h_ => h_.1))) hb); have n2_ := Aside0.mk (Kd.R_below (by (with_reducible repeat (first | apply Kd.R_alloc | apply Kd.R_drewN | apply Kd.R_drew)); exact (Kd.R_mono (Kd.R_far (p := ⟨gb333, 1, none⟩) (Kd.R_far (p := ⟨gb333, 0, none⟩) (Kd.R_types HO326.out BK333.out (by decide)) (fun _ hk => hk.2) (.int .i64 t328)) (fun _ hk => hk.2) (.slice Ao36 t329.length co36)) (fun _ h_ => h_.1))) hb); have n3_ := Aside0.mk (Kd.R_below (by (with_reducible repeat (first | apply Kd.R_alloc | apply Kd.R_drewN | apply Kd.R_drew)); exact (Kd.R_mono (Kd.R_far (p := ⟨gb333, 1, none⟩) (Kd.R_far (p := ⟨gb333, 0, none⟩) (Kd.R_types HO331.out BK333.out (by decide)) (fun _ hk => hk.2) (.int .i64 t328)) (fun _ hk => hk.2) (.slice Ao36 t329.length co36)) (fun _ h_ => h_.1))) hb); have n4_ := Aside0.mk (blk_below (g := gb311) (o := .cells #[.int .i64 a0_0, .slice A0_1 l0_1.length c0_1] 24 (0, 0)) (by (with_reducible repeat (first | refine blk_drewN ?_ _ | refine blk_drew ?_ | refine blk_alloc ?_ _)); refine blk_far ?_ NB311_333.out _; (with_reducible repeat (first | refine blk_drewN ?_ _ | refine blk_drew ?_ | refine blk_alloc ?_ _)); refine blk_far ?_ NB311_333.out _; (with_reducible repeat (first | refine blk_drewN ?_ _ | refine blk_drew ?_ | refine blk_alloc ?_ _)); exact BK311.out) hb); have n5_ := Aside0.mk (blk_below (g := gb322) (o := .cells #[.int .i64 t317, .slice Ao22 t318.length co22] 28 (0, 0)) (by (with_reducible repeat (first | refine blk_drewN ?_ _ | refine blk_drew ?_ | refine blk_alloc ?_ _)); refine blk_far ?_ NB322_333.out _; (with_reducible repeat (first | refine blk_drewN ?_ _ | refine blk_drew ?_ | refine blk_alloc ?_ _)); refine blk_far ?_ NB322_333.out _; (with_reducible repeat (first | refine blk_drewN ?_ _ | refine blk_drew ?_ | refine blk_alloc ?_ _)); exact BK322.out) hb); have n6_ := Aside0.mk (blk_below (g := gb327) (o := .cells #[.int .i64 t323, .slice Ao29 t324.length co29] 28 (0, 0)) (by (with_reducible repeat (first | refine blk_drewN ?_ _ | refine blk_drew ?_ | refine blk_alloc ?_ _)); refine blk_far ?_ NB327_333.out _; (with_reducible repeat (first | refine blk_drewN ?_ _ | refine blk_drew ?_ | refine blk_alloc ?_ _)); refine blk_far ?_ NB327_333.out _; (with_reducible repeat (first | refine blk_drewN ?_ _ | refine blk_drew ?_ | refine blk_alloc ?_ _)); exact BK327.out) hb); have n7_ := Aside0.mk (blk_below (g := gb333) (o := .cells #[.int .i64 t328, .slice Ao36 t329.length co36] 28 (0, 0)) (by (with_reducible repeat (first | refine blk_drewN ?_ _ | refine blk_drew ?_ | refine blk_alloc ?_ _)); refine blk_put (cs := #[.int .i64 t328, .slice none 0 0]) ?_ 1 _ rfl; (with_reducible repeat (first | refine blk_drewN ?_ _ | refine blk_drew ?_ | refine blk_alloc ?_ _)); refine blk_put (cs := #[.int .i64 0, .slice none 0 0]) ?_ 0 _ rfl; (with_reducible repeat (first | refine blk_drewN ?_ _ | refine blk_drew ?_ | refine blk_alloc ?_ _)); exact BK333.out) hb); have n8_ := Aside0.mk (below_step (by repeat (first | (with_reducible first | exact HB.out | apply below_alloc | apply pw_below_drewN | apply below_drew1 | refine below_set ?_ GE311.out | refine below_set ?_ GE322.out | refine below_set ?_ GE327.out | refine below_set ?_ GE333.out) | exact HB.out)) hb); clear HO316; clear HO320; clear HO326; clear HO331; clear BK311; clear BK322; clear BK327; clear BK333; clear HB; have HO316 := n0_; have HO320 := n1_; have HO326 := n2_; have HO331 := n3_; have BK311 := n4_; have BK322 := n5_; have BK327 := n6_; have BK333 := n7_; have HB := n8_; clear n0_ n1_ n2_ n3_ n4_ n5_ n6_ n7_ n8_; (try clear hb); (try clear hk)))
    go_meet
    case rel => exact ⟨_, ((t332 != t321)), (by first | rfl | (simp; done) | (simp [*]; done)), H', ⟨by first | omega | exact Nat.le_refl _⟩, ⟨by (with_reducible repeat (first | apply Kd.R_alloc | apply Kd.R_drewN | apply Kd.R_drew)); exact Kd.R_mono HO320.out (fun _ hk => ⟨hk.1.2, hk.2⟩)⟩, ⟨by (with_reducible repeat (first | apply Kd.R_alloc | apply Kd.R_drewN | apply Kd.R_drew)); exact Kd.R_mono HO326.out (fun _ hk => ⟨hk.1.2, hk.2⟩)⟩, ⟨by (with_reducible repeat (first | apply Kd.R_alloc | apply Kd.R_drewN | apply Kd.R_drew)); exact Kd.R_mono HO331.out (fun _ hk => ⟨hk.1.2, hk.2⟩)⟩, ⟨by (with_reducible repeat (first | refine blk_drewN ?_ _ | refine blk_drew ?_ | refine blk_alloc ?_ _)); exact BK311.out⟩, ⟨by (with_reducible repeat (first | refine blk_drewN ?_ _ | refine blk_drew ?_ | refine blk_alloc ?_ _)); exact BK322.out⟩, ⟨by (with_reducible repeat (first | refine blk_drewN ?_ _ | refine blk_drew ?_ | refine blk_alloc ?_ _)); exact BK327.out⟩, ⟨by (with_reducible repeat (first | refine blk_drewN ?_ _ | refine blk_drew ?_ | refine blk_alloc ?_ _)); exact BK333.out⟩, ⟨by repeat (first | (with_reducible first | exact HB.out | apply below_alloc | apply pw_below_drewN | apply below_drew1 | refine below_set ?_ GE311.out | refine below_set ?_ GE322.out | refine below_set ?_ GE327.out | refine below_set ?_ GE333.out) | exact HB.out)⟩⟩
   ·replace c38 := Bool.eq_false_iff.mpr c38
    subst c38
    have H1 : (laws_FnExactConjugateOf.j0 k t321 t332 true a0_0 l0_1 t317 t318 t323 t324 t328 t329) = some r := by rw [if_neg (show ¬ (false = true) by decide)] at H; exact H
    clear H
    have H := H1
    clear H1
    have H' := Aside0.mk H
    clear H
    have hnb47 := NB333_311.out
    have hnc47 := NB311_333.out
    have hnb48 := NB333_322.out
    have hnc48 := NB322_333.out
    have hnb49 := NB333_327.out
    have hnc49 := NB327_333.out
    have hcz50_0 : w31.cell? ⟨gb333, 0, none⟩ = some (.int .i64 0) := (blk_cell BK333.out 0).trans rfl
    have hcz50_1 : w31.cell? ⟨gb333, 1, none⟩ = some (.slice none 0 0) := (blk_cell BK333.out 1).trans rfl
    have hfz50_0 := blk_frozen BK333.out 0
    have hfz50_1 := blk_frozen BK333.out 1
    have hnb51 := NB322_311.out
    have hnc51 := NB311_322.out
    have hnb52 := NB322_327.out
    have hnc52 := NB327_322.out
    have hcz53_0 : w31.cell? ⟨gb322, 0, none⟩ = some (.int .i64 t317) := (blk_cell BK322.out 0).trans rfl
    have hcz53_1 : w31.cell? ⟨gb322, 1, none⟩ = some (.slice Ao22 t318.length co22) := (blk_cell BK322.out 1).trans rfl
    have hfz53_0 := blk_frozen BK322.out 0
    have hfz53_1 := blk_frozen BK322.out 1
    go_wp2_with (first | ((with_reducible refine gate_callee (f := 17) rfl ?_); refine goesL_ (some 34) rfl rfl Try.func17 (by kernel_rfl) rfl #[.agg #[.int .i64 t328, .slice Ao36 t329.length co36], .agg #[.int .i64 t317, .slice Ao22 t318.length co22]] rfl (by (try simp only [List.map_toArray, List.map_cons, List.map_nil]); first | done | rfl | (simp only [List.length_drop, List.length_take]; rfl)) ?_; (with_reducible refine (laws_eqCyclo.calls k t328 _ _ t329 t317 _ _ t318 false _ ?side1 ?side2 ?side3 ?side4 A37.out).mono ?_); (case side1 => refine (Kd.R_reads' (e := 2) (base := w.heap.size) (ok := fun k_ => (((True ∧ some k_ ≠ (.slice Ao17 t314.length co17 : Value).ownBlock) ∧ some k_ ≠ (.slice Ao22 t318.length co22 : Value).ownBlock) ∧ some k_ ≠ (.slice Ao29 t324.length co29 : Value).ownBlock)) (n := t329.length) (c := co36) ?_).2.2; exact (by (with_reducible repeat (first | apply Kd.R_alloc | apply Kd.R_drewN | apply Kd.R_drew)); exact (Kd.R_mono (Kd.R_far (p := ⟨gb333, 1, none⟩) (Kd.R_far (p := ⟨gb333, 0, none⟩) (Kd.R_types HO331.out BK333.out (by decide)) (fun _ hk => hk.2) (.int .i64 t328)) (fun _ hk => hk.2) (.slice Ao36 t329.length co36)) (fun _ h_ => h_.1)))); (case side2 => exact (Kd.R_reads' HO331.out).2.1); (case side3 => refine (Kd.R_reads' (e := 2) (base := w.heap.size) (ok := fun k_ => (((True ∧ some k_ ≠ (.slice Ao17 t314.length co17 : Value).ownBlock) ∧ some k_ ≠ (.slice Ao29 t324.length co29 : Value).ownBlock) ∧ some k_ ≠ (.slice Ao36 t329.length co36 : Value).ownBlock)) (n := t318.length) (c := co22) ?_).2.2; exact (by (with_reducible repeat (first | apply Kd.R_alloc | apply Kd.R_drewN | apply Kd.R_drew)); exact (Kd.R_mono (Kd.R_far (p := ⟨gb333, 1, none⟩) (Kd.R_far (p := ⟨gb333, 0, none⟩) (Kd.R_types HO320.out BK333.out (by decide)) (fun _ hk => hk.2) (.int .i64 t328)) (fun _ hk => hk.2) (.slice Ao36 t329.length co36)) (fun _ h_ => h_.1)))); (case side4 => exact (Kd.R_reads' HO320.out).2.1); rintro e w54 ⟨rfl, hb⟩; refine ⟨_, rfl, ?_⟩; have n0_ := Aside0.mk (Kd.R_below (by (with_reducible repeat (first | apply Kd.R_alloc | apply Kd.R_drewN | apply Kd.R_drew)); exact (Kd.R_mono (Kd.R_far (p := ⟨gb333, 1, none⟩) (Kd.R_far (p := ⟨gb333, 0, none⟩) (Kd.R_types HO316.out BK333.out (by decide)) (fun _ hk => hk.2) (.int .i64 t328)) (fun _ hk => hk.2) (.slice Ao36 t329.length co36)) (fun _ h_ => h_.1))) hb); have n1_ := Aside0.mk (Kd.R_below (by (with_reducible repeat (first | apply Kd.R_alloc | apply Kd.R_drewN | apply Kd.R_drew)); exact (Kd.R_mono (Kd.R_far (p := ⟨gb333, 1, none⟩) (Kd.R_far (p := ⟨gb333, 0, none⟩) (Kd.R_types HO320.out BK333.out (by decide)) (fun _ hk => hk.2) (.int .i64 t328)) (fun _ hk => hk.2) (.slice Ao36 t329.length co36)) (fun _ h_ => h_.1))) hb); have n2_ := Aside0.mk (Kd.R_below (by (with_reducible repeat (first | apply Kd.R_alloc | apply Kd.R_drewN | apply Kd.R_drew)); exact (Kd.R_mono (Kd.R_far (p := ⟨gb333, 1, none⟩) (Kd.R_far (p := ⟨gb333, 0, none⟩) (Kd.R_types HO326.out BK333.out (by decide)) (fun _ hk => hk.2) (.int .i64 t328)) (fun _ hk => hk.2) (.slice Ao36 t329.length co36)) (fun _ h_ => h_.1))) hb); have n3_ := Aside0.mk (Kd.R_below (by (with_reducible repeat (first | apply Kd.R_alloc | apply Kd.R_drewN | apply Kd.R_drew)); exact (Kd.R_mono (Kd.R_far (p := ⟨gb333, 1, none⟩) (Kd.R_far (p := ⟨gb333, 0, none⟩) (Kd.R_types HO331.out BK333.out (by decide)) (fun _ hk => hk.2) (.int .i64 t328)) (fun _ hk => hk.2) (.slice Ao36 t329.length co36)) (fun _ h_ => h_.1))) hb); have n4_ := Aside0.mk (blk_below (g := gb311) (o := .cells #[.int .i64 a0_0, .slice A0_1 l0_1.length c0_1] 24 (0, 0)) (by (with_reducible repeat (first | refine blk_drewN ?_ _ | refine blk_drew ?_ | refine blk_alloc ?_ _)); refine blk_far ?_ NB311_333.out _; (with_reducible repeat (first | refine blk_drewN ?_ _ | refine blk_drew ?_ | refine blk_alloc ?_ _)); refine blk_far ?_ NB311_333.out _; (with_reducible repeat (first | refine blk_drewN ?_ _ | refine blk_drew ?_ | refine blk_alloc ?_ _)); exact BK311.out) hb); have n5_ := Aside0.mk (blk_below (g := gb322) (o := .cells #[.int .i64 t317, .slice Ao22 t318.length co22] 28 (0, 0)) (by (with_reducible repeat (first | refine blk_drewN ?_ _ | refine blk_drew ?_ | refine blk_alloc ?_ _)); refine blk_far ?_ NB322_333.out _; (with_reducible repeat (first | refine blk_drewN ?_ _ | refine blk_drew ?_ | refine blk_alloc ?_ _)); refine blk_far ?_ NB322_333.out _; (with_reducible repeat (first | refine blk_drewN ?_ _ | refine blk_drew ?_ | refine blk_alloc ?_ _)); exact BK322.out) hb); have n6_ := Aside0.mk (blk_below (g := gb327) (o := .cells #[.int .i64 t323, .slice Ao29 t324.length co29] 28 (0, 0)) (by (with_reducible repeat (first | refine blk_drewN ?_ _ | refine blk_drew ?_ | refine blk_alloc ?_ _)); refine blk_far ?_ NB327_333.out _; (with_reducible repeat (first | refine blk_drewN ?_ _ | refine blk_drew ?_ | refine blk_alloc ?_ _)); refine blk_far ?_ NB327_333.out _; (with_reducible repeat (first | refine blk_drewN ?_ _ | refine blk_drew ?_ | refine blk_alloc ?_ _)); exact BK327.out) hb); have n7_ := Aside0.mk (blk_below (g := gb333) (o := .cells #[.int .i64 t328, .slice Ao36 t329.length co36] 28 (0, 0)) (by (with_reducible repeat (first | refine blk_drewN ?_ _ | refine blk_drew ?_ | refine blk_alloc ?_ _)); refine blk_put (cs := #[.int .i64 t328, .slice none 0 0]) ?_ 1 _ rfl; (with_reducible repeat (first | refine blk_drewN ?_ _ | refine blk_drew ?_ | refine blk_alloc ?_ _)); refine blk_put (cs := #[.int .i64 0, .slice none 0 0]) ?_ 0 _ rfl; (with_reducible repeat (first | refine blk_drewN ?_ _ | refine blk_drew ?_ | refine blk_alloc ?_ _)); exact BK333.out) hb); have n8_ := Aside0.mk (below_step (by repeat (first | (with_reducible first | exact HB.out | apply below_alloc | apply pw_below_drewN | apply below_drew1 | refine below_set ?_ GE311.out | refine below_set ?_ GE322.out | refine below_set ?_ GE327.out | refine below_set ?_ GE333.out) | exact HB.out)) hb); clear HO316; clear HO320; clear HO326; clear HO331; clear BK311; clear BK322; clear BK327; clear BK333; clear HB; have HO316 := n0_; have HO320 := n1_; have HO326 := n2_; have HO331 := n3_; have BK311 := n4_; have BK322 := n5_; have BK327 := n6_; have BK333 := n7_; have HB := n8_; clear n0_ n1_ n2_ n3_ n4_ n5_ n6_ n7_ n8_; (try clear hb); (try clear hk)))
    go_meet
    case rel => exact ⟨_, (true), (by first | rfl | (simp; done) | (simp [*]; done)), H', ⟨by first | omega | exact Nat.le_refl _⟩, ⟨by (with_reducible repeat (first | apply Kd.R_alloc | apply Kd.R_drewN | apply Kd.R_drew)); exact Kd.R_mono HO320.out (fun _ hk => ⟨hk.1.2, hk.2⟩)⟩, ⟨by (with_reducible repeat (first | apply Kd.R_alloc | apply Kd.R_drewN | apply Kd.R_drew)); exact Kd.R_mono HO326.out (fun _ hk => ⟨hk.1.2, hk.2⟩)⟩, ⟨by (with_reducible repeat (first | apply Kd.R_alloc | apply Kd.R_drewN | apply Kd.R_drew)); exact Kd.R_mono HO331.out (fun _ hk => ⟨hk.1.2, hk.2⟩)⟩, ⟨by (with_reducible repeat (first | refine blk_drewN ?_ _ | refine blk_drew ?_ | refine blk_alloc ?_ _)); exact BK311.out⟩, ⟨by (with_reducible repeat (first | refine blk_drewN ?_ _ | refine blk_drew ?_ | refine blk_alloc ?_ _)); exact BK322.out⟩, ⟨by (with_reducible repeat (first | refine blk_drewN ?_ _ | refine blk_drew ?_ | refine blk_alloc ?_ _)); exact BK327.out⟩, ⟨by (with_reducible repeat (first | refine blk_drewN ?_ _ | refine blk_drew ?_ | refine blk_alloc ?_ _)); exact BK333.out⟩, ⟨by repeat (first | (with_reducible first | exact HB.out | apply below_alloc | apply pw_below_drewN | apply below_drew1 | refine below_set ?_ GE311.out | refine below_set ?_ GE322.out | refine below_set ?_ GE327.out | refine below_set ?_ GE333.out) | exact HB.out)⟩⟩
  case rest =>
   clear HC11
   try clear c3
   try clear c3b0
   try clear c38
   try clear hcz13_0
   try clear hcz13_1
   try clear hcz15_0
   try clear hcz15_1
   try clear hcz21_0
   try clear hcz21_1
   try clear hcz23_0
   try clear hcz23_1
   try clear hcz28_0
   try clear hcz28_1
   try clear hcz35_0
   try clear hcz35_1
   try clear hcz42_0
   try clear hcz42_1
   try clear hcz45_0
   try clear hcz45_1
   try clear hcz50_0
   try clear hcz50_1
   try clear hcz53_0
   try clear hcz53_1
   try clear hcz5_0
   try clear hcz5_1
   try clear hfz13_0
   try clear hfz13_1
   try clear hfz15_0
   try clear hfz15_1
   try clear hfz21_0
   try clear hfz21_1
   try clear hfz23_0
   try clear hfz23_1
   try clear hfz28_0
   try clear hfz28_1
   try clear hfz35_0
   try clear hfz35_1
   try clear hfz42_0
   try clear hfz42_1
   try clear hfz45_0
   try clear hfz45_1
   try clear hfz50_0
   try clear hfz50_1
   try clear hfz53_0
   try clear hfz53_1
   try clear hfz5_0
   try clear hfz5_1
   obtain ⟨kq, x40_10, rfl, HA, HJ10, HO_323001, HO_328001, HO_334001, BK311, BK322, BK327, BK333, HB⟩ := hcut
   cases kq with
   | zero => exact absurd HA.out (by simp [laws_FnExactConjugateOf.j0])
   | succ kj10 =>
    have H := HA.out
    clear HA
    simp only [laws_FnExactConjugateOf.j0] at H
    by_cases c55 : x40_10 = true
    ·subst c55
     have H1 : (some false) = some r := by rw [if_pos rfl] at H; exact H
     clear H
     have H := H1
     clear H1
     obtain rfl := Option.some.inj H
     go_wp2
     go_ret
     exact ⟨by first | rfl | (simp [errW_none, errW_some] <;> rfl) | (simp [*, errW_none, errW_some] <;> rfl), by repeat (first | (with_reducible first | exact HB.out | apply below_alloc | apply pw_below_drewN | apply below_drew1 | refine below_set ?_ GE311.out | refine below_set ?_ GE322.out | refine below_set ?_ GE327.out | refine below_set ?_ GE333.out) | exact HB.out)⟩
    ·replace c55 := Bool.eq_false_iff.mpr c55
     subst c55
     have H1 : ((laws_toCyclo.f kj10 a0_0 l0_1).bind fun bt335 => ((laws_eqCyclo.f kj10 t323 t324 bt335.1 bt335.2).bind fun t339 => (if t339 = true then ((laws_markCyclo.f kj10 t323 t324 1).bind fun bt340 => (if bt340.1 < 0 then (laws_FnExactConjugateOf.j1 kj10 t321 true a0_0 l0_1 t317 t318 t328 t329) else ((laws_eqCyclo.f kj10 t328 t329 t317 t318).bind fun t342 => (if t342 = true then (laws_FnExactConjugateOf.j1 kj10 t321 (t332 != t321) a0_0 l0_1 t317 t318 t328 t329) else (laws_FnExactConjugateOf.j1 kj10 t321 true a0_0 l0_1 t317 t318 t328 t329))))) else (some false)))) = some r := by rw [if_neg (show ¬ (false = true) by decide)] at H; exact H
     clear H
     have H := H1
     clear H1
     replace H := Option.bind_eq_some_iff.mp H
     obtain ⟨⟨t335, t336⟩, A560, H⟩ := H
     replace H : ((laws_eqCyclo.f kj10 t323 t324 t335 t336).bind fun t339 => (if t339 = true then ((laws_markCyclo.f kj10 t323 t324 1).bind fun bt340 => (if bt340.1 < 0 then (laws_FnExactConjugateOf.j1 kj10 t321 true a0_0 l0_1 t317 t318 t328 t329) else ((laws_eqCyclo.f kj10 t328 t329 t317 t318).bind fun t342 => (if t342 = true then (laws_FnExactConjugateOf.j1 kj10 t321 (t332 != t321) a0_0 l0_1 t317 t318 t328 t329) else (laws_FnExactConjugateOf.j1 kj10 t321 true a0_0 l0_1 t317 t318 t328 t329))))) else (some false))) = some r := H
     have A56 := Aside0.mk A560
     clear A560
     replace H := Option.bind_eq_some_iff.mp H
     obtain ⟨t339, A570, H⟩ := H
     replace H : (if t339 = true then ((laws_markCyclo.f kj10 t323 t324 1).bind fun bt340 => (if bt340.1 < 0 then (laws_FnExactConjugateOf.j1 kj10 t321 true a0_0 l0_1 t317 t318 t328 t329) else ((laws_eqCyclo.f kj10 t328 t329 t317 t318).bind fun t342 => (if t342 = true then (laws_FnExactConjugateOf.j1 kj10 t321 (t332 != t321) a0_0 l0_1 t317 t318 t328 t329) else (laws_FnExactConjugateOf.j1 kj10 t321 true a0_0 l0_1 t317 t318 t328 t329))))) else (some false)) = some r := H
     have A57 := Aside0.mk A570
     clear A570
     by_cases c58 : t339 = true
     ·subst c58
      have H1 : ((laws_markCyclo.f kj10 t323 t324 1).bind fun bt340 => (if bt340.1 < 0 then (laws_FnExactConjugateOf.j1 kj10 t321 true a0_0 l0_1 t317 t318 t328 t329) else ((laws_eqCyclo.f kj10 t328 t329 t317 t318).bind fun t342 => (if t342 = true then (laws_FnExactConjugateOf.j1 kj10 t321 (t332 != t321) a0_0 l0_1 t317 t318 t328 t329) else (laws_FnExactConjugateOf.j1 kj10 t321 true a0_0 l0_1 t317 t318 t328 t329))))) = some r := by rw [if_pos rfl] at H; exact H
      clear H
      have H := H1
      clear H1
      replace H := Option.bind_eq_some_iff.mp H
      obtain ⟨⟨t340, t341⟩, A590, H⟩ := H
      replace H : (if t340 < 0 then (laws_FnExactConjugateOf.j1 kj10 t321 true a0_0 l0_1 t317 t318 t328 t329) else ((laws_eqCyclo.f kj10 t328 t329 t317 t318).bind fun t342 => (if t342 = true then (laws_FnExactConjugateOf.j1 kj10 t321 (t332 != t321) a0_0 l0_1 t317 t318 t328 t329) else (laws_FnExactConjugateOf.j1 kj10 t321 true a0_0 l0_1 t317 t318 t328 t329)))) = some r := H
      have A59 := Aside0.mk A590
      clear A590
      have HC60 := Aside0.mk H
      clear H
      try go_wp2
      have n0_ := Aside0.mk (Kd.R_drew HO_323001.out)
      have n1_ := Aside0.mk (Kd.R_drew HO_328001.out)
      have n2_ := Aside0.mk (Kd.R_drew HO_334001.out)
      have n3_ := Aside0.mk (blk_drew BK311.out)
      have n4_ := Aside0.mk (blk_drew BK322.out)
      have n5_ := Aside0.mk (blk_drew BK327.out)
      have n6_ := Aside0.mk (blk_drew BK333.out)
      have n7_ := Aside0.mk (below_drew1 HB.out)
      clear HO_323001
      clear HO_328001
      clear HO_334001
      clear BK311
      clear BK322
      clear BK327
      clear BK333
      clear HB
      have HO_323001 := n0_
      have HO_328001 := n1_
      have HO_334001 := n2_
      have BK311 := n3_
      have BK322 := n4_
      have BK327 := n5_
      have BK333 := n6_
      have HB := n7_
      clear n0_ n1_ n2_ n3_ n4_ n5_ n6_ n7_
      refine start_ (n := 5) (S := fun w' => w'.cell? ⟨gb327, 0, none⟩ = some (.int .i64 t323) ∧ w'.cell? ⟨gb327, 1, none⟩ = some (.slice Ao29 t324.length co29) ∧ w'.cell? ⟨gb311, 0, none⟩ = some (.int .i64 a0_0) ∧ w'.cell? ⟨gb311, 1, none⟩ = some (.slice A0_1 l0_1.length c0_1)) (ds := []) #[false, false, false, false, false] (by kernel_rfl) rfl rfl ⟨(blk_cell BK327.out 0).trans rfl, (blk_cell BK327.out 1).trans rfl, (blk_cell BK311.out 0).trans rfl, (blk_cell BK311.out 1).trans rfl⟩ (fun hHeld => ?_)
      generalize wc.drew = w61 at HO_323001 HO_328001 HO_334001 BK311 BK322 BK327 BK333 HB hHeld ⊢
      refine take_ (i := 0) (N := some 41) (v := ?_) (a' := ?_) #[true, false, false, false, false] rfl rfl (by kernel_rfl) (fun _ _ _ h => h) (Or.inl ⟨by rfl, ?_⟩) hHeld ?_ ?_
      rotate_left
      ·rintro w' ⟨s0, s1, s2, s3⟩
       go_simp
       with_reducible rfl
      rotate_left
      ·simp only [Act.put, List.setIfInBounds_toArray, List.set_cons_zero, List.set_cons_succ, i64_w, i32_w]
       rfl
      refine take_ (i := 1) (N := some 42) (v := ?_) (a' := ?_) #[true, true, false, false, false] rfl rfl (by kernel_rfl) (fun _ _ _ h => h) (Or.inl ⟨by rfl, ?_⟩) hHeld ?_ ?_
      rotate_left
      ·rintro w' ⟨s0, s1, s2, s3⟩
       go_simp
       with_reducible rfl
      rotate_left
      ·simp only [Act.put, List.setIfInBounds_toArray, List.set_cons_zero, List.set_cons_succ, i64_w, i32_w]
       rfl
      refine one_ (i := 2) (N := some 43) #[true, true, true, false, false] rfl rfl (by kernel_rfl) (by decide) (fun K hK => ?_)
      refine goes_ Try.func15 (by kernel_rfl) rfl #[.agg #[.int .i64 a0_0, .slice A0_1 l0_1.length c0_1]] (by rfl) rfl rfl (by (try simp only [List.map_toArray, List.map_cons, List.map_nil]); first | done | rfl | (simp only [List.length_drop, List.length_take]; rfl)) ?_
      with_reducible refine (laws_toCyclo.calls kj10 a0_0 _ _ l0_1 t335 t336 _ ?side1 ?side2 A56.out).mono ?_
      (case side1 => repeat (first | exact (Kd.C_below HR0_1.out HB.out) | (with_reducible refine Kd.C_alloc ?_ _) | (with_reducible refine Kd.C_drewN ?_ _) | (with_reducible refine Kd.C_drew ?_)))
      (case side2 => exact HC0_1.out)
      rintro e w62 ⟨v337, rfl, ho0, hb⟩
      refine ⟨_, rfl, ?_⟩
      have n0_ := Aside0.mk (Kd.R_elder' (by (with_reducible repeat (first | apply Kd.R_alloc | apply Kd.R_drewN | apply Kd.R_drew)); exact HO_323001.out) (Kd.R_base ho0) hb)
      have n1_ := Aside0.mk (Kd.R_elder' (by (with_reducible repeat (first | apply Kd.R_alloc | apply Kd.R_drewN | apply Kd.R_drew)); exact HO_328001.out) (Kd.R_base ho0) hb)
      have n2_ := Aside0.mk (Kd.R_elder' (by (with_reducible repeat (first | apply Kd.R_alloc | apply Kd.R_drewN | apply Kd.R_drew)); exact HO_334001.out) (Kd.R_base ho0) hb)
      have n3_ := Aside0.mk (Kd.R_lower (Kd.R_new' (Kd.R_new' (Kd.R_new' ho0 (Kd.R_lt (by (with_reducible repeat (first | apply Kd.R_alloc | apply Kd.R_drewN | apply Kd.R_drew)); exact HO_323001.out))) (Kd.R_lt (by (with_reducible repeat (first | apply Kd.R_alloc | apply Kd.R_drewN | apply Kd.R_drew)); exact HO_328001.out))) (Kd.R_lt (by (with_reducible repeat (first | apply Kd.R_alloc | apply Kd.R_drewN | apply Kd.R_drew)); exact HO_334001.out))) (below_size (by repeat (first | (with_reducible first | exact HB.out | apply below_alloc | apply pw_below_drewN | apply below_drew1 | refine below_set ?_ GE311.out | refine below_set ?_ GE322.out | refine below_set ?_ GE327.out | refine below_set ?_ GE333.out) | exact HB.out))))
      have n4_ := Aside0.mk (blk_below (g := gb311) (o := .cells #[.int .i64 a0_0, .slice A0_1 l0_1.length c0_1] 24 (0, 0)) (by (with_reducible repeat (first | refine blk_drewN ?_ _ | refine blk_drew ?_ | refine blk_alloc ?_ _)); exact BK311.out) hb)
      have n5_ := Aside0.mk (blk_below (g := gb322) (o := .cells #[.int .i64 t317, .slice Ao22 t318.length co22] 28 (0, 0)) (by (with_reducible repeat (first | refine blk_drewN ?_ _ | refine blk_drew ?_ | refine blk_alloc ?_ _)); exact BK322.out) hb)
      have n6_ := Aside0.mk (blk_below (g := gb327) (o := .cells #[.int .i64 t323, .slice Ao29 t324.length co29] 28 (0, 0)) (by (with_reducible repeat (first | refine blk_drewN ?_ _ | refine blk_drew ?_ | refine blk_alloc ?_ _)); exact BK327.out) hb)
      have n7_ := Aside0.mk (blk_below (g := gb333) (o := .cells #[.int .i64 t328, .slice Ao36 t329.length co36] 28 (0, 0)) (by (with_reducible repeat (first | refine blk_drewN ?_ _ | refine blk_drew ?_ | refine blk_alloc ?_ _)); exact BK333.out) hb)
      have n8_ := Aside0.mk (below_step (by repeat (first | (with_reducible first | exact HB.out | apply below_alloc | apply pw_below_drewN | apply below_drew1 | refine below_set ?_ GE311.out | refine below_set ?_ GE322.out | refine below_set ?_ GE327.out | refine below_set ?_ GE333.out) | exact HB.out)) hb)
      clear HO_323001
      clear HO_328001
      clear HO_334001
      clear BK311
      clear BK322
      clear BK327
      clear BK333
      clear HB
      have HO_323001 := n0_
      have HO_328001 := n1_
      have HO_334001 := n2_
      have HO338 := n3_
      have BK311 := n4_
      have BK322 := n5_
      have BK327 := n6_
      have BK333 := n7_
      have HB := n8_
      clear n0_ n1_ n2_ n3_ n4_ n5_ n6_ n7_ n8_
      (try clear hb)
      (try clear ho0)
      obtain ⟨Ao63, co63, eo63⟩ := Kd.R_slice HO338.out
      (first | subst eo63 | (injection eo63 with f1_ f2_ f3_; have f4_ := f1_.symm; have f5_ := f3_.symm; clear f1_ f2_ f3_; subst f4_; subst f5_))
      refine hK.out _ _ ⟨(blk_cell BK327.out 0).trans rfl, (blk_cell BK327.out 1).trans rfl, (blk_cell BK311.out 0).trans rfl, (blk_cell BK311.out 1).trans rfl⟩ (fun hHeld => ?_)
      clear hK K
      refine norm_ (a' := ?_) ?_ ?_
      rotate_left
      ·show Act.put _ (some 43) _ = _
       simp only [Act.put, List.setIfInBounds_toArray, List.set_cons_zero, List.set_cons_succ, i64_w, i32_w]
       rfl
      refine one_ (i := 3) (N := some 44) #[true, true, true, true, false] rfl rfl (by kernel_rfl) (by decide) (fun K hK => ?_)
      refine goes_ Try.func17 (by kernel_rfl) rfl #[.agg #[.int .i64 t323, .slice Ao29 t324.length co29], .agg #[.int .i64 t335, .slice Ao63 t336.length co63]] (by rfl) rfl rfl (by (try simp only [List.map_toArray, List.map_cons, List.map_nil]); first | done | rfl | (simp only [List.length_drop, List.length_take]; rfl)) ?_
      with_reducible refine (laws_eqCyclo.calls kj10 t323 _ _ t324 t335 _ _ t336 true _ ?side1 ?side2 ?side3 ?side4 A57.out).mono ?_
      (case side1 => repeat (first | exact (Kd.R_reads' HO_328001.out).2.2 | (with_reducible refine Kd.C_alloc ?_ _) | (with_reducible refine Kd.C_drewN ?_ _) | (with_reducible refine Kd.C_drew ?_)))
      (case side2 => exact (Kd.R_reads' HO_328001.out).2.1)
      (case side3 => repeat (first | exact (Kd.R_reads' HO338.out).2.2 | (with_reducible refine Kd.C_alloc ?_ _) | (with_reducible refine Kd.C_drewN ?_ _) | (with_reducible refine Kd.C_drew ?_)))
      (case side4 => exact (Kd.R_reads' HO338.out).2.1)
      rintro e w64 ⟨rfl, hb⟩
      refine ⟨_, rfl, ?_⟩
      have n0_ := Aside0.mk (Kd.R_below (by (with_reducible repeat (first | apply Kd.R_alloc | apply Kd.R_drewN | apply Kd.R_drew)); exact HO_323001.out) hb)
      have n1_ := Aside0.mk (Kd.R_below (by (with_reducible repeat (first | apply Kd.R_alloc | apply Kd.R_drewN | apply Kd.R_drew)); exact HO_328001.out) hb)
      have n2_ := Aside0.mk (Kd.R_below (by (with_reducible repeat (first | apply Kd.R_alloc | apply Kd.R_drewN | apply Kd.R_drew)); exact HO_334001.out) hb)
      have n3_ := Aside0.mk (Kd.R_below (by (with_reducible repeat (first | apply Kd.R_alloc | apply Kd.R_drewN | apply Kd.R_drew)); exact HO338.out) hb)
      have n4_ := Aside0.mk (blk_below (g := gb311) (o := .cells #[.int .i64 a0_0, .slice A0_1 l0_1.length c0_1] 24 (0, 0)) (by (with_reducible repeat (first | refine blk_drewN ?_ _ | refine blk_drew ?_ | refine blk_alloc ?_ _)); exact BK311.out) hb)
      have n5_ := Aside0.mk (blk_below (g := gb322) (o := .cells #[.int .i64 t317, .slice Ao22 t318.length co22] 28 (0, 0)) (by (with_reducible repeat (first | refine blk_drewN ?_ _ | refine blk_drew ?_ | refine blk_alloc ?_ _)); exact BK322.out) hb)
      have n6_ := Aside0.mk (blk_below (g := gb327) (o := .cells #[.int .i64 t323, .slice Ao29 t324.length co29] 28 (0, 0)) (by (with_reducible repeat (first | refine blk_drewN ?_ _ | refine blk_drew ?_ | refine blk_alloc ?_ _)); exact BK327.out) hb)
      have n7_ := Aside0.mk (blk_below (g := gb333) (o := .cells #[.int .i64 t328, .slice Ao36 t329.length co36] 28 (0, 0)) (by (with_reducible repeat (first | refine blk_drewN ?_ _ | refine blk_drew ?_ | refine blk_alloc ?_ _)); exact BK333.out) hb)
      have n8_ := Aside0.mk (below_step (by repeat (first | (with_reducible first | exact HB.out | apply below_alloc | apply pw_below_drewN | apply below_drew1 | refine below_set ?_ GE311.out | refine below_set ?_ GE322.out | refine below_set ?_ GE327.out | refine below_set ?_ GE333.out) | exact HB.out)) hb)
      clear HO_323001
      clear HO_328001
      clear HO_334001
      clear HO338
      clear BK311
      clear BK322
      clear BK327
      clear BK333
      clear HB
      have HO_323001 := n0_
      have HO_328001 := n1_
      have HO_334001 := n2_
      have HO338 := n3_
      have BK311 := n4_
      have BK322 := n5_
      have BK327 := n6_
      have BK333 := n7_
      have HB := n8_
      clear n0_ n1_ n2_ n3_ n4_ n5_ n6_ n7_ n8_
      (try clear hb)
      refine hK.out _ _ ⟨(blk_cell BK327.out 0).trans rfl, (blk_cell BK327.out 1).trans rfl, (blk_cell BK311.out 0).trans rfl, (blk_cell BK311.out 1).trans rfl⟩ (fun hHeld => ?_)
      clear hK K
      refine norm_ (a' := ?_) ?_ ?_
      rotate_left
      ·show Act.put _ (some 44) _ = _
       simp only [Act.put, List.setIfInBounds_toArray, List.set_cons_zero, List.set_cons_succ, i64_w, i32_w]
       rfl
      refine pure_ (i := 4) (N := some 45) (v := ?_) (a' := ?_) #[true, true, true, true, true] rfl rfl (by kernel_rfl) (fun _ _ _ h => h) (Or.inl ⟨by rfl, ?_⟩) ?_ ?_
      rotate_left
      ·intro w'
       go_simp
       with_reducible rfl
      rotate_left
      ·simp only [Act.put, List.setIfInBounds_toArray, List.set_cons_zero, List.set_cons_succ, i64_w, i32_w]
       rfl
      refine done_ (by kernel_rfl) ?_
      have hnb65 := NB327_311.out
      have hnc65 := NB311_327.out
      have hnb66 := NB327_322.out
      have hnc66 := NB322_327.out
      have hnb67 := NB327_333.out
      have hnc67 := NB333_327.out
      have hcz68_0 : w64.cell? ⟨gb327, 0, none⟩ = some (.int .i64 t323) := (blk_cell BK327.out 0).trans rfl
      have hcz68_1 : w64.cell? ⟨gb327, 1, none⟩ = some (.slice Ao29 t324.length co29) := (blk_cell BK327.out 1).trans rfl
      have hfz68_0 := blk_frozen BK327.out 0
      have hfz68_1 := blk_frozen BK327.out 1
      go_upto_region 14 with (first | ((with_reducible refine gate_callee (f := 20) rfl ?_); refine goesL_ (some 48) rfl rfl Try.func20 (by kernel_rfl) rfl #[.agg #[.int .i64 t323, .slice Ao29 t324.length co29], .int .i64 1] rfl (by (try simp only [List.map_toArray, List.map_cons, List.map_nil]); first | done | rfl | (simp only [List.length_drop, List.length_take]; rfl)) ?_; (with_reducible refine (laws_markCyclo.calls kj10 t323 (fun k_ => some k_ = (.slice Ao29 t324.length co29 : Value).ownBlock) (.slice Ao29 t324.length co29) t324 1 t340 t341 w _ ?side1 ?side2 A59.out).mono ?_); (case side1 => repeat (first | (with_reducible first | exact HB.out | apply below_alloc | apply pw_below_drewN | apply below_drew1 | refine below_set ?_ GE311.out | refine below_set ?_ GE322.out | refine below_set ?_ GE327.out | refine below_set ?_ GE333.out) | exact HB.out)); (case side2 => exact Kd.R_tight rfl HO_328001.out); rintro e w69 ⟨rfl, hy0, hb, hkp⟩; refine ⟨_, rfl, ?_⟩; have n0_ := Aside0.mk (Kd.R_mono (ok' := fun k_ => some k_ ≠ (.slice Ao29 t324.length co29 : Value).ownBlock ∧ some k_ ≠ (.slice Ao36 t329.length co36 : Value).ownBlock ∧ some k_ ≠ (.slice Ao63 t336.length co63 : Value).ownBlock) (Kd.R_keptB (HO_323001.out) hkp (fun k_ hk_ hs_ => (hk_.1.1) hs_)) (fun k_ hk_ => ⟨hk_.1.1.1, hk_.1.1.2, hk_.1.2⟩)); have n1_ := Aside0.mk (Kd.R_reok rfl hy0 (fun k_ e_ => HO_328001.out.1 k_ e_)); have n2_ := Aside0.mk (Kd.R_mono (ok' := fun k_ => some k_ ≠ (.slice Ao22 t318.length co22 : Value).ownBlock ∧ some k_ ≠ (.slice Ao29 t324.length co29 : Value).ownBlock ∧ some k_ ≠ (.slice Ao63 t336.length co63 : Value).ownBlock) (Kd.R_keptB (HO_334001.out) hkp (fun k_ hk_ hs_ => (hk_.1.2) hs_)) (fun k_ hk_ => ⟨hk_.1.1.1, hk_.1.1.2, hk_.1.2⟩)); have n3_ := Aside0.mk (blk_kept (by (with_reducible repeat (first | refine blk_drewN ?_ _ | refine blk_drew ?_ | refine blk_alloc ?_ _)); exact BK311.out) hkp (fun hs_ => (fun e_ => (Kd.R_ne HO_328001.out BK311.out (by decide)) e_) hs_)); have n4_ := Aside0.mk (blk_kept (by (with_reducible repeat (first | refine blk_drewN ?_ _ | refine blk_drew ?_ | refine blk_alloc ?_ _)); exact BK322.out) hkp (fun hs_ => (fun e_ => (Kd.R_ne HO_328001.out BK322.out (by decide)) e_) hs_)); have n5_ := Aside0.mk (blk_kept (by (with_reducible repeat (first | refine blk_drewN ?_ _ | refine blk_drew ?_ | refine blk_alloc ?_ _)); exact BK327.out) hkp (fun hs_ => (fun e_ => (Kd.R_ne HO_328001.out BK327.out (by decide)) e_) hs_)); have n6_ := Aside0.mk (blk_kept (by (with_reducible repeat (first | refine blk_drewN ?_ _ | refine blk_drew ?_ | refine blk_alloc ?_ _)); exact BK333.out) hkp (fun hs_ => (fun e_ => (Kd.R_ne HO_328001.out BK333.out (by decide)) e_) hs_)); have n7_ := Aside0.mk (Kd.R_mono (ok' := fun k_ => some k_ ≠ (.slice Ao22 t318.length co22 : Value).ownBlock ∧ some k_ ≠ (.slice Ao29 t324.length co29 : Value).ownBlock ∧ some k_ ≠ (.slice Ao36 t329.length co36 : Value).ownBlock) (Kd.R_keptB (HO338.out) hkp (fun k_ hk_ hs_ => (hk_.1.2) hs_)) (fun k_ hk_ => ⟨hk_.1.1.1.2, hk_.1.1.2, hk_.1.2⟩)); have n8_ := Aside0.mk (hb); clear HO_323001; clear HO_328001; clear HO_334001; clear BK311; clear BK322; clear BK327; clear BK333; clear HO338; clear HB; have HO_323001 := n0_; have HO_328001 := n1_; have HO_334001 := n2_; have BK311 := n3_; have BK322 := n4_; have BK327 := n5_; have BK333 := n6_; have HO338 := n7_; have HB := n8_; clear n0_ n1_ n2_ n3_ n4_ n5_ n6_ n7_ n8_; (try clear hb); (try clear hkp); (try clear hy0)))
      (try simp only [Act.put, List.setIfInBounds_toArray, List.set_cons_zero, List.set_cons_succ])
      go_cut [61] (fun v61 wc => ∃ (kq : Nat) (x61_59 : Bool), v61 = .bool x61_59 ∧ Aside0 (laws_FnExactConjugateOf.j1 kq t321 x61_59 a0_0 l0_1 t317 t318 t328 t329 = some r) ∧ Aside0 (kq ≤ kj10) ∧ Aside0 (Kd.R (Kd.int .i64) 2 wc w.heap.size (fun k_ => some k_ ≠ ((.slice Ao29 t324.length co29) : Value).ownBlock ∧ some k_ ≠ ((.slice Ao36 t329.length co36) : Value).ownBlock) (.slice Ao22 t318.length co22) t318) ∧ Aside0 (Kd.R (Kd.int .i64) 2 wc w.heap.size (fun k_ => some k_ ≠ ((.slice Ao22 t318.length co22) : Value).ownBlock ∧ some k_ ≠ ((.slice Ao36 t329.length co36) : Value).ownBlock) (.slice Ao29 t324.length co29) t341) ∧ Aside0 (Kd.R (Kd.int .i64) 2 wc w.heap.size (fun k_ => some k_ ≠ ((.slice Ao22 t318.length co22) : Value).ownBlock ∧ some k_ ≠ ((.slice Ao29 t324.length co29) : Value).ownBlock) (.slice Ao36 t329.length co36) t329) ∧ Aside0 (wc.heap[gb311]? = some (.cells #[.int .i64 a0_0, (.slice A0_1 l0_1.length c0_1)] 24 (0, 0))) ∧ Aside0 (wc.heap[gb322]? = some (.cells #[.int .i64 t317, (.slice Ao22 t318.length co22)] 28 (0, 0))) ∧ Aside0 (wc.heap[gb327]? = some (.cells #[.int .i64 t323, (.slice Ao29 t324.length co29)] 28 (0, 0))) ∧ Aside0 (wc.heap[gb333]? = some (.cells #[.int .i64 t328, (.slice Ao36 t329.length co36)] 28 (0, 0))) ∧ Aside0 (Below w.heap.size w wc))
      case first =>
       have H := HC60.out
       clear HC60
       by_cases c70 : t340 < 0
       ·rw [if_pos c70] at H
        have c70b0 : decide (t340 < 0) = true := decide_eq_true c70
        clear c70
        (first | rw [c70b0] | (simp only [i64_w, i32_w]; rw [c70b0]) | skip)
        have H' := Aside0.mk H
        clear H
        go_wp2
        go_meet
        case rel => exact ⟨_, (true), (by first | rfl | (simp; done) | (simp [*]; done)), H', ⟨by have := HJ10.out; first | omega | exact Nat.le_refl _⟩, ⟨by (with_reducible repeat (first | apply Kd.R_alloc | apply Kd.R_drewN | apply Kd.R_drew)); exact Kd.R_mono HO_323001.out (fun _ hk => ⟨hk.1, hk.2.1⟩)⟩, ⟨by (with_reducible repeat (first | apply Kd.R_alloc | apply Kd.R_drewN | apply Kd.R_drew)); exact Kd.R_mono HO_328001.out (fun _ hk => ⟨hk.1.1, hk.1.2⟩)⟩, ⟨by (with_reducible repeat (first | apply Kd.R_alloc | apply Kd.R_drewN | apply Kd.R_drew)); exact Kd.R_mono HO_334001.out (fun _ hk => ⟨hk.1, hk.2.1⟩)⟩, ⟨by (with_reducible repeat (first | refine blk_drewN ?_ _ | refine blk_drew ?_ | refine blk_alloc ?_ _)); exact BK311.out⟩, ⟨by (with_reducible repeat (first | refine blk_drewN ?_ _ | refine blk_drew ?_ | refine blk_alloc ?_ _)); exact BK322.out⟩, ⟨by (with_reducible repeat (first | refine blk_drewN ?_ _ | refine blk_drew ?_ | refine blk_alloc ?_ _)); exact BK327.out⟩, ⟨by (with_reducible repeat (first | refine blk_drewN ?_ _ | refine blk_drew ?_ | refine blk_alloc ?_ _)); exact BK333.out⟩, ⟨by repeat (first | (with_reducible first | exact HB.out | apply below_alloc | apply pw_below_drewN | apply below_drew1 | refine below_set ?_ GE311.out | refine below_set ?_ GE322.out | refine below_set ?_ GE327.out | refine below_set ?_ GE333.out) | exact HB.out)⟩⟩
       ·rw [if_neg c70] at H
        have c70b0 : decide (t340 < 0) = false := decide_eq_false c70
        clear c70
        (first | rw [c70b0] | (simp only [i64_w, i32_w]; rw [c70b0]) | skip)
        replace H := Option.bind_eq_some_iff.mp H
        obtain ⟨t342, A710, H⟩ := H
        replace H : (if t342 = true then (laws_FnExactConjugateOf.j1 kj10 t321 (t332 != t321) a0_0 l0_1 t317 t318 t328 t329) else (laws_FnExactConjugateOf.j1 kj10 t321 true a0_0 l0_1 t317 t318 t328 t329)) = some r := H
        have A71 := Aside0.mk A710
        clear A710
        by_cases c72 : t342 = true
        ·subst c72
         have H1 : (laws_FnExactConjugateOf.j1 kj10 t321 (t332 != t321) a0_0 l0_1 t317 t318 t328 t329) = some r := by rw [if_pos rfl] at H; exact H
         clear H
         have H := H1
         clear H1
         have H' := Aside0.mk H
         clear H
         have hnb73 := NB333_311.out
         have hnc73 := NB311_333.out
         have hnb74 := NB333_322.out
         have hnc74 := NB322_333.out
         have hnb75 := NB333_327.out
         have hnc75 := NB327_333.out
         have hcz76_0 : w69.cell? ⟨gb333, 0, none⟩ = some (.int .i64 t328) := (blk_cell BK333.out 0).trans rfl
         have hcz76_1 : w69.cell? ⟨gb333, 1, none⟩ = some (.slice Ao36 t329.length co36) := (blk_cell BK333.out 1).trans rfl
         have hfz76_0 := blk_frozen BK333.out 0
         have hfz76_1 := blk_frozen BK333.out 1
         have hnb77 := NB322_311.out
         have hnc77 := NB311_322.out
         have hnb78 := NB322_327.out
         have hnc78 := NB327_322.out
         have hcz79_0 : w69.cell? ⟨gb322, 0, none⟩ = some (.int .i64 t317) := (blk_cell BK322.out 0).trans rfl
         have hcz79_1 : w69.cell? ⟨gb322, 1, none⟩ = some (.slice Ao22 t318.length co22) := (blk_cell BK322.out 1).trans rfl
         have hfz79_0 := blk_frozen BK322.out 0
         have hfz79_1 := blk_frozen BK322.out 1
         go_wp2_with (first | (go_at_call 17; (with_reducible refine (laws_eqCyclo.calls kj10 t328 _ _ t329 t317 _ _ t318 true _ ?side1 ?side2 ?side3 ?side4 A71.out).mono ?_); (case side1 => repeat (first | exact (Kd.R_reads' HO_334001.out).2.2 | (with_reducible refine Kd.C_alloc ?_ _) | (with_reducible refine Kd.C_drewN ?_ _) | (with_reducible refine Kd.C_drew ?_))); (case side2 => exact (Kd.R_reads' HO_334001.out).2.1); (case side3 => repeat (first | exact (Kd.R_reads' HO_323001.out).2.2 | (with_reducible refine Kd.C_alloc ?_ _) | (with_reducible refine Kd.C_drewN ?_ _) | (with_reducible refine Kd.C_drew ?_))); (case side4 => exact (Kd.R_reads' HO_323001.out).2.1); rintro e w80 ⟨rfl, hb⟩; have n0_ := Aside0.mk (Kd.R_below (by (with_reducible repeat (first | apply Kd.R_alloc | apply Kd.R_drewN | apply Kd.R_drew)); exact HO_323001.out) hb); have n1_ := Aside0.mk (Kd.R_below (by (with_reducible repeat (first | apply Kd.R_alloc | apply Kd.R_drewN | apply Kd.R_drew)); exact HO_328001.out) hb); have n2_ := Aside0.mk (Kd.R_below (by (with_reducible repeat (first | apply Kd.R_alloc | apply Kd.R_drewN | apply Kd.R_drew)); exact HO_334001.out) hb); have n3_ := Aside0.mk (Kd.R_below (by (with_reducible repeat (first | apply Kd.R_alloc | apply Kd.R_drewN | apply Kd.R_drew)); exact HO338.out) hb); have n4_ := Aside0.mk (blk_below (g := gb311) (o := .cells #[.int .i64 a0_0, .slice A0_1 l0_1.length c0_1] 24 (0, 0)) (by (with_reducible repeat (first | refine blk_drewN ?_ _ | refine blk_drew ?_ | refine blk_alloc ?_ _)); exact BK311.out) hb); have n5_ := Aside0.mk (blk_below (g := gb322) (o := .cells #[.int .i64 t317, .slice Ao22 t318.length co22] 28 (0, 0)) (by (with_reducible repeat (first | refine blk_drewN ?_ _ | refine blk_drew ?_ | refine blk_alloc ?_ _)); exact BK322.out) hb); have n6_ := Aside0.mk (blk_below (g := gb327) (o := .cells #[.int .i64 t323, .slice Ao29 t324.length co29] 28 (0, 0)) (by (with_reducible repeat (first | refine blk_drewN ?_ _ | refine blk_drew ?_ | refine blk_alloc ?_ _)); exact BK327.out) hb); have n7_ := Aside0.mk (blk_below (g := gb333) (o := .cells #[.int .i64 t328, .slice Ao36 t329.length co36] 28 (0, 0)) (by (with_reducible repeat (first | refine blk_drewN ?_ _ | refine blk_drew ?_ | refine blk_alloc ?_ _)); exact BK333.out) hb); have n8_ := Aside0.mk (below_step (by repeat (first | (with_reducible first | exact HB.out | apply below_alloc | apply pw_below_drewN | apply below_drew1 | refine below_set ?_ GE311.out | refine below_set ?_ GE322.out | refine below_set ?_ GE327.out | refine below_set ?_ GE333.out) | exact HB.out)) hb); clear HO_323001; clear HO_328001; clear HO_334001; clear HO338; clear BK311; clear BK322; clear BK327; clear BK333; clear HB; have HO_323001 := n0_; have HO_328001 := n1_; have HO_334001 := n2_; have HO338 := n3_; have BK311 := n4_; have BK322 := n5_; have BK327 := n6_; have BK333 := n7_; have HB := n8_; clear n0_ n1_ n2_ n3_ n4_ n5_ n6_ n7_ n8_; (try clear hb)))
         go_meet
         case rel => exact ⟨_, ((t332 != t321)), (by first | rfl | (simp; done) | (simp [*]; done)), H', ⟨by have := HJ10.out; first | omega | exact Nat.le_refl _⟩, ⟨by (with_reducible repeat (first | apply Kd.R_alloc | apply Kd.R_drewN | apply Kd.R_drew)); exact Kd.R_mono HO_323001.out (fun _ hk => ⟨hk.1, hk.2.1⟩)⟩, ⟨by (with_reducible repeat (first | apply Kd.R_alloc | apply Kd.R_drewN | apply Kd.R_drew)); exact Kd.R_mono HO_328001.out (fun _ hk => ⟨hk.1.1, hk.1.2⟩)⟩, ⟨by (with_reducible repeat (first | apply Kd.R_alloc | apply Kd.R_drewN | apply Kd.R_drew)); exact Kd.R_mono HO_334001.out (fun _ hk => ⟨hk.1, hk.2.1⟩)⟩, ⟨by (with_reducible repeat (first | refine blk_drewN ?_ _ | refine blk_drew ?_ | refine blk_alloc ?_ _)); exact BK311.out⟩, ⟨by (with_reducible repeat (first | refine blk_drewN ?_ _ | refine blk_drew ?_ | refine blk_alloc ?_ _)); exact BK322.out⟩, ⟨by (with_reducible repeat (first | refine blk_drewN ?_ _ | refine blk_drew ?_ | refine blk_alloc ?_ _)); exact BK327.out⟩, ⟨by (with_reducible repeat (first | refine blk_drewN ?_ _ | refine blk_drew ?_ | refine blk_alloc ?_ _)); exact BK333.out⟩, ⟨by repeat (first | (with_reducible first | exact HB.out | apply below_alloc | apply pw_below_drewN | apply below_drew1 | refine below_set ?_ GE311.out | refine below_set ?_ GE322.out | refine below_set ?_ GE327.out | refine below_set ?_ GE333.out) | exact HB.out)⟩⟩
        ·replace c72 := Bool.eq_false_iff.mpr c72
         subst c72
         have H1 : (laws_FnExactConjugateOf.j1 kj10 t321 true a0_0 l0_1 t317 t318 t328 t329) = some r := by rw [if_neg (show ¬ (false = true) by decide)] at H; exact H
         clear H
         have H := H1
         clear H1
         have H' := Aside0.mk H
         clear H
         have hnb81 := NB333_311.out
         have hnc81 := NB311_333.out
         have hnb82 := NB333_322.out
         have hnc82 := NB322_333.out
         have hnb83 := NB333_327.out
         have hnc83 := NB327_333.out
         have hcz84_0 : w69.cell? ⟨gb333, 0, none⟩ = some (.int .i64 t328) := (blk_cell BK333.out 0).trans rfl
         have hcz84_1 : w69.cell? ⟨gb333, 1, none⟩ = some (.slice Ao36 t329.length co36) := (blk_cell BK333.out 1).trans rfl
         have hfz84_0 := blk_frozen BK333.out 0
         have hfz84_1 := blk_frozen BK333.out 1
         have hnb85 := NB322_311.out
         have hnc85 := NB311_322.out
         have hnb86 := NB322_327.out
         have hnc86 := NB327_322.out
         have hcz87_0 : w69.cell? ⟨gb322, 0, none⟩ = some (.int .i64 t317) := (blk_cell BK322.out 0).trans rfl
         have hcz87_1 : w69.cell? ⟨gb322, 1, none⟩ = some (.slice Ao22 t318.length co22) := (blk_cell BK322.out 1).trans rfl
         have hfz87_0 := blk_frozen BK322.out 0
         have hfz87_1 := blk_frozen BK322.out 1
         go_wp2_with (first | (go_at_call 17; (with_reducible refine (laws_eqCyclo.calls kj10 t328 _ _ t329 t317 _ _ t318 false _ ?side1 ?side2 ?side3 ?side4 A71.out).mono ?_); (case side1 => repeat (first | exact (Kd.R_reads' HO_334001.out).2.2 | (with_reducible refine Kd.C_alloc ?_ _) | (with_reducible refine Kd.C_drewN ?_ _) | (with_reducible refine Kd.C_drew ?_))); (case side2 => exact (Kd.R_reads' HO_334001.out).2.1); (case side3 => repeat (first | exact (Kd.R_reads' HO_323001.out).2.2 | (with_reducible refine Kd.C_alloc ?_ _) | (with_reducible refine Kd.C_drewN ?_ _) | (with_reducible refine Kd.C_drew ?_))); (case side4 => exact (Kd.R_reads' HO_323001.out).2.1); rintro e w88 ⟨rfl, hb⟩; have n0_ := Aside0.mk (Kd.R_below (by (with_reducible repeat (first | apply Kd.R_alloc | apply Kd.R_drewN | apply Kd.R_drew)); exact HO_323001.out) hb); have n1_ := Aside0.mk (Kd.R_below (by (with_reducible repeat (first | apply Kd.R_alloc | apply Kd.R_drewN | apply Kd.R_drew)); exact HO_328001.out) hb); have n2_ := Aside0.mk (Kd.R_below (by (with_reducible repeat (first | apply Kd.R_alloc | apply Kd.R_drewN | apply Kd.R_drew)); exact HO_334001.out) hb); have n3_ := Aside0.mk (Kd.R_below (by (with_reducible repeat (first | apply Kd.R_alloc | apply Kd.R_drewN | apply Kd.R_drew)); exact HO338.out) hb); have n4_ := Aside0.mk (blk_below (g := gb311) (o := .cells #[.int .i64 a0_0, .slice A0_1 l0_1.length c0_1] 24 (0, 0)) (by (with_reducible repeat (first | refine blk_drewN ?_ _ | refine blk_drew ?_ | refine blk_alloc ?_ _)); exact BK311.out) hb); have n5_ := Aside0.mk (blk_below (g := gb322) (o := .cells #[.int .i64 t317, .slice Ao22 t318.length co22] 28 (0, 0)) (by (with_reducible repeat (first | refine blk_drewN ?_ _ | refine blk_drew ?_ | refine blk_alloc ?_ _)); exact BK322.out) hb); have n6_ := Aside0.mk (blk_below (g := gb327) (o := .cells #[.int .i64 t323, .slice Ao29 t324.length co29] 28 (0, 0)) (by (with_reducible repeat (first | refine blk_drewN ?_ _ | refine blk_drew ?_ | refine blk_alloc ?_ _)); exact BK327.out) hb); have n7_ := Aside0.mk (blk_below (g := gb333) (o := .cells #[.int .i64 t328, .slice Ao36 t329.length co36] 28 (0, 0)) (by (with_reducible repeat (first | refine blk_drewN ?_ _ | refine blk_drew ?_ | refine blk_alloc ?_ _)); exact BK333.out) hb); have n8_ := Aside0.mk (below_step (by repeat (first | (with_reducible first | exact HB.out | apply below_alloc | apply pw_below_drewN | apply below_drew1 | refine below_set ?_ GE311.out | refine below_set ?_ GE322.out | refine below_set ?_ GE327.out | refine below_set ?_ GE333.out) | exact HB.out)) hb); clear HO_323001; clear HO_328001; clear HO_334001; clear HO338; clear BK311; clear BK322; clear BK327; clear BK333; clear HB; have HO_323001 := n0_; have HO_328001 := n1_; have HO_334001 := n2_; have HO338 := n3_; have BK311 := n4_; have BK322 := n5_; have BK327 := n6_; have BK333 := n7_; have HB := n8_; clear n0_ n1_ n2_ n3_ n4_ n5_ n6_ n7_ n8_; (try clear hb)))
         go_meet
         case rel => exact ⟨_, (true), (by first | rfl | (simp; done) | (simp [*]; done)), H', ⟨by have := HJ10.out; first | omega | exact Nat.le_refl _⟩, ⟨by (with_reducible repeat (first | apply Kd.R_alloc | apply Kd.R_drewN | apply Kd.R_drew)); exact Kd.R_mono HO_323001.out (fun _ hk => ⟨hk.1, hk.2.1⟩)⟩, ⟨by (with_reducible repeat (first | apply Kd.R_alloc | apply Kd.R_drewN | apply Kd.R_drew)); exact Kd.R_mono HO_328001.out (fun _ hk => ⟨hk.1.1, hk.1.2⟩)⟩, ⟨by (with_reducible repeat (first | apply Kd.R_alloc | apply Kd.R_drewN | apply Kd.R_drew)); exact Kd.R_mono HO_334001.out (fun _ hk => ⟨hk.1, hk.2.1⟩)⟩, ⟨by (with_reducible repeat (first | refine blk_drewN ?_ _ | refine blk_drew ?_ | refine blk_alloc ?_ _)); exact BK311.out⟩, ⟨by (with_reducible repeat (first | refine blk_drewN ?_ _ | refine blk_drew ?_ | refine blk_alloc ?_ _)); exact BK322.out⟩, ⟨by (with_reducible repeat (first | refine blk_drewN ?_ _ | refine blk_drew ?_ | refine blk_alloc ?_ _)); exact BK327.out⟩, ⟨by (with_reducible repeat (first | refine blk_drewN ?_ _ | refine blk_drew ?_ | refine blk_alloc ?_ _)); exact BK333.out⟩, ⟨by repeat (first | (with_reducible first | exact HB.out | apply below_alloc | apply pw_below_drewN | apply below_drew1 | refine below_set ?_ GE311.out | refine below_set ?_ GE322.out | refine below_set ?_ GE327.out | refine below_set ?_ GE333.out) | exact HB.out)⟩⟩
      case rest =>
       clear HC60
       try clear c3
       try clear c3b0
       try clear c38
       try clear c55
       try clear c58
       try clear c70
       try clear c70b0
       try clear c72
       try clear hcz13_0
       try clear hcz13_1
       try clear hcz15_0
       try clear hcz15_1
       try clear hcz21_0
       try clear hcz21_1
       try clear hcz23_0
       try clear hcz23_1
       try clear hcz28_0
       try clear hcz28_1
       try clear hcz35_0
       try clear hcz35_1
       try clear hcz42_0
       try clear hcz42_1
       try clear hcz45_0
       try clear hcz45_1
       try clear hcz50_0
       try clear hcz50_1
       try clear hcz53_0
       try clear hcz53_1
       try clear hcz5_0
       try clear hcz5_1
       try clear hcz68_0
       try clear hcz68_1
       try clear hcz76_0
       try clear hcz76_1
       try clear hcz79_0
       try clear hcz79_1
       try clear hcz84_0
       try clear hcz84_1
       try clear hcz87_0
       try clear hcz87_1
       try clear hfz13_0
       try clear hfz13_1
       try clear hfz15_0
       try clear hfz15_1
       try clear hfz21_0
       try clear hfz21_1
       try clear hfz23_0
       try clear hfz23_1
       try clear hfz28_0
       try clear hfz28_1
       try clear hfz35_0
       try clear hfz35_1
       try clear hfz42_0
       try clear hfz42_1
       try clear hfz45_0
       try clear hfz45_1
       try clear hfz50_0
       try clear hfz50_1
       try clear hfz53_0
       try clear hfz53_1
       try clear hfz5_0
       try clear hfz5_1
       try clear hfz68_0
       try clear hfz68_1
       try clear hfz76_0
       try clear hfz76_1
       try clear hfz79_0
       try clear hfz79_1
       try clear hfz84_0
       try clear hfz84_1
       try clear hfz87_0
       try clear hfz87_1
       obtain ⟨kq, x61_59, rfl, HA, HJ59, HO_323001, HO_328001, HO_334001, BK311, BK322, BK327, BK333, HB⟩ := hcut
       have hl328001_59 := (Kd.R_reads' HO_328001.out).1
       rw [hl328001_59] at HO_328001
       (try simp only [hl328001_59])
       (try simp only [hl328001_59] at BK311)
       (try simp only [hl328001_59] at BK322)
       (try simp only [hl328001_59] at BK327)
       (try simp only [hl328001_59] at BK333)
       (try simp only [hl328001_59] at HO_323001)
       (try simp only [hl328001_59] at HO_334001)
       cases kq with
       | zero => exact absurd HA.out (by simp [laws_FnExactConjugateOf.j1])
       | succ kj59 =>
        have H := HA.out
        clear HA
        simp only [laws_FnExactConjugateOf.j1] at H
        by_cases c89 : x61_59 = true
        ·subst c89
         have H1 : (some false) = some r := by rw [if_pos rfl] at H; exact H
         clear H
         have H := H1
         clear H1
         obtain rfl := Option.some.inj H
         go_wp2
         go_ret
         exact ⟨by first | rfl | (simp [errW_none, errW_some] <;> rfl) | (simp [*, errW_none, errW_some] <;> rfl), by repeat (first | (with_reducible first | exact HB.out | apply below_alloc | apply pw_below_drewN | apply below_drew1 | refine below_set ?_ GE311.out | refine below_set ?_ GE322.out | refine below_set ?_ GE327.out | refine below_set ?_ GE333.out) | exact HB.out)⟩
        ·replace c89 := Bool.eq_false_iff.mpr c89
         subst c89
         have H1 : ((laws_markCyclo.f kj59 t328 t329 1).bind fun bt343 => ((laws_heldCyclo.f kj59 t328 bt343.2 1).bind fun t345 => (if t345 < 0 then (some false) else (if t345 = bt343.1 then ((laws_toCyclo.f kj59 a0_0 l0_1).bind fun bt346 => ((impl_ConjugateOf.f kj59 bt346.1 bt346.2).bind fun bt350 => ((laws_eqCyclo.f kj59 bt350.1 bt350.2.1 t317 t318).bind fun t356 => (if t356 = true then (laws_FnExactConjugateOf.j2 kj59 bt343.1 (bt350.2.2 != t321) t328 bt343.2) else (laws_FnExactConjugateOf.j2 kj59 bt343.1 true t328 bt343.2))))) else (some false))))) = some r := by rw [if_neg (show ¬ (false = true) by decide)] at H; exact H
         clear H
         have H := H1
         clear H1
         replace H := Option.bind_eq_some_iff.mp H
         obtain ⟨⟨t343, t344⟩, A900, H⟩ := H
         replace H : ((laws_heldCyclo.f kj59 t328 t344 1).bind fun t345 => (if t345 < 0 then (some false) else (if t345 = t343 then ((laws_toCyclo.f kj59 a0_0 l0_1).bind fun bt346 => ((impl_ConjugateOf.f kj59 bt346.1 bt346.2).bind fun bt350 => ((laws_eqCyclo.f kj59 bt350.1 bt350.2.1 t317 t318).bind fun t356 => (if t356 = true then (laws_FnExactConjugateOf.j2 kj59 t343 (bt350.2.2 != t321) t328 t344) else (laws_FnExactConjugateOf.j2 kj59 t343 true t328 t344))))) else (some false)))) = some r := H
         have A90 := Aside0.mk A900
         clear A900
         replace H := Option.bind_eq_some_iff.mp H
         obtain ⟨t345, A910, H⟩ := H
         replace H : (if t345 < 0 then (some false) else (if t345 = t343 then ((laws_toCyclo.f kj59 a0_0 l0_1).bind fun bt346 => ((impl_ConjugateOf.f kj59 bt346.1 bt346.2).bind fun bt350 => ((laws_eqCyclo.f kj59 bt350.1 bt350.2.1 t317 t318).bind fun t356 => (if t356 = true then (laws_FnExactConjugateOf.j2 kj59 t343 (bt350.2.2 != t321) t328 t344) else (laws_FnExactConjugateOf.j2 kj59 t343 true t328 t344))))) else (some false))) = some r := H
         have A91 := Aside0.mk A910
         clear A910
         by_cases c92 : t345 < 0
         ·rw [if_pos c92] at H
          have c92b0 : decide (t345 < 0) = true := decide_eq_true c92
          clear c92
          obtain rfl := Option.some.inj H
          have hnb93 := NB333_311.out
          have hnc93 := NB311_333.out
          have hnb94 := NB333_322.out
          have hnc94 := NB322_333.out
          have hnb95 := NB333_327.out
          have hnc95 := NB327_333.out
          have hcz96_0 : wc.cell? ⟨gb333, 0, none⟩ = some (.int .i64 t328) := (blk_cell BK333.out 0).trans rfl
          have hcz96_1 : wc.cell? ⟨gb333, 1, none⟩ = some (.slice Ao36 t329.length co36) := (blk_cell BK333.out 1).trans rfl
          have hfz96_0 := blk_frozen BK333.out 0
          have hfz96_1 := blk_frozen BK333.out 1
          go_wp2_with (first | ((with_reducible refine gate_callee (f := 20) rfl ?_); refine goesL_ (some 64) rfl rfl Try.func20 (by kernel_rfl) rfl #[.agg #[.int .i64 t328, .slice Ao36 t329.length co36], .int .i64 1] rfl (by (try simp only [List.map_toArray, List.map_cons, List.map_nil]); first | done | rfl | (simp only [List.length_drop, List.length_take]; rfl)) ?_; (with_reducible refine (laws_markCyclo.calls kj59 t328 (fun k_ => some k_ = (.slice Ao36 t329.length co36 : Value).ownBlock) (.slice Ao36 t329.length co36) t329 1 t343 t344 w _ ?side1 ?side2 A90.out).mono ?_); (case side1 => repeat (first | (with_reducible first | exact HB.out | apply below_alloc | apply pw_below_drewN | apply below_drew1 | refine below_set ?_ GE311.out | refine below_set ?_ GE322.out | refine below_set ?_ GE327.out | refine below_set ?_ GE333.out) | exact HB.out)); (case side2 => exact Kd.R_tight rfl HO_334001.out); rintro e w97 ⟨rfl, hy0, hb, hkp⟩; refine ⟨_, rfl, ?_⟩; have n0_ := Aside0.mk (Kd.R_mono (ok' := fun k_ => some k_ ≠ (.slice Ao29 t341.length co29 : Value).ownBlock ∧ some k_ ≠ (.slice Ao36 t329.length co36 : Value).ownBlock) (Kd.R_keptB (HO_323001.out) hkp (fun k_ hk_ hs_ => (hk_.2) hs_)) (fun k_ hk_ => ⟨hk_.1.1, hk_.1.2⟩)); have n1_ := Aside0.mk (Kd.R_mono (ok' := fun k_ => some k_ ≠ (.slice Ao22 t318.length co22 : Value).ownBlock ∧ some k_ ≠ (.slice Ao36 t329.length co36 : Value).ownBlock) (Kd.R_keptB (HO_328001.out) hkp (fun k_ hk_ hs_ => (hk_.2) hs_)) (fun k_ hk_ => ⟨hk_.1.1, hk_.1.2⟩)); have n2_ := Aside0.mk (Kd.R_reok rfl hy0 (fun k_ e_ => HO_334001.out.1 k_ e_)); have n3_ := Aside0.mk (blk_kept (by (with_reducible repeat (first | refine blk_drewN ?_ _ | refine blk_drew ?_ | refine blk_alloc ?_ _)); exact BK311.out) hkp (fun hs_ => (fun e_ => (Kd.R_ne HO_334001.out BK311.out (by decide)) e_) hs_)); have n4_ := Aside0.mk (blk_kept (by (with_reducible repeat (first | refine blk_drewN ?_ _ | refine blk_drew ?_ | refine blk_alloc ?_ _)); exact BK322.out) hkp (fun hs_ => (fun e_ => (Kd.R_ne HO_334001.out BK322.out (by decide)) e_) hs_)); have n5_ := Aside0.mk (blk_kept (by (with_reducible repeat (first | refine blk_drewN ?_ _ | refine blk_drew ?_ | refine blk_alloc ?_ _)); exact BK327.out) hkp (fun hs_ => (fun e_ => (Kd.R_ne HO_334001.out BK327.out (by decide)) e_) hs_)); have n6_ := Aside0.mk (blk_kept (by (with_reducible repeat (first | refine blk_drewN ?_ _ | refine blk_drew ?_ | refine blk_alloc ?_ _)); exact BK333.out) hkp (fun hs_ => (fun e_ => (Kd.R_ne HO_334001.out BK333.out (by decide)) e_) hs_)); have n7_ := Aside0.mk (hb); clear HO_323001; clear HO_328001; clear HO_334001; clear BK311; clear BK322; clear BK327; clear BK333; clear HB; have HO_323001 := n0_; have HO_328001 := n1_; have HO_334001 := n2_; have BK311 := n3_; have BK322 := n4_; have BK327 := n5_; have BK333 := n6_; have HB := n7_; clear n0_ n1_ n2_ n3_ n4_ n5_ n6_ n7_; (try clear hb); (try clear hkp); (try clear hy0); have hcz98_0 : w97.cell? ⟨gb333, 0, none⟩ = some (.int .i64 t328) := (blk_cell BK333.out 0).trans rfl; have hcz98_1 : w97.cell? ⟨gb333, 1, none⟩ = some (.slice Ao36 t329.length co36) := (blk_cell BK333.out 1).trans rfl; have hfz98_0 := blk_frozen BK333.out 0; have hfz98_1 := blk_frozen BK333.out 1) | ((with_reducible refine gate_callee (f := 21) rfl ?_); refine goesL_ (some 67) rfl rfl Try.func21 (by kernel_rfl) rfl #[.agg #[.int .i64 t328, .slice Ao36 t344.length co36], .int .i64 1] rfl (by (try simp only [List.map_toArray, List.map_cons, List.map_nil]); first | done | (rw [show t344.length = t329.length from (Kd.R_reads' HO_334001.out).1.symm] <;> rfl) | rfl | (simp only [List.length_drop, List.length_take]; rfl)) ?_; (with_reducible refine (laws_heldCyclo.calls kj59 t328 _ _ t344 1 t345 _ ?side1 ?side2 A91.out).mono ?_); (case side1 => repeat (first | exact (Kd.R_reads' HO_334001.out).2.2 | (with_reducible refine Kd.C_alloc ?_ _) | (with_reducible refine Kd.C_drewN ?_ _) | (with_reducible refine Kd.C_drew ?_))); (case side2 => rw [show t344.length = t329.length from (Kd.R_reads' HO_334001.out).1.symm]; exact (Kd.R_reads' HO_334001.out).2.1); rintro e w99 ⟨rfl, hb⟩; refine ⟨_, rfl, ?_⟩; have n0_ := Aside0.mk (Kd.R_below (by (with_reducible repeat (first | apply Kd.R_alloc | apply Kd.R_drewN | apply Kd.R_drew)); exact HO_323001.out) hb); have n1_ := Aside0.mk (Kd.R_below (by (with_reducible repeat (first | apply Kd.R_alloc | apply Kd.R_drewN | apply Kd.R_drew)); exact HO_328001.out) hb); have n2_ := Aside0.mk (Kd.R_below (by (with_reducible repeat (first | apply Kd.R_alloc | apply Kd.R_drewN | apply Kd.R_drew)); exact HO_334001.out) hb); have n3_ := Aside0.mk (blk_below (g := gb311) (o := .cells #[.int .i64 a0_0, .slice A0_1 l0_1.length c0_1] 24 (0, 0)) (by (with_reducible repeat (first | refine blk_drewN ?_ _ | refine blk_drew ?_ | refine blk_alloc ?_ _)); exact BK311.out) hb); have n4_ := Aside0.mk (blk_below (g := gb322) (o := .cells #[.int .i64 t317, .slice Ao22 t318.length co22] 28 (0, 0)) (by (with_reducible repeat (first | refine blk_drewN ?_ _ | refine blk_drew ?_ | refine blk_alloc ?_ _)); exact BK322.out) hb); have n5_ := Aside0.mk (blk_below (g := gb327) (o := .cells #[.int .i64 t323, .slice Ao29 t341.length co29] 28 (0, 0)) (by (with_reducible repeat (first | refine blk_drewN ?_ _ | refine blk_drew ?_ | refine blk_alloc ?_ _)); exact BK327.out) hb); have n6_ := Aside0.mk (blk_below (g := gb333) (o := .cells #[.int .i64 t328, .slice Ao36 t329.length co36] 28 (0, 0)) (by (with_reducible repeat (first | refine blk_drewN ?_ _ | refine blk_drew ?_ | refine blk_alloc ?_ _)); exact BK333.out) hb); have n7_ := Aside0.mk (below_step (by repeat (first | (with_reducible first | exact HB.out | apply below_alloc | apply pw_below_drewN | apply below_drew1 | refine below_set ?_ GE311.out | refine below_set ?_ GE322.out | refine below_set ?_ GE327.out | refine below_set ?_ GE333.out) | exact HB.out)) hb); clear HO_323001; clear HO_328001; clear HO_334001; clear BK311; clear BK322; clear BK327; clear BK333; clear HB; have HO_323001 := n0_; have HO_328001 := n1_; have HO_334001 := n2_; have BK311 := n3_; have BK322 := n4_; have BK327 := n5_; have BK333 := n6_; have HB := n7_; clear n0_ n1_ n2_ n3_ n4_ n5_ n6_ n7_; (try clear hb)))
          go_ret
          exact ⟨by first | rfl | (simp [errW_none, errW_some] <;> rfl) | (simp [*, errW_none, errW_some] <;> rfl), by repeat (first | (with_reducible first | exact HB.out | apply below_alloc | apply pw_below_drewN | apply below_drew1 | refine below_set ?_ GE311.out | refine below_set ?_ GE322.out | refine below_set ?_ GE327.out | refine below_set ?_ GE333.out) | exact HB.out)⟩
         ·rw [if_neg c92] at H
          have c92b0 : decide (t345 < 0) = false := decide_eq_false c92
          clear c92
          by_cases c100 : t345 = t343
          ·rw [if_pos c100] at H
           have c100b0 : (t345 == t343) = true := beq_iff_eq.mpr c100
           have c100b1 : (t345 != t343) = false := bne_eq_false_iff_eq.mpr c100
           clear c100
           replace H := Option.bind_eq_some_iff.mp H
           obtain ⟨⟨t346, t347⟩, A1010, H⟩ := H
           replace H : ((impl_ConjugateOf.f kj59 t346 t347).bind fun bt350 => ((laws_eqCyclo.f kj59 bt350.1 bt350.2.1 t317 t318).bind fun t356 => (if t356 = true then (laws_FnExactConjugateOf.j2 kj59 t343 (bt350.2.2 != t321) t328 t344) else (laws_FnExactConjugateOf.j2 kj59 t343 true t328 t344)))) = some r := H
           have A101 := Aside0.mk A1010
           clear A1010
           replace H := Option.bind_eq_some_iff.mp H
           obtain ⟨⟨t350, t351, t354⟩, A1020, H⟩ := H
           replace H : ((laws_eqCyclo.f kj59 t350 t351 t317 t318).bind fun t356 => (if t356 = true then (laws_FnExactConjugateOf.j2 kj59 t343 (t354 != t321) t328 t344) else (laws_FnExactConjugateOf.j2 kj59 t343 true t328 t344))) = some r := H
           have A102 := Aside0.mk A1020
           clear A1020
           have HC103 := Aside0.mk H
           clear H
           have hnb104 := NB333_311.out
           have hnc104 := NB311_333.out
           have hnb105 := NB333_322.out
           have hnc105 := NB322_333.out
           have hnb106 := NB333_327.out
           have hnc106 := NB327_333.out
           have hcz107_0 : wc.cell? ⟨gb333, 0, none⟩ = some (.int .i64 t328) := (blk_cell BK333.out 0).trans rfl
           have hcz107_1 : wc.cell? ⟨gb333, 1, none⟩ = some (.slice Ao36 t329.length co36) := (blk_cell BK333.out 1).trans rfl
           have hfz107_0 := blk_frozen BK333.out 0
           have hfz107_1 := blk_frozen BK333.out 1
           go_upto_region 25 with (first | ((with_reducible refine gate_callee (f := 20) rfl ?_); refine goesL_ (some 64) rfl rfl Try.func20 (by kernel_rfl) rfl #[.agg #[.int .i64 t328, .slice Ao36 t329.length co36], .int .i64 1] rfl (by (try simp only [List.map_toArray, List.map_cons, List.map_nil]); first | done | rfl | (simp only [List.length_drop, List.length_take]; rfl)) ?_; (with_reducible refine (laws_markCyclo.calls kj59 t328 (fun k_ => some k_ = (.slice Ao36 t329.length co36 : Value).ownBlock) (.slice Ao36 t329.length co36) t329 1 t343 t344 w _ ?side1 ?side2 A90.out).mono ?_); (case side1 => repeat (first | (with_reducible first | exact HB.out | apply below_alloc | apply pw_below_drewN | apply below_drew1 | refine below_set ?_ GE311.out | refine below_set ?_ GE322.out | refine below_set ?_ GE327.out | refine below_set ?_ GE333.out) | exact HB.out)); (case side2 => exact Kd.R_tight rfl HO_334001.out); rintro e w108 ⟨rfl, hy0, hb, hkp⟩; refine ⟨_, rfl, ?_⟩; have n0_ := Aside0.mk (Kd.R_mono (ok' := fun k_ => some k_ ≠ (.slice Ao29 t341.length co29 : Value).ownBlock ∧ some k_ ≠ (.slice Ao36 t329.length co36 : Value).ownBlock) (Kd.R_keptB (HO_323001.out) hkp (fun k_ hk_ hs_ => (hk_.2) hs_)) (fun k_ hk_ => ⟨hk_.1.1, hk_.1.2⟩)); have n1_ := Aside0.mk (Kd.R_mono (ok' := fun k_ => some k_ ≠ (.slice Ao22 t318.length co22 : Value).ownBlock ∧ some k_ ≠ (.slice Ao36 t329.length co36 : Value).ownBlock) (Kd.R_keptB (HO_328001.out) hkp (fun k_ hk_ hs_ => (hk_.2) hs_)) (fun k_ hk_ => ⟨hk_.1.1, hk_.1.2⟩)); have n2_ := Aside0.mk (Kd.R_reok rfl hy0 (fun k_ e_ => HO_334001.out.1 k_ e_)); have n3_ := Aside0.mk (blk_kept (by (with_reducible repeat (first | refine blk_drewN ?_ _ | refine blk_drew ?_ | refine blk_alloc ?_ _)); exact BK311.out) hkp (fun hs_ => (fun e_ => (Kd.R_ne HO_334001.out BK311.out (by decide)) e_) hs_)); have n4_ := Aside0.mk (blk_kept (by (with_reducible repeat (first | refine blk_drewN ?_ _ | refine blk_drew ?_ | refine blk_alloc ?_ _)); exact BK322.out) hkp (fun hs_ => (fun e_ => (Kd.R_ne HO_334001.out BK322.out (by decide)) e_) hs_)); have n5_ := Aside0.mk (blk_kept (by (with_reducible repeat (first | refine blk_drewN ?_ _ | refine blk_drew ?_ | refine blk_alloc ?_ _)); exact BK327.out) hkp (fun hs_ => (fun e_ => (Kd.R_ne HO_334001.out BK327.out (by decide)) e_) hs_)); have n6_ := Aside0.mk (blk_kept (by (with_reducible repeat (first | refine blk_drewN ?_ _ | refine blk_drew ?_ | refine blk_alloc ?_ _)); exact BK333.out) hkp (fun hs_ => (fun e_ => (Kd.R_ne HO_334001.out BK333.out (by decide)) e_) hs_)); have n7_ := Aside0.mk (hb); clear HO_323001; clear HO_328001; clear HO_334001; clear BK311; clear BK322; clear BK327; clear BK333; clear HB; have HO_323001 := n0_; have HO_328001 := n1_; have HO_334001 := n2_; have BK311 := n3_; have BK322 := n4_; have BK327 := n5_; have BK333 := n6_; have HB := n7_; clear n0_ n1_ n2_ n3_ n4_ n5_ n6_ n7_; (try clear hb); (try clear hkp); (try clear hy0); have hcz109_0 : w108.cell? ⟨gb333, 0, none⟩ = some (.int .i64 t328) := (blk_cell BK333.out 0).trans rfl; have hcz109_1 : w108.cell? ⟨gb333, 1, none⟩ = some (.slice Ao36 t329.length co36) := (blk_cell BK333.out 1).trans rfl; have hfz109_0 := blk_frozen BK333.out 0; have hfz109_1 := blk_frozen BK333.out 1) | ((with_reducible refine gate_callee (f := 21) rfl ?_); refine goesL_ (some 67) rfl rfl Try.func21 (by kernel_rfl) rfl #[.agg #[.int .i64 t328, .slice Ao36 t344.length co36], .int .i64 1] rfl (by (try simp only [List.map_toArray, List.map_cons, List.map_nil]); first | done | (rw [show t344.length = t329.length from (Kd.R_reads' HO_334001.out).1.symm] <;> rfl) | rfl | (simp only [List.length_drop, List.length_take]; rfl)) ?_; (with_reducible refine (laws_heldCyclo.calls kj59 t328 _ _ t344 1 t345 _ ?side1 ?side2 A91.out).mono ?_); (case side1 => repeat (first | exact (Kd.R_reads' HO_334001.out).2.2 | (with_reducible refine Kd.C_alloc ?_ _) | (with_reducible refine Kd.C_drewN ?_ _) | (with_reducible refine Kd.C_drew ?_))); (case side2 => rw [show t344.length = t329.length from (Kd.R_reads' HO_334001.out).1.symm]; exact (Kd.R_reads' HO_334001.out).2.1); rintro e w110 ⟨rfl, hb⟩; refine ⟨_, rfl, ?_⟩; have n0_ := Aside0.mk (Kd.R_below (by (with_reducible repeat (first | apply Kd.R_alloc | apply Kd.R_drewN | apply Kd.R_drew)); exact HO_323001.out) hb); have n1_ := Aside0.mk (Kd.R_below (by (with_reducible repeat (first | apply Kd.R_alloc | apply Kd.R_drewN | apply Kd.R_drew)); exact HO_328001.out) hb); have n2_ := Aside0.mk (Kd.R_below (by (with_reducible repeat (first | apply Kd.R_alloc | apply Kd.R_drewN | apply Kd.R_drew)); exact HO_334001.out) hb); have n3_ := Aside0.mk (blk_below (g := gb311) (o := .cells #[.int .i64 a0_0, .slice A0_1 l0_1.length c0_1] 24 (0, 0)) (by (with_reducible repeat (first | refine blk_drewN ?_ _ | refine blk_drew ?_ | refine blk_alloc ?_ _)); exact BK311.out) hb); have n4_ := Aside0.mk (blk_below (g := gb322) (o := .cells #[.int .i64 t317, .slice Ao22 t318.length co22] 28 (0, 0)) (by (with_reducible repeat (first | refine blk_drewN ?_ _ | refine blk_drew ?_ | refine blk_alloc ?_ _)); exact BK322.out) hb); have n5_ := Aside0.mk (blk_below (g := gb327) (o := .cells #[.int .i64 t323, .slice Ao29 t341.length co29] 28 (0, 0)) (by (with_reducible repeat (first | refine blk_drewN ?_ _ | refine blk_drew ?_ | refine blk_alloc ?_ _)); exact BK327.out) hb); have n6_ := Aside0.mk (blk_below (g := gb333) (o := .cells #[.int .i64 t328, .slice Ao36 t329.length co36] 28 (0, 0)) (by (with_reducible repeat (first | refine blk_drewN ?_ _ | refine blk_drew ?_ | refine blk_alloc ?_ _)); exact BK333.out) hb); have n7_ := Aside0.mk (below_step (by repeat (first | (with_reducible first | exact HB.out | apply below_alloc | apply pw_below_drewN | apply below_drew1 | refine below_set ?_ GE311.out | refine below_set ?_ GE322.out | refine below_set ?_ GE327.out | refine below_set ?_ GE333.out) | exact HB.out)) hb); clear HO_323001; clear HO_328001; clear HO_334001; clear BK311; clear BK322; clear BK327; clear BK333; clear HB; have HO_323001 := n0_; have HO_328001 := n1_; have HO_334001 := n2_; have BK311 := n3_; have BK322 := n4_; have BK327 := n5_; have BK333 := n6_; have HB := n7_; clear n0_ n1_ n2_ n3_ n4_ n5_ n6_ n7_; (try clear hb); have hnb111 := NB311_322.out; have hnc111 := NB322_311.out; have hnb112 := NB311_327.out; have hnc112 := NB327_311.out; have hcz113_0 : w110.cell? ⟨gb311, 0, none⟩ = some (.int .i64 a0_0) := (blk_cell BK311.out 0).trans rfl; have hcz113_1 : w110.cell? ⟨gb311, 1, none⟩ = some (.slice A0_1 l0_1.length c0_1) := (blk_cell BK311.out 1).trans rfl; have hfz113_0 := blk_frozen BK311.out 0; have hfz113_1 := blk_frozen BK311.out 1) | ((with_reducible refine gate_callee (f := 15) rfl ?_); refine goesL_ (some 75) rfl rfl Try.func15 (by kernel_rfl) rfl #[.agg #[.int .i64 a0_0, .slice A0_1 l0_1.length c0_1]] rfl (by (try simp only [List.map_toArray, List.map_cons, List.map_nil]); first | done | rfl | (simp only [List.length_drop, List.length_take]; rfl)) ?_; (with_reducible refine (laws_toCyclo.calls kj59 a0_0 _ _ l0_1 t346 t347 _ ?side1 ?side2 A101.out).mono ?_); (case side1 => repeat (first | exact (Kd.C_below HR0_1.out HB.out) | (with_reducible refine Kd.C_alloc ?_ _) | (with_reducible refine Kd.C_drewN ?_ _) | (with_reducible refine Kd.C_drew ?_))); (case side2 => exact HC0_1.out); rintro e w114 ⟨v348, rfl, ho0, hb⟩; refine ⟨_, rfl, ?_⟩; have n0_ := Aside0.mk (Kd.R_elder' (by (with_reducible repeat (first | apply Kd.R_alloc | apply Kd.R_drewN | apply Kd.R_drew)); exact HO_323001.out) (Kd.R_base ho0) hb); have n1_ := Aside0.mk (Kd.R_elder' (by (with_reducible repeat (first | apply Kd.R_alloc | apply Kd.R_drewN | apply Kd.R_drew)); exact HO_328001.out) (Kd.R_base ho0) hb); have n2_ := Aside0.mk (Kd.R_elder' (by (with_reducible repeat (first | apply Kd.R_alloc | apply Kd.R_drewN | apply Kd.R_drew)); exact HO_334001.out) (Kd.R_base ho0) hb); have n3_ := Aside0.mk (Kd.R_lower (Kd.R_new' (Kd.R_new' (Kd.R_new' ho0 (Kd.R_lt (by (with_reducible repeat (first | apply Kd.R_alloc | apply Kd.R_drewN | apply Kd.R_drew)); exact HO_323001.out))) (Kd.R_lt (by (with_reducible repeat (first | apply Kd.R_alloc | apply Kd.R_drewN | apply Kd.R_drew)); exact HO_328001.out))) (Kd.R_lt (by (with_reducible repeat (first | apply Kd.R_alloc | apply Kd.R_drewN | apply Kd.R_drew)); exact HO_334001.out))) (below_size (by repeat (first | (with_reducible first | exact HB.out | apply below_alloc | apply pw_below_drewN | apply below_drew1 | refine below_set ?_ GE311.out | refine below_set ?_ GE322.out | refine below_set ?_ GE327.out | refine below_set ?_ GE333.out) | exact HB.out)))); have n4_ := Aside0.mk (blk_below (g := gb311) (o := .cells #[.int .i64 a0_0, .slice A0_1 l0_1.length c0_1] 24 (0, 0)) (by (with_reducible repeat (first | refine blk_drewN ?_ _ | refine blk_drew ?_ | refine blk_alloc ?_ _)); exact BK311.out) hb); have n5_ := Aside0.mk (blk_below (g := gb322) (o := .cells #[.int .i64 t317, .slice Ao22 t318.length co22] 28 (0, 0)) (by (with_reducible repeat (first | refine blk_drewN ?_ _ | refine blk_drew ?_ | refine blk_alloc ?_ _)); exact BK322.out) hb); have n6_ := Aside0.mk (blk_below (g := gb327) (o := .cells #[.int .i64 t323, .slice Ao29 t341.length co29] 28 (0, 0)) (by (with_reducible repeat (first | refine blk_drewN ?_ _ | refine blk_drew ?_ | refine blk_alloc ?_ _)); exact BK327.out) hb); have n7_ := Aside0.mk (blk_below (g := gb333) (o := .cells #[.int .i64 t328, .slice Ao36 t329.length co36] 28 (0, 0)) (by (with_reducible repeat (first | refine blk_drewN ?_ _ | refine blk_drew ?_ | refine blk_alloc ?_ _)); exact BK333.out) hb); have n8_ := Aside0.mk (below_step (by repeat (first | (with_reducible first | exact HB.out | apply below_alloc | apply pw_below_drewN | apply below_drew1 | refine below_set ?_ GE311.out | refine below_set ?_ GE322.out | refine below_set ?_ GE327.out | refine below_set ?_ GE333.out) | exact HB.out)) hb); clear HO_323001; clear HO_328001; clear HO_334001; clear BK311; clear BK322; clear BK327; clear BK333; clear HB; have HO_323001 := n0_; have HO_328001 := n1_; have HO_334001 := n2_; have HO349 := n3_; have BK311 := n4_; have BK322 := n5_; have BK327 := n6_; have BK333 := n7_; have HB := n8_; clear n0_ n1_ n2_ n3_ n4_ n5_ n6_ n7_ n8_; (try clear hb); (try clear ho0); obtain ⟨Ao115, co115, eo115⟩ := Kd.R_slice HO349.out; subst eo115) | ((with_reducible refine gate_callee (f := 34) rfl ?_); refine goesL_ (some 76) rfl rfl Try.func34 (by kernel_rfl) rfl #[.agg #[.int .i64 t346, .slice Ao115 t347.length co115]] rfl (by (try simp only [List.map_toArray, List.map_cons, List.map_nil]); first | done | rfl | (simp only [List.length_drop, List.length_take]; rfl)) ?_; (with_reducible refine (impl_ConjugateOf.calls kj59 t346 _ _ t347 t350 t351 t354 _ ?side1 ?side2 A102.out).mono ?_); (case side1 => repeat (first | exact (Kd.R_reads' HO349.out).2.2 | (with_reducible refine Kd.C_alloc ?_ _) | (with_reducible refine Kd.C_drewN ?_ _) | (with_reducible refine Kd.C_drew ?_))); (case side2 => exact (Kd.R_reads' HO349.out).2.1); rintro e w116 ⟨v352, rfl, ho0, hb⟩; refine ⟨_, rfl, ?_⟩; have n0_ := Aside0.mk (Kd.R_elder' (by (with_reducible repeat (first | apply Kd.R_alloc | apply Kd.R_drewN | apply Kd.R_drew)); exact HO_323001.out) (Kd.R_base ho0) hb); have n1_ := Aside0.mk (Kd.R_elder' (by (with_reducible repeat (first | apply Kd.R_alloc | apply Kd.R_drewN | apply Kd.R_drew)); exact HO_328001.out) (Kd.R_base ho0) hb); have n2_ := Aside0.mk (Kd.R_elder' (by (with_reducible repeat (first | apply Kd.R_alloc | apply Kd.R_drewN | apply Kd.R_drew)); exact HO_334001.out) (Kd.R_base ho0) hb); have n3_ := Aside0.mk (Kd.R_elder' (by (with_reducible repeat (first | apply Kd.R_alloc | apply Kd.R_drewN | apply Kd.R_drew)); exact HO349.out) (Kd.R_base ho0) hb); have n4_ := Aside0.mk (Kd.R_lower (Kd.R_new' (Kd.R_new' (Kd.R_new' (Kd.R_new' ho0 (Kd.R_lt (by (with_reducible repeat (first | apply Kd.R_alloc | apply Kd.R_drewN | apply Kd.R_drew)); exact HO_323001.out))) (Kd.R_lt (by (with_reducible repeat (first | apply Kd.R_alloc | apply Kd.R_drewN | apply Kd.R_drew)); exact HO_328001.out))) (Kd.R_lt (by (with_reducible repeat (first | apply Kd.R_alloc | apply Kd.R_drewN | apply Kd.R_drew)); exact HO_334001.out))) (Kd.R_lt (by (with_reducible repeat (first | apply Kd.R_alloc | apply Kd.R_drewN | apply Kd.R_drew)); exact HO349.out))) (below_size (by repeat (first | (with_reducible first | exact HB.out | apply below_alloc | apply pw_below_drewN | apply below_drew1 | refine below_set ?_ GE311.out | refine below_set ?_ GE322.out | refine below_set ?_ GE327.out | refine below_set ?_ GE333.out) | exact HB.out)))); have n5_ := Aside0.mk (blk_below (g := gb311) (o := .cells #[.int .i64 a0_0, .slice A0_1 l0_1.length c0_1] 24 (0, 0)) (by (with_reducible repeat (first | refine blk_drewN ?_ _ | refine blk_drew ?_ | refine blk_alloc ?_ _)); exact BK311.out) hb); have n6_ := Aside0.mk (blk_below (g := gb322) (o := .cells #[.int .i64 t317, .slice Ao22 t318.length co22] 28 (0, 0)) (by (with_reducible repeat (first | refine blk_drewN ?_ _ | refine blk_drew ?_ | refine blk_alloc ?_ _)); exact BK322.out) hb); have n7_ := Aside0.mk (blk_below (g := gb327) (o := .cells #[.int .i64 t323, .slice Ao29 t341.length co29] 28 (0, 0)) (by (with_reducible repeat (first | refine blk_drewN ?_ _ | refine blk_drew ?_ | refine blk_alloc ?_ _)); exact BK327.out) hb); have n8_ := Aside0.mk (blk_below (g := gb333) (o := .cells #[.int .i64 t328, .slice Ao36 t329.length co36] 28 (0, 0)) (by (with_reducible repeat (first | refine blk_drewN ?_ _ | refine blk_drew ?_ | refine blk_alloc ?_ _)); exact BK333.out) hb); have n9_ := Aside0.mk (below_step (by repeat (first | (with_reducible first | exact HB.out | apply below_alloc | apply pw_below_drewN | apply below_drew1 | refine below_set ?_ GE311.out | refine below_set ?_ GE322.out | refine below_set ?_ GE327.out | refine below_set ?_ GE333.out) | exact HB.out)) hb); clear HO_323001; clear HO_328001; clear HO_334001; clear HO349; clear BK311; clear BK322; clear BK327; clear BK333; clear HB; have HO_323001 := n0_; have HO_328001 := n1_; have HO_334001 := n2_; have HO349 := n3_; have HO353 := n4_; have BK311 := n5_; have BK322 := n6_; have BK327 := n7_; have BK333 := n8_; have HB := n9_; clear n0_ n1_ n2_ n3_ n4_ n5_ n6_ n7_ n8_ n9_; (try clear hb); (try clear ho0)) | ((with_reducible refine gate_dst (N := 12) rfl ?_); refine box_event ?hg (N := 12) ?hd (cs := #[.int .i64 0, .slice none 0 0]) (t := 28) ?hr ?_; (case hd => rfl); (case hg => rfl); (case hr => first | (go_simp; done) | (go_simp; rfl)); intro gb355 hg w117 hbox hb; have n0_ := Aside0.mk (Kd.R_below (by (with_reducible repeat (first | apply Kd.R_alloc | apply Kd.R_drewN | apply Kd.R_drew)); exact HO_323001.out) hb); have n1_ := Aside0.mk (Kd.R_below (by (with_reducible repeat (first | apply Kd.R_alloc | apply Kd.R_drewN | apply Kd.R_drew)); exact HO_328001.out) hb); have n2_ := Aside0.mk (Kd.R_below (by (with_reducible repeat (first | apply Kd.R_alloc | apply Kd.R_drewN | apply Kd.R_drew)); exact HO_334001.out) hb); have n3_ := Aside0.mk (Kd.R_below (by (with_reducible repeat (first | apply Kd.R_alloc | apply Kd.R_drewN | apply Kd.R_drew)); exact HO349.out) hb); have n4_ := Aside0.mk (Kd.R_below (by (with_reducible repeat (first | apply Kd.R_alloc | apply Kd.R_drewN | apply Kd.R_drew)); exact HO353.out) hb); have n5_ := Aside0.mk (blk_below (g := gb311) (o := .cells #[.int .i64 a0_0, .slice A0_1 l0_1.length c0_1] 24 (0, 0)) (by (with_reducible repeat (first | refine blk_drewN ?_ _ | refine blk_drew ?_ | refine blk_alloc ?_ _)); exact BK311.out) hb); have n6_ := Aside0.mk (blk_below (g := gb322) (o := .cells #[.int .i64 t317, .slice Ao22 t318.length co22] 28 (0, 0)) (by (with_reducible repeat (first | refine blk_drewN ?_ _ | refine blk_drew ?_ | refine blk_alloc ?_ _)); exact BK322.out) hb); have n7_ := Aside0.mk (blk_below (g := gb327) (o := .cells #[.int .i64 t323, .slice Ao29 t341.length co29] 28 (0, 0)) (by (with_reducible repeat (first | refine blk_drewN ?_ _ | refine blk_drew ?_ | refine blk_alloc ?_ _)); exact BK327.out) hb); have n8_ := Aside0.mk (blk_below (g := gb333) (o := .cells #[.int .i64 t328, .slice Ao36 t329.length co36] 28 (0, 0)) (by (with_reducible repeat (first | refine blk_drewN ?_ _ | refine blk_drew ?_ | refine blk_alloc ?_ _)); exact BK333.out) hb); have n9_ := Aside0.mk (below_step (by repeat (first | (with_reducible first | exact HB.out | apply below_alloc | apply pw_below_drewN | apply below_drew1 | refine below_set ?_ GE311.out | refine below_set ?_ GE322.out | refine below_set ?_ GE327.out | refine below_set ?_ GE333.out) | exact HB.out)) hb); have n10_ := Aside0.mk (hbox); have n11_ := Aside0.mk ((by rw [hg]; exact (below_size (by repeat (first | (with_reducible first | exact HB.out | apply below_alloc | apply pw_below_drewN | apply below_drew1 | refine below_set ?_ GE311.out | refine below_set ?_ GE322.out | refine below_set ?_ GE327.out | refine below_set ?_ GE333.out) | exact HB.out))) : w.heap.size ≤ gb355)); have n12_ := Aside0.mk ((by rw [hg]; exact (below_size (by repeat (first | (with_reducible first | exact HB.out | apply below_alloc | apply pw_below_drewN | apply below_drew1 | refine below_set ?_ GE311.out | refine below_set ?_ GE322.out | refine below_set ?_ GE327.out | refine below_set ?_ GE333.out) | exact HB.out))) : w.heap.size ≤ gb355)); have n13_ := Aside0.mk ((by rw [hg]; exact Nat.ne_of_lt (blk_lt (g := gb311) (o := .cells #[.int .i64 a0_0, .slice A0_1 l0_1.length c0_1] 24 (0, 0)) (by (with_reducible repeat (first | refine blk_drewN ?_ _ | refine blk_drew ?_ | refine blk_alloc ?_ _)); exact BK311.out)) : gb311 ≠ gb355)); have n14_ := Aside0.mk ((by rw [hg]; exact Nat.ne_of_gt (blk_lt (g := gb311) (o := .cells #[.int .i64 a0_0, .slice A0_1 l0_1.length c0_1] 24 (0, 0)) (by (with_reducible repeat (first | refine blk_drewN ?_ _ | refine blk_drew ?_ | refine blk_alloc ?_ _)); exact BK311.out)) : gb355 ≠ gb311)); have n15_ := Aside0.mk ((by rw [hg]; exact Nat.ne_of_lt (blk_lt (g := gb322) (o := .cells #[.int .i64 t317, .slice Ao22 t318.length co22] 28 (0, 0)) (by (with_reducible repeat (first | refine blk_drewN ?_ _ | refine blk_drew ?_ | refine blk_alloc ?_ _)); exact BK322.out)) : gb322 ≠ gb355)); have n16_ := Aside0.mk ((by rw [hg]; exact Nat.ne_of_gt (blk_lt (g := gb322) (o := .cells #[.int .i64 t317, .slice Ao22 t318.length co22] 28 (0, 0)) (by (with_reducible repeat (first | refine blk_drewN ?_ _ | refine blk_drew ?_ | refine blk_alloc ?_ _)); exact BK322.out)) : gb355 ≠ gb322)); have n17_ := Aside0.mk ((by rw [hg]; exact Nat.ne_of_lt (blk_lt (g := gb327) (o := .cells #[.int .i64 t323, .slice Ao29 t341.length co29] 28 (0, 0)) (by (with_reducible repeat (first | refine blk_drewN ?_ _ | refine blk_drew ?_ | refine blk_alloc ?_ _)); exact BK327.out)) : gb327 ≠ gb355)); have n18_ := Aside0.mk ((by rw [hg]; exact Nat.ne_of_gt (blk_lt (g := gb327) (o := .cells #[.int .i64 t323, .slice Ao29 t341.length co29] 28 (0, 0)) (by (with_reducible repeat (first | refine blk_drewN ?_ _ | refine blk_drew ?_ | refine blk_alloc ?_ _)); exact BK327.out)) : gb355 ≠ gb327)); have n19_ := Aside0.mk ((by rw [hg]; exact Nat.ne_of_lt (blk_lt (g := gb333) (o := .cells #[.int .i64 t328, .slice Ao36 t329.length co36] 28 (0, 0)) (by (with_reducible repeat (first | refine blk_drewN ?_ _ | refine blk_drew ?_ | refine blk_alloc ?_ _)); exact BK333.out)) : gb333 ≠ gb355)); have n20_ := Aside0.mk ((by rw [hg]; exact Nat.ne_of_gt (blk_lt (g := gb333) (o := .cells #[.int .i64 t328, .slice Ao36 t329.length co36] 28 (0, 0)) (by (with_reducible repeat (first | refine blk_drewN ?_ _ | refine blk_drew ?_ | refine blk_alloc ?_ _)); exact BK333.out)) : gb355 ≠ gb333)); clear HO_323001; clear HO_328001; clear HO_334001; clear HO349; clear HO353; clear BK311; clear BK322; clear BK327; clear BK333; clear HB; have HO_323001 := n0_; have HO_328001 := n1_; have HO_334001 := n2_; have HO349 := n3_; have HO353 := n4_; have BK311 := n5_; have BK322 := n6_; have BK327 := n7_; have BK333 := n8_; have HB := n9_; have BK355 := n10_; have GW355 := n11_; have GE355 := n12_; have NB311_355 := n13_; have NB355_311 := n14_; have NB322_355 := n15_; have NB355_322 := n16_; have NB327_355 := n17_; have NB355_327 := n18_; have NB333_355 := n19_; have NB355_333 := n20_; clear n0_ n1_ n2_ n3_ n4_ n5_ n6_ n7_ n8_ n9_ n10_ n11_ n12_ n13_ n14_ n15_ n16_ n17_ n18_ n19_ n20_; clear hb hbox hg; have hnb118 := NB355_311.out; have hnc118 := NB311_355.out; have hnb119 := NB355_322.out; have hnc119 := NB322_355.out; have hnb120 := NB355_327.out; have hnc120 := NB327_355.out; have hnb121 := NB355_333.out; have hnc121 := NB333_355.out; have hcz122_0 : w117.cell? ⟨gb355, 0, none⟩ = some (.int .i64 0) := (blk_cell BK355.out 0).trans rfl; have hcz122_1 : w117.cell? ⟨gb355, 1, none⟩ = some (.slice none 0 0) := (blk_cell BK355.out 1).trans rfl; have hfz122_0 := blk_frozen BK355.out 0; have hfz122_1 := blk_frozen BK355.out 1; obtain ⟨Ao123, co123, eo123⟩ := Kd.R_slice HO353.out; subst eo123))
           (try simp only [Act.put, List.setIfInBounds_toArray, List.set_cons_zero, List.set_cons_succ])
           go_cut [87] (fun v87 wc => ∃ (kq : Nat) (x87_102 : Bool), v87 = .bool x87_102 ∧ Aside0 (laws_FnExactConjugateOf.j2 kq t343 x87_102 t328 t344 = some r) ∧ Aside0 (kq ≤ kj59) ∧ Aside0 (Kd.R (Kd.int .i64) 2 wc w.heap.size (fun k_ => some k_ ≠ ((.slice Ao29 t341.length co29) : Value).ownBlock ∧ some k_ ≠ ((.slice Ao36 t329.length co36) : Value).ownBlock ∧ some k_ ≠ ((.slice Ao123 t351.length co123) : Value).ownBlock) (.slice Ao22 t318.length co22) t318) ∧ Aside0 (Kd.R (Kd.int .i64) 2 wc w.heap.size (fun k_ => some k_ ≠ ((.slice Ao22 t318.length co22) : Value).ownBlock ∧ some k_ ≠ ((.slice Ao36 t329.length co36) : Value).ownBlock ∧ some k_ ≠ ((.slice Ao123 t351.length co123) : Value).ownBlock) (.slice Ao29 t341.length co29) t341) ∧ Aside0 (Kd.R (Kd.int .i64) 2 wc w.heap.size (fun k_ => some k_ ≠ ((.slice Ao22 t318.length co22) : Value).ownBlock ∧ some k_ ≠ ((.slice Ao29 t341.length co29) : Value).ownBlock ∧ some k_ ≠ ((.slice Ao123 t351.length co123) : Value).ownBlock) (.slice Ao36 t329.length co36) t344) ∧ Aside0 (Kd.R (Kd.int .i64) 2 wc w.heap.size (fun k_ => some k_ ≠ ((.slice Ao22 t318.length co22) : Value).ownBlock ∧ some k_ ≠ ((.slice Ao29 t341.length co29) : Value).ownBlock ∧ some k_ ≠ ((.slice Ao36 t329.length co36) : Value).ownBlock) (.slice Ao123 t351.length co123) t351) ∧ Aside0 (wc.heap[gb311]? = some (.cells #[.int .i64 a0_0, (.slice A0_1 l0_1.length c0_1)] 24 (0, 0))) ∧ Aside0 (wc.heap[gb322]? = some (.cells #[.int .i64 t317, (.slice Ao22 t318.length co22)] 28 (0, 0))) ∧ Aside0 (wc.heap[gb327]? = some (.cells #[.int .i64 t323, (.slice Ao29 t341.length co29)] 28 (0, 0))) ∧ Aside0 (wc.heap[gb333]? = some (.cells #[.int .i64 t328, (.slice Ao36 t329.length co36)] 28 (0, 0))) ∧ Aside0 (wc.heap[gb355]? = some (.cells #[.int .i64 t350, (.slice Ao123 t351.length co123)] 28 (0, 0))) ∧ Aside0 (Below w.heap.size w wc))
           case first =>
            have H := HC103.out
            clear HC103
            replace H := Option.bind_eq_some_iff.mp H
            obtain ⟨t356, A1240, H⟩ := H
            replace H : (if t356 = true then (laws_FnExactConjugateOf.j2 kj59 t343 (t354 != t321) t328 t344) else (laws_FnExactConjugateOf.j2 kj59 t343 true t328 t344)) = some r := H
            have A124 := Aside0.mk A1240
            clear A1240
            by_cases c125 : t356 = true
            ·subst c125
             have H1 : (laws_FnExactConjugateOf.j2 kj59 t343 (t354 != t321) t328 t344) = some r := by rw [if_pos rfl] at H; exact H
             clear H
             have H := H1
             clear H1
             have H' := Aside0.mk H
             clear H
             have hnb126 := NB355_311.out
             have hnc126 := NB311_355.out
             have hnb127 := NB355_322.out
             have hnc127 := NB322_355.out
             have hnb128 := NB355_327.out
             have hnc128 := NB327_355.out
             have hnb129 := NB355_333.out
             have hnc129 := NB333_355.out
             have hcz130_0 : w117.cell? ⟨gb355, 0, none⟩ = some (.int .i64 0) := (blk_cell BK355.out 0).trans rfl
             have hcz130_1 : w117.cell? ⟨gb355, 1, none⟩ = some (.slice none 0 0) := (blk_cell BK355.out 1).trans rfl
             have hfz130_0 := blk_frozen BK355.out 0
             have hfz130_1 := blk_frozen BK355.out 1
             have hnb131 := NB322_311.out
             have hnc131 := NB311_322.out
             have hnb132 := NB322_327.out
             have hnc132 := NB327_322.out
             have hnb133 := NB322_333.out
             have hnc133 := NB333_322.out
             have hcz134_0 : w117.cell? ⟨gb322, 0, none⟩ = some (.int .i64 t317) := (blk_cell BK322.out 0).trans rfl
             have hcz134_1 : w117.cell? ⟨gb322, 1, none⟩ = some (.slice Ao22 t318.length co22) := (blk_cell BK322.out 1).trans rfl
             have hfz134_0 := blk_frozen BK322.out 0
             have hfz134_1 := blk_frozen BK322.out 1
             go_wp2_with (first | ((with_reducible refine gate_callee (f := 17) rfl ?_); refine goesL_ (some 81) rfl rfl Try.func17 (by kernel_rfl) rfl #[.agg #[.int .i64 t350, .slice Ao123 t351.length co123], .agg #[.int .i64 t317, .slice Ao22 t318.length co22]] rfl (by (try simp only [List.map_toArray, List.map_cons, List.map_nil]); first | done | rfl | (simp only [List.length_drop, List.length_take]; rfl)) ?_; (with_reducible refine (laws_eqCyclo.calls kj59 t350 _ _ t351 t317 _ _ t318 true _ ?side1 ?side2 ?side3 ?side4 A124.out).mono ?_); (case side1 => refine (Kd.R_reads' (e := 2) (base := w.heap.size) (ok := fun k_ => ((((True ∧ some k_ ≠ (.slice Ao22 t318.length co22 : Value).ownBlock) ∧ some k_ ≠ (.slice Ao29 t341.length co29 : Value).ownBlock) ∧ some k_ ≠ (.slice Ao36 t329.length co36 : Value).ownBlock) ∧ some k_ ≠ (.slice Ao115 t347.length co115 : Value).ownBlock)) (n := t351.length) (c := co123) ?_).2.2; exact (by (with_reducible repeat (first | apply Kd.R_alloc | apply Kd.R_drewN | apply Kd.R_drew)); exact (Kd.R_mono (Kd.R_far (p := ⟨gb355, 1, none⟩) (Kd.R_far (p := ⟨gb355, 0, none⟩) (Kd.R_types HO353.out BK355.out (by decide)) (fun _ hk => hk.2) (.int .i64 t350)) (fun _ hk => hk.2) (.slice Ao123 t351.length co123)) (fun _ h_ => h_.1)))); (case side2 => exact (Kd.R_reads' HO353.out).2.1); (case side3 => refine (Kd.R_reads' (e := 2) (base := w.heap.size) (ok := fun k_ => (((some k_ ≠ (.slice Ao29 t341.length co29 : Value).ownBlock ∧ some k_ ≠ (.slice Ao36 t329.length co36 : Value).ownBlock) ∧ some k_ ≠ (.slice Ao115 t347.length co115 : Value).ownBlock) ∧ some k_ ≠ (.slice Ao123 t351.length co123 : Value).ownBlock)) (n := t318.length) (c := co22) ?_).2.2; exact (by (with_reducible repeat (first | apply Kd.R_alloc | apply Kd.R_drewN | apply Kd.R_drew)); exact (Kd.R_mono (Kd.R_far (p := ⟨gb355, 1, none⟩) (Kd.R_far (p := ⟨gb355, 0, none⟩) (Kd.R_types HO_323001.out BK355.out (by decide)) (fun _ hk => hk.2) (.int .i64 t350)) (fun _ hk => hk.2) (.slice Ao123 t351.length co123)) (fun _ h_ => h_.1)))); (case side4 => exact (Kd.R_reads' HO_323001.out).2.1); rintro e w135 ⟨rfl, hb⟩; refine ⟨_, rfl, ?_⟩; have n0_ := Aside0.mk (Kd.R_below (by (with_reducible repeat (first | apply Kd.R_alloc | apply Kd.R_drewN | apply Kd.R_drew)); exact (Kd.R_mono (Kd.R_far (p := ⟨gb355, 1, none⟩) (Kd.R_far (p := ⟨gb355, 0, none⟩) (Kd.R_types HO_323001.out BK355.out (by decide)) (fun _ hk => hk.2) (.int .i64 t350)) (fun _ hk => hk.2) (.slice Ao123 t351.length co123)) (fun _ h_ => h_.1))) hb); have n1_ := Aside0.mk (Kd.R_below (by (with_reducible repeat (first | apply Kd.R_alloc | apply Kd.R_drewN | apply Kd.R_drew)); exact (Kd.R_mono (Kd.R_far (p := ⟨gb355, 1, none⟩) (Kd.R_far (p := ⟨gb355, 0, none⟩) (Kd.R_types HO_328001.out BK355.out (by decide)) (fun _ hk => hk.2) (.int .i64 t350)) (fun _ hk => hk.2) (.slice Ao123 t351.length co123)) (fun _ h_ => h_.1))) hb); have n2_ := Aside0.mk (Kd.R_below (by (with_reducible repeat (first | apply Kd.R_alloc | apply Kd.R_drewN | apply Kd.R_drew)); exact (Kd.R_mono (Kd.R_far (p := ⟨gb355, 1, none⟩) (Kd.R_far (p := ⟨gb355, 0, none⟩) (Kd.R_types HO_334001.out BK355.out (by decide)) (fun _ hk => hk.2) (.int .i64 t350)) (fun _ hk => hk.2) (.slice Ao123 t351.length co123)) (fun _ h_ => h_.1))) hb); have n3_ := Aside0.mk (Kd.R_below (by (with_reducible repeat (first | apply Kd.R_alloc | apply Kd.R_drewN | apply Kd.R_drew)); exact (Kd.R_mono (Kd.R_far (p := ⟨gb355, 1, none⟩) (Kd.R_far (p := ⟨gb355, 0, none⟩) (Kd.R_types HO349.out BK355.out (by decide)) (fun _ hk => hk.2) (.int .i64 t350)) (fun _ hk => hk.2) (.slice Ao123 t351.length co123)) (fun _ h_ => h_.1))) hb); have n4_ := Aside0.mk (Kd.R_below (by (with_reducible repeat (first | apply Kd.R_alloc | apply Kd.R_drewN | apply Kd.R_drew)); exact (Kd.R_mono (Kd.R_far (p := ⟨gb355, 1, none⟩) (Kd.R_far (p := ⟨gb355, 0, none⟩) (Kd.R_types HO353.out BK355.out (by decide)) (fun _ hk => hk.2) (.int .i64 t350)) (fun _ hk => hk.2) (.slice Ao123 t351.length co123)) (fun _ h_ => h_.1))) hb); have n5_ := Aside0.mk (blk_below (g := gb311) (o := .cells #[.int .i64 a0_0, .slice A0_1 l0_1.length c0_1] 24 (0, 0)) (by (with_reducible repeat (first | refine blk_drewN ?_ _ | refine blk_drew ?_ | refine blk_alloc ?_ _)); refine blk_far ?_ NB311_355.out _; (with_reducible repeat (first | refine blk_drewN ?_ _ | refine blk_drew ?_ | refine blk_alloc ?_ _)); refine blk_far ?_ NB311_355.out _; (with_reducible repeat (first | refine blk_drewN ?_ _ | refine blk_drew ?_ | refine blk_alloc ?_ _)); exact BK311.out) hb); have n6_ := Aside0.mk (blk_below (g := gb322) (o := .cells #[.int .i64 t317, .slice Ao22 t318.length co22] 28 (0, 0)) (by (with_reducible repeat (first | refine blk_drewN ?_ _ | refine blk_drew ?_ | refine blk_alloc ?_ _)); refine blk_far ?_ NB322_355.out _; (with_reducible repeat (first | refine blk_drewN ?_ _ | refine blk_drew ?_ | refine blk_alloc ?_ _)); refine blk_far ?_ NB322_355.out _; (with_reducible repeat (first | refine blk_drewN ?_ _ | refine blk_drew ?_ | refine blk_alloc ?_ _)); exact BK322.out) hb); have n7_ := Aside0.mk (blk_below (g := gb327) (o := .cells #[.int .i64 t323, .slice Ao29 t341.length co29] 28 (0, 0)) (by (with_reducible repeat (first | refine blk_drewN ?_ _ | refine blk_drew ?_ | refine blk_alloc ?_ _)); refine blk_far ?_ NB327_355.out _; (with_reducible repeat (first | refine blk_drewN ?_ _ | refine blk_drew ?_ | refine blk_alloc ?_ _)); refine blk_far ?_ NB327_355.out _; (with_reducible repeat (first | refine blk_drewN ?_ _ | refine blk_drew ?_ | refine blk_alloc ?_ _)); exact BK327.out) hb); have n8_ := Aside0.mk (blk_below (g := gb333) (o := .cells #[.int .i64 t328, .slice Ao36 t329.length co36] 28 (0, 0)) (by (with_reducible repeat (first | refine blk_drewN ?_ _ | refine blk_drew ?_ | refine blk_alloc ?_ _)); refine blk_far ?_ NB333_355.out _; (with_reducible repeat (first | refine blk_drewN ?_ _ | refine blk_drew ?_ | refine blk_alloc ?_ _)); refine blk_far ?_ NB333_355.out _; (with_reducible repeat (first | refine blk_drewN ?_ _ | refine blk_drew ?_ | refine blk_alloc ?_ _)); exact BK333.out) hb); have n9_ := Aside0.mk (blk_below (g := gb355) (o := .cells #[.int .i64 t350, .slice Ao123 t351.length co123] 28 (0, 0)) (by (with_reducible repeat (first | refine blk_drewN ?_ _ | refine blk_drew ?_ | refine blk_alloc ?_ _)); refine blk_put (cs := #[.int .i64 t350, .slice none 0 0]) ?_ 1 _ rfl; (with_reducible repeat (first | refine blk_drewN ?_ _ | refine blk_drew ?_ | refine blk_alloc ?_ _)); refine blk_put (cs := #[.int .i64 0, .slice none 0 0]) ?_ 0 _ rfl; (with_reducible repeat (first | refine blk_drewN ?_ _ | refine blk_drew ?_ | refine blk_alloc ?_ _)); exact BK355.out) hb); have n10_ := Aside0.mk (below_step (by repeat (first | (with_reducible first | exact HB.out | apply below_alloc | apply pw_below_drewN | apply below_drew1 | refine below_set ?_ GE311.out | refine below_set ?_ GE322.out | refine below_set ?_ GE327.out | refine below_set ?_ GE333.out | refine below_set ?_ GE355.out) | exact HB.out)) hb); clear HO_323001; clear HO_328001; clear HO_334001; clear HO349; clear HO353; clear BK311; clear BK322; clear BK327; clear BK333; clear BK355; clear HB; have HO_323001 := n0_; have HO_328001 := n1_; have HO_334001 := n2_; have HO349 := n3_; have HO353 := n4_; have BK311 := n5_; have BK322 := n6_; have BK327 := n7_; have BK333 := n8_; have BK355 := n9_; have HB := n10_; clear n0_ n1_ n2_ n3_ n4_ n5_ n6_ n7_ n8_ n9_ n10_; (try clear hb); (try clear hk)))
             go_meet
             case rel => exact ⟨_, ((t354 != t321)), (by first | rfl | (simp; done) | (simp [*]; done)), H', ⟨by have := HJ10.out; have := HJ59.out; first | omega | exact Nat.le_refl _⟩, ⟨by (try simp only [hl328001_59]); (with_reducible repeat (first | apply Kd.R_alloc | apply Kd.R_drewN | apply Kd.R_drew)); exact Kd.R_mono HO_323001.out (fun _ hk => ⟨hk.1.1.1, ⟨hk.1.1.2, hk.2⟩⟩)⟩, ⟨by (try simp only [hl328001_59]); (with_reducible repeat (first | apply Kd.R_alloc | apply Kd.R_drewN | apply Kd.R_drew)); exact Kd.R_mono HO_328001.out (fun _ hk => ⟨hk.1.1.1, ⟨hk.1.1.2, hk.2⟩⟩)⟩, ⟨by (try simp only [hl328001_59]); (with_reducible repeat (first | apply Kd.R_alloc | apply Kd.R_drewN | apply Kd.R_drew)); exact Kd.R_mono HO_334001.out (fun _ hk => ⟨hk.1.1.1, ⟨hk.1.1.2, hk.2⟩⟩)⟩, ⟨by (try simp only [hl328001_59]); (with_reducible repeat (first | apply Kd.R_alloc | apply Kd.R_drewN | apply Kd.R_drew)); exact Kd.R_mono HO353.out (fun _ hk => ⟨hk.1.1.1.2, ⟨hk.1.1.2, hk.1.2⟩⟩)⟩, ⟨by (try simp only [hl328001_59]); (with_reducible repeat (first | refine blk_drewN ?_ _ | refine blk_drew ?_ | refine blk_alloc ?_ _)); exact BK311.out⟩, ⟨by (try simp only [hl328001_59]); (with_reducible repeat (first | refine blk_drewN ?_ _ | refine blk_drew ?_ | refine blk_alloc ?_ _)); exact BK322.out⟩, ⟨by (try simp only [hl328001_59]); (with_reducible repeat (first | refine blk_drewN ?_ _ | refine blk_drew ?_ | refine blk_alloc ?_ _)); exact BK327.out⟩, ⟨by (try simp only [hl328001_59]); (with_reducible repeat (first | refine blk_drewN ?_ _ | refine blk_drew ?_ | refine blk_alloc ?_ _)); exact BK333.out⟩, ⟨by (try simp only [hl328001_59]); (with_reducible repeat (first | refine blk_drewN ?_ _ | refine blk_drew ?_ | refine blk_alloc ?_ _)); exact BK355.out⟩, ⟨by repeat (first | (with_reducible first | exact HB.out | apply below_alloc | apply pw_below_drewN | apply below_drew1 | refine below_set ?_ GE311.out | refine below_set ?_ GE322.out | refine below_set ?_ GE327.out | refine below_set ?_ GE333.out | refine below_set ?_ GE355.out) | exact HB.out)⟩⟩
            ·replace c125 := Bool.eq_false_iff.mpr c125
             subst c125
             have H1 : (laws_FnExactConjugateOf.j2 kj59 t343 true t328 t344) = some r := by rw [if_neg (show ¬ (false = true) by decide)] at H; exact H
             clear H
             have H := H1
             clear H1
             have H' := Aside0.mk H
             clear H
             have hnb136 := NB355_311.out
             have hnc136 := NB311_355.out
             have hnb137 := NB355_322.out
             have hnc137 := NB322_355.out
             have hnb138 := NB355_327.out
             have hnc138 := NB327_355.out
             have hnb139 := NB355_333.out
             have hnc139 := NB333_355.out
             have hcz140_0 : w117.cell? ⟨gb355, 0, none⟩ = some (.int .i64 0) := (blk_cell BK355.out 0).trans rfl
             have hcz140_1 : w117.cell? ⟨gb355, 1, none⟩ = some (.slice none 0 0) := (blk_cell BK355.out 1).trans rfl
             have hfz140_0 := blk_frozen BK355.out 0
             have hfz140_1 := blk_frozen BK355.out 1
             have hnb141 := NB322_311.out
             have hnc141 := NB311_322.out
             have hnb142 := NB322_327.out
             have hnc142 := NB327_322.out
             have hnb143 := NB322_333.out
             have hnc143 := NB333_322.out
             have hcz144_0 : w117.cell? ⟨gb322, 0, none⟩ = some (.int .i64 t317) := (blk_cell BK322.out 0).trans rfl
             have hcz144_1 : w117.cell? ⟨gb322, 1, none⟩ = some (.slice Ao22 t318.length co22) := (blk_cell BK322.out 1).trans rfl
             have hfz144_0 := blk_frozen BK322.out 0
             have hfz144_1 := blk_frozen BK322.out 1
             go_wp2_with (first | ((with_reducible refine gate_callee (f := 17) rfl ?_); refine goesL_ (some 81) rfl rfl Try.func17 (by kernel_rfl) rfl #[.agg #[.int .i64 t350, .slice Ao123 t351.length co123], .agg #[.int .i64 t317, .slice Ao22 t318.length co22]] rfl (by (try simp only [List.map_toArray, List.map_cons, List.map_nil]); first | done | rfl | (simp only [List.length_drop, List.length_take]; rfl)) ?_; (with_reducible refine (laws_eqCyclo.calls kj59 t350 _ _ t351 t317 _ _ t318 false _ ?side1 ?side2 ?side3 ?side4 A124.out).mono ?_); (case side1 => refine (Kd.R_reads' (e := 2) (base := w.heap.size) (ok := fun k_ => ((((True ∧ some k_ ≠ (.slice Ao22 t318.length co22 : Value).ownBlock) ∧ some k_ ≠ (.slice Ao29 t341.length co29 : Value).ownBlock) ∧ some k_ ≠ (.slice Ao36 t329.length co36 : Value).ownBlock) ∧ some k_ ≠ (.slice Ao115 t347.length co115 : Value).ownBlock)) (n := t351.length) (c := co123) ?_).2.2; exact (by (with_reducible repeat (first | apply Kd.R_alloc | apply Kd.R_drewN | apply Kd.R_drew)); exact (Kd.R_mono (Kd.R_far (p := ⟨gb355, 1, none⟩) (Kd.R_far (p := ⟨gb355, 0, none⟩) (Kd.R_types HO353.out BK355.out (by decide)) (fun _ hk => hk.2) (.int .i64 t350)) (fun _ hk => hk.2) (.slice Ao123 t351.length co123)) (fun _ h_ => h_.1)))); (case side2 => exact (Kd.R_reads' HO353.out).2.1); (case side3 => refine (Kd.R_reads' (e := 2) (base := w.heap.size) (ok := fun k_ => (((some k_ ≠ (.slice Ao29 t341.length co29 : Value).ownBlock ∧ some k_ ≠ (.slice Ao36 t329.length co36 : Value).ownBlock) ∧ some k_ ≠ (.slice Ao115 t347.length co115 : Value).ownBlock) ∧ some k_ ≠ (.slice Ao123 t351.length co123 : Value).ownBlock)) (n := t318.length) (c := co22) ?_).2.2; exact (by (with_reducible repeat (first | apply Kd.R_alloc | apply Kd.R_drewN | apply Kd.R_drew)); exact (Kd.R_mono (Kd.R_far (p := ⟨gb355, 1, none⟩) (Kd.R_far (p := ⟨gb355, 0, none⟩) (Kd.R_types HO_323001.out BK355.out (by decide)) (fun _ hk => hk.2) (.int .i64 t350)) (fun _ hk => hk.2) (.slice Ao123 t351.length co123)) (fun _ h_ => h_.1)))); (case side4 => exact (Kd.R_reads' HO_323001.out).2.1); rintro e w145 ⟨rfl, hb⟩; refine ⟨_, rfl, ?_⟩; have n0_ := Aside0.mk (Kd.R_below (by (with_reducible repeat (first | apply Kd.R_alloc | apply Kd.R_drewN | apply Kd.R_drew)); exact (Kd.R_mono (Kd.R_far (p := ⟨gb355, 1, none⟩) (Kd.R_far (p := ⟨gb355, 0, none⟩) (Kd.R_types HO_323001.out BK355.out (by decide)) (fun _ hk => hk.2) (.int .i64 t350)) (fun _ hk => hk.2) (.slice Ao123 t351.length co123)) (fun _ h_ => h_.1))) hb); have n1_ := Aside0.mk (Kd.R_below (by (with_reducible repeat (first | apply Kd.R_alloc | apply Kd.R_drewN | apply Kd.R_drew)); exact (Kd.R_mono (Kd.R_far (p := ⟨gb355, 1, none⟩) (Kd.R_far (p := ⟨gb355, 0, none⟩) (Kd.R_types HO_328001.out BK355.out (by decide)) (fun _ hk => hk.2) (.int .i64 t350)) (fun _ hk => hk.2) (.slice Ao123 t351.length co123)) (fun _ h_ => h_.1))) hb); have n2_ := Aside0.mk (Kd.R_below (by (with_reducible repeat (first | apply Kd.R_alloc | apply Kd.R_drewN | apply Kd.R_drew)); exact (Kd.R_mono (Kd.R_far (p := ⟨gb355, 1, none⟩) (Kd.R_far (p := ⟨gb355, 0, none⟩) (Kd.R_types HO_334001.out BK355.out (by decide)) (fun _ hk => hk.2) (.int .i64 t350)) (fun _ hk => hk.2) (.slice Ao123 t351.length co123)) (fun _ h_ => h_.1))) hb); have n3_ := Aside0.mk (Kd.R_below (by (with_reducible repeat (first | apply Kd.R_alloc | apply Kd.R_drewN | apply Kd.R_drew)); exact (Kd.R_mono (Kd.R_far (p := ⟨gb355, 1, none⟩) (Kd.R_far (p := ⟨gb355, 0, none⟩) (Kd.R_types HO349.out BK355.out (by decide)) (fun _ hk => hk.2) (.int .i64 t350)) (fun _ hk => hk.2) (.slice Ao123 t351.length co123)) (fun _ h_ => h_.1))) hb); have n4_ := Aside0.mk (Kd.R_below (by (with_reducible repeat (first | apply Kd.R_alloc | apply Kd.R_drewN | apply Kd.R_drew)); exact (Kd.R_mono (Kd.R_far (p := ⟨gb355, 1, none⟩) (Kd.R_far (p := ⟨gb355, 0, none⟩) (Kd.R_types HO353.out BK355.out (by decide)) (fun _ hk => hk.2) (.int .i64 t350)) (fun _ hk => hk.2) (.slice Ao123 t351.length co123)) (fun _ h_ => h_.1))) hb); have n5_ := Aside0.mk (blk_below (g := gb311) (o := .cells #[.int .i64 a0_0, .slice A0_1 l0_1.length c0_1] 24 (0, 0)) (by (with_reducible repeat (first | refine blk_drewN ?_ _ | refine blk_drew ?_ | refine blk_alloc ?_ _)); refine blk_far ?_ NB311_355.out _; (with_reducible repeat (first | refine blk_drewN ?_ _ | refine blk_drew ?_ | refine blk_alloc ?_ _)); refine blk_far ?_ NB311_355.out _; (with_reducible repeat (first | refine blk_drewN ?_ _ | refine blk_drew ?_ | refine blk_alloc ?_ _)); exact BK311.out) hb); have n6_ := Aside0.mk (blk_below (g := gb322) (o := .cells #[.int .i64 t317, .slice Ao22 t318.length co22] 28 (0, 0)) (by (with_reducible repeat (first | refine blk_drewN ?_ _ | refine blk_drew ?_ | refine blk_alloc ?_ _)); refine blk_far ?_ NB322_355.out _; (with_reducible repeat (first | refine blk_drewN ?_ _ | refine blk_drew ?_ | refine blk_alloc ?_ _)); refine blk_far ?_ NB322_355.out _; (with_reducible repeat (first | refine blk_drewN ?_ _ | refine blk_drew ?_ | refine blk_alloc ?_ _)); exact BK322.out) hb); have n7_ := Aside0.mk (blk_below (g := gb327) (o := .cells #[.int .i64 t323, .slice Ao29 t341.length co29] 28 (0, 0)) (by (with_reducible repeat (first | refine blk_drewN ?_ _ | refine blk_drew ?_ | refine blk_alloc ?_ _)); refine blk_far ?_ NB327_355.out _; (with_reducible repeat (first | refine blk_drewN ?_ _ | refine blk_drew ?_ | refine blk_alloc ?_ _)); refine blk_far ?_ NB327_355.out _; (with_reducible repeat (first | refine blk_drewN ?_ _ | refine blk_drew ?_ | refine blk_alloc ?_ _)); exact BK327.out) hb); have n8_ := Aside0.mk (blk_below (g := gb333) (o := .cells #[.int .i64 t328, .slice Ao36 t329.length co36] 28 (0, 0)) (by (with_reducible repeat (first | refine blk_drewN ?_ _ | refine blk_drew ?_ | refine blk_alloc ?_ _)); refine blk_far ?_ NB333_355.out _; (with_reducible repeat (first | refine blk_drewN ?_ _ | refine blk_drew ?_ | refine blk_alloc ?_ _)); refine blk_far ?_ NB333_355.out _; (with_reducible repeat (first | refine blk_drewN ?_ _ | refine blk_drew ?_ | refine blk_alloc ?_ _)); exact BK333.out) hb); have n9_ := Aside0.mk (blk_below (g := gb355) (o := .cells #[.int .i64 t350, .slice Ao123 t351.length co123] 28 (0, 0)) (by (with_reducible repeat (first | refine blk_drewN ?_ _ | refine blk_drew ?_ | refine blk_alloc ?_ _)); refine blk_put (cs := #[.int .i64 t350, .slice none 0 0]) ?_ 1 _ rfl; (with_reducible repeat (first | refine blk_drewN ?_ _ | refine blk_drew ?_ | refine blk_alloc ?_ _)); refine blk_put (cs := #[.int .i64 0, .slice none 0 0]) ?_ 0 _ rfl; (with_reducible repeat (first | refine blk_drewN ?_ _ | refine blk_drew ?_ | refine blk_alloc ?_ _)); exact BK355.out) hb); have n10_ := Aside0.mk (below_step (by repeat (first | (with_reducible first | exact HB.out | apply below_alloc | apply pw_below_drewN | apply below_drew1 | refine below_set ?_ GE311.out | refine below_set ?_ GE322.out | refine below_set ?_ GE327.out | refine below_set ?_ GE333.out | refine below_set ?_ GE355.out) | exact HB.out)) hb); clear HO_323001; clear HO_328001; clear HO_334001; clear HO349; clear HO353; clear BK311; clear BK322; clear BK327; clear BK333; clear BK355; clear HB; have HO_323001 := n0_; have HO_328001 := n1_; have HO_334001 := n2_; have HO349 := n3_; have HO353 := n4_; have BK311 := n5_; have BK322 := n6_; have BK327 := n7_; have BK333 := n8_; have BK355 := n9_; have HB := n10_; clear n0_ n1_ n2_ n3_ n4_ n5_ n6_ n7_ n8_ n9_ n10_; (try clear hb); (try clear hk)))
             go_meet
             case rel => exact ⟨_, (true), (by first | rfl | (simp; done) | (simp [*]; done)), H', ⟨by have := HJ10.out; have := HJ59.out; first | omega | exact Nat.le_refl _⟩, ⟨by (try simp only [hl328001_59]); (with_reducible repeat (first | apply Kd.R_alloc | apply Kd.R_drewN | apply Kd.R_drew)); exact Kd.R_mono HO_323001.out (fun _ hk => ⟨hk.1.1.1, ⟨hk.1.1.2, hk.2⟩⟩)⟩, ⟨by (try simp only [hl328001_59]); (with_reducible repeat (first | apply Kd.R_alloc | apply Kd.R_drewN | apply Kd.R_drew)); exact Kd.R_mono HO_328001.out (fun _ hk => ⟨hk.1.1.1, ⟨hk.1.1.2, hk.2⟩⟩)⟩, ⟨by (try simp only [hl328001_59]); (with_reducible repeat (first | apply Kd.R_alloc | apply Kd.R_drewN | apply Kd.R_drew)); exact Kd.R_mono HO_334001.out (fun _ hk => ⟨hk.1.1.1, ⟨hk.1.1.2, hk.2⟩⟩)⟩, ⟨by (try simp only [hl328001_59]); (with_reducible repeat (first | apply Kd.R_alloc | apply Kd.R_drewN | apply Kd.R_drew)); exact Kd.R_mono HO353.out (fun _ hk => ⟨hk.1.1.1.2, ⟨hk.1.1.2, hk.1.2⟩⟩)⟩, ⟨by (try simp only [hl328001_59]); (with_reducible repeat (first | refine blk_drewN ?_ _ | refine blk_drew ?_ | refine blk_alloc ?_ _)); exact BK311.out⟩, ⟨by (try simp only [hl328001_59]); (with_reducible repeat (first | refine blk_drewN ?_ _ | refine blk_drew ?_ | refine blk_alloc ?_ _)); exact BK322.out⟩, ⟨by (try simp only [hl328001_59]); (with_reducible repeat (first | refine blk_drewN ?_ _ | refine blk_drew ?_ | refine blk_alloc ?_ _)); exact BK327.out⟩, ⟨by (try simp only [hl328001_59]); (with_reducible repeat (first | refine blk_drewN ?_ _ | refine blk_drew ?_ | refine blk_alloc ?_ _)); exact BK333.out⟩, ⟨by (try simp only [hl328001_59]); (with_reducible repeat (first | refine blk_drewN ?_ _ | refine blk_drew ?_ | refine blk_alloc ?_ _)); exact BK355.out⟩, ⟨by repeat (first | (with_reducible first | exact HB.out | apply below_alloc | apply pw_below_drewN | apply below_drew1 | refine below_set ?_ GE311.out | refine below_set ?_ GE322.out | refine below_set ?_ GE327.out | refine below_set ?_ GE333.out | refine below_set ?_ GE355.out) | exact HB.out)⟩⟩
           case rest =>
            clear HC103
            try clear c3
            try clear c3b0
            try clear c38
            try clear c55
            try clear c58
            try clear c70
            try clear c70b0
            try clear c72
            try clear c89
            try clear c92
            try clear c92b0
            try clear c100
            try clear c100b0
            try clear c100b1
            try clear c125
            try clear hcz107_0
            try clear hcz107_1
            try clear hcz109_0
            try clear hcz109_1
            try clear hcz113_0
            try clear hcz113_1
            try clear hcz122_0
            try clear hcz122_1
            try clear hcz130_0
            try clear hcz130_1
            try clear hcz134_0
            try clear hcz134_1
            try clear hcz13_0
            try clear hcz13_1
            try clear hcz140_0
            try clear hcz140_1
            try clear hcz144_0
            try clear hcz144_1
            try clear hcz15_0
            try clear hcz15_1
            try clear hcz21_0
            try clear hcz21_1
            try clear hcz23_0
            try clear hcz23_1
            try clear hcz28_0
            try clear hcz28_1
            try clear hcz35_0
            try clear hcz35_1
            try clear hcz42_0
            try clear hcz42_1
            try clear hcz45_0
            try clear hcz45_1
            try clear hcz50_0
            try clear hcz50_1
            try clear hcz53_0
            try clear hcz53_1
            try clear hcz5_0
            try clear hcz5_1
            try clear hcz68_0
            try clear hcz68_1
            try clear hcz76_0
            try clear hcz76_1
            try clear hcz79_0
            try clear hcz79_1
            try clear hcz84_0
            try clear hcz84_1
            try clear hcz87_0
            try clear hcz87_1
            try clear hcz96_0
            try clear hcz96_1
            try clear hcz98_0
            try clear hcz98_1
            try clear hfz107_0
            try clear hfz107_1
            try clear hfz109_0
            try clear hfz109_1
            try clear hfz113_0
            try clear hfz113_1
            try clear hfz122_0
            try clear hfz122_1
            try clear hfz130_0
            try clear hfz130_1
            try clear hfz134_0
            try clear hfz134_1
            try clear hfz13_0
            try clear hfz13_1
            try clear hfz140_0
            try clear hfz140_1
            try clear hfz144_0
            try clear hfz144_1
            try clear hfz15_0
            try clear hfz15_1
            try clear hfz21_0
            try clear hfz21_1
            try clear hfz23_0
            try clear hfz23_1
            try clear hfz28_0
            try clear hfz28_1
            try clear hfz35_0
            try clear hfz35_1
            try clear hfz42_0
            try clear hfz42_1
            try clear hfz45_0
            try clear hfz45_1
            try clear hfz50_0
            try clear hfz50_1
            try clear hfz53_0
            try clear hfz53_1
            try clear hfz5_0
            try clear hfz5_1
            try clear hfz68_0
            try clear hfz68_1
            try clear hfz76_0
            try clear hfz76_1
            try clear hfz79_0
            try clear hfz79_1
            try clear hfz84_0
            try clear hfz84_1
            try clear hfz87_0
            try clear hfz87_1
            try clear hfz96_0
            try clear hfz96_1
            try clear hfz98_0
            try clear hfz98_1
            obtain ⟨kq, x87_102, rfl, HA, HJ102, HO_323001, HO_328001, HO_334001, HO_356001, BK311, BK322, BK327, BK333, BK355, HB⟩ := hcut
            have hl334001_102 := (Kd.R_reads' HO_334001.out).1
            rw [hl334001_102] at HO_334001
            (try simp only [hl334001_102])
            (try simp only [hl334001_102] at BK311)
            (try simp only [hl334001_102] at BK322)
            (try simp only [hl334001_102] at BK327)
            (try simp only [hl334001_102] at BK333)
            (try simp only [hl334001_102] at BK355)
            (try simp only [hl334001_102] at HO_323001)
            (try simp only [hl334001_102] at HO_328001)
            (try simp only [hl334001_102] at HO_356001)
            cases kq with
            | zero => exact absurd HA.out (by simp [laws_FnExactConjugateOf.j2])
            | succ kj102 =>
             have H := HA.out
             clear HA
             simp only [laws_FnExactConjugateOf.j2] at H
             by_cases c146 : x87_102 = true
             ·subst c146
              have H1 : (some false) = some r := by rw [if_pos rfl] at H; exact H
              clear H
              have H := H1
              clear H1
              obtain rfl := Option.some.inj H
              go_wp2
              go_ret
              exact ⟨by first | rfl | (simp [errW_none, errW_some] <;> rfl) | (simp [*, errW_none, errW_some] <;> rfl), by repeat (first | (with_reducible first | exact HB.out | apply below_alloc | apply pw_below_drewN | apply below_drew1 | refine below_set ?_ GE311.out | refine below_set ?_ GE322.out | refine below_set ?_ GE327.out | refine below_set ?_ GE333.out | refine below_set ?_ GE355.out) | exact HB.out)⟩
             ·replace c146 := Bool.eq_false_iff.mpr c146
              subst c146
              have H1 : ((laws_heldCyclo.f kj102 t328 t344 1).bind fun t357 => (if t357 < 0 then (some false) else (if t357 = t343 then (some true) else (some false)))) = some r := by rw [if_neg (show ¬ (false = true) by decide)] at H; exact H
              clear H
              have H := H1
              clear H1
              replace H := Option.bind_eq_some_iff.mp H
              obtain ⟨t357, A1470, H⟩ := H
              replace H : (if t357 < 0 then (some false) else (if t357 = t343 then (some true) else (some false))) = some r := H
              have A147 := Aside0.mk A1470
              clear A1470
              by_cases c148 : t357 < 0
              ·rw [if_pos c148] at H
               have c148b0 : decide (t357 < 0) = true := decide_eq_true c148
               clear c148
               obtain rfl := Option.some.inj H
               have hnb149 := NB333_311.out
               have hnc149 := NB311_333.out
               have hnb150 := NB333_322.out
               have hnc150 := NB322_333.out
               have hnb151 := NB333_327.out
               have hnc151 := NB327_333.out
               have hnb152 := NB333_355.out
               have hnc152 := NB355_333.out
               have hcz153_0 : wc.cell? ⟨gb333, 0, none⟩ = some (.int .i64 t328) := (blk_cell BK333.out 0).trans rfl
               have hcz153_1 : wc.cell? ⟨gb333, 1, none⟩ = some (.slice Ao36 t344.length co36) := (blk_cell BK333.out 1).trans rfl
               have hfz153_0 := blk_frozen BK333.out 0
               have hfz153_1 := blk_frozen BK333.out 1
               go_wp2_with (first | ((with_reducible refine gate_callee (f := 21) rfl ?_); refine goesL_ (some 90) rfl rfl Try.func21 (by kernel_rfl) rfl #[.agg #[.int .i64 t328, .slice Ao36 t344.length co36], .int .i64 1] rfl (by (try simp only [List.map_toArray, List.map_cons, List.map_nil]); first | done | rfl | (simp only [List.length_drop, List.length_take]; rfl)) ?_; (with_reducible refine (laws_heldCyclo.calls kj102 t328 _ _ t344 1 t357 _ ?side1 ?side2 A147.out).mono ?_); (case side1 => repeat (first | exact (Kd.R_reads' HO_334001.out).2.2 | (with_reducible refine Kd.C_alloc ?_ _) | (with_reducible refine Kd.C_drewN ?_ _) | (with_reducible refine Kd.C_drew ?_))); (case side2 => exact (Kd.R_reads' HO_334001.out).2.1); rintro e w154 ⟨rfl, hb⟩; refine ⟨_, rfl, ?_⟩; have n0_ := Aside0.mk (Kd.R_below (by (with_reducible repeat (first | apply Kd.R_alloc | apply Kd.R_drewN | apply Kd.R_drew)); exact HO_323001.out) hb); have n1_ := Aside0.mk (Kd.R_below (by (with_reducible repeat (first | apply Kd.R_alloc | apply Kd.R_drewN | apply Kd.R_drew)); exact HO_328001.out) hb); have n2_ := Aside0.mk (Kd.R_below (by (with_reducible repeat (first | apply Kd.R_alloc | apply Kd.R_drewN | apply Kd.R_drew)); exact HO_334001.out) hb); have n3_ := Aside0.mk (Kd.R_below (by (with_reducible repeat (first | apply Kd.R_alloc | apply Kd.R_drewN | apply Kd.R_drew)); exact HO_356001.out) hb); have n4_ := Aside0.mk (blk_below (g := gb311) (o := .cells #[.int .i64 a0_0, .slice A0_1 l0_1.length c0_1] 24 (0, 0)) (by (with_reducible repeat (first | refine blk_drewN ?_ _ | refine blk_drew ?_ | refine blk_alloc ?_ _)); exact BK311.out) hb); have n5_ := Aside0.mk (blk_below (g := gb322) (o := .cells #[.int .i64 t317, .slice Ao22 t318.length co22] 28 (0, 0)) (by (with_reducible repeat (first | refine blk_drewN ?_ _ | refine blk_drew ?_ | refine blk_alloc ?_ _)); exact BK322.out) hb); have n6_ := Aside0.mk (blk_below (g := gb327) (o := .cells #[.int .i64 t323, .slice Ao29 t341.length co29] 28 (0, 0)) (by (with_reducible repeat (first | refine blk_drewN ?_ _ | refine blk_drew ?_ | refine blk_alloc ?_ _)); exact BK327.out) hb); have n7_ := Aside0.mk (blk_below (g := gb333) (o := .cells #[.int .i64 t328, .slice Ao36 t344.length co36] 28 (0, 0)) (by (with_reducible repeat (first | refine blk_drewN ?_ _ | refine blk_drew ?_ | refine blk_alloc ?_ _)); exact BK333.out) hb); have n8_ := Aside0.mk (blk_below (g := gb355) (o := .cells #[.int .i64 t350, .slice Ao123 t351.length co123] 28 (0, 0)) (by (with_reducible repeat (first | refine blk_drewN ?_ _ | refine blk_drew ?_ | refine blk_alloc ?_ _)); exact BK355.out) hb); have n9_ := Aside0.mk (below_step (by repeat (first | (with_reducible first | exact HB.out | apply below_alloc | apply pw_below_drewN | apply below_drew1 | refine below_set ?_ GE311.out | refine below_set ?_ GE322.out | refine below_set ?_ GE327.out | refine below_set ?_ GE333.out | refine below_set ?_ GE355.out) | exact HB.out)) hb); clear HO_323001; clear HO_328001; clear HO_334001; clear HO_356001; clear BK311; clear BK322; clear BK327; clear BK333; clear BK355; clear HB; have HO_323001 := n0_; have HO_328001 := n1_; have HO_334001 := n2_; have HO_356001 := n3_; have BK311 := n4_; have BK322 := n5_; have BK327 := n6_; have BK333 := n7_; have BK355 := n8_; have HB := n9_; clear n0_ n1_ n2_ n3_ n4_ n5_ n6_ n7_ n8_ n9_; (try clear hb)))
               go_ret
               exact ⟨by first | rfl | (simp [errW_none, errW_some] <;> rfl) | (simp [*, errW_none, errW_some] <;> rfl), by repeat (first | (with_reducible first | exact HB.out | apply below_alloc | apply pw_below_drewN | apply below_drew1 | refine below_set ?_ GE311.out | refine below_set ?_ GE322.out | refine below_set ?_ GE327.out | refine below_set ?_ GE333.out | refine below_set ?_ GE355.out) | exact HB.out)⟩
              ·rw [if_neg c148] at H
               have c148b0 : decide (t357 < 0) = false := decide_eq_false c148
               clear c148
               by_cases c155 : t357 = t343
               ·rw [if_pos c155] at H
                have c155b0 : (t357 == t343) = true := beq_iff_eq.mpr c155
                have c155b1 : (t357 != t343) = false := bne_eq_false_iff_eq.mpr c155
                clear c155
                obtain rfl := Option.some.inj H
                have hnb156 := NB333_311.out
                have hnc156 := NB311_333.out
                have hnb157 := NB333_322.out
                have hnc157 := NB322_333.out
                have hnb158 := NB333_327.out
                have hnc158 := NB327_333.out
                have hnb159 := NB333_355.out
                have hnc159 := NB355_333.out
                have hcz160_0 : wc.cell? ⟨gb333, 0, none⟩ = some (.int .i64 t328) := (blk_cell BK333.out 0).trans rfl
                have hcz160_1 : wc.cell? ⟨gb333, 1, none⟩ = some (.slice Ao36 t344.length co36) := (blk_cell BK333.out 1).trans rfl
                have hfz160_0 := blk_frozen BK333.out 0
                have hfz160_1 := blk_frozen BK333.out 1
                go_wp2_with (first | ((with_reducible refine gate_callee (f := 21) rfl ?_); refine goesL_ (some 90) rfl rfl Try.func21 (by kernel_rfl) rfl #[.agg #[.int .i64 t328, .slice Ao36 t344.length co36], .int .i64 1] rfl (by (try simp only [List.map_toArray, List.map_cons, List.map_nil]); first | done | rfl | (simp only [List.length_drop, List.length_take]; rfl)) ?_; (with_reducible refine (laws_heldCyclo.calls kj102 t328 _ _ t344 1 t357 _ ?side1 ?side2 A147.out).mono ?_); (case side1 => repeat (first | exact (Kd.R_reads' HO_334001.out).2.2 | (with_reducible refine Kd.C_alloc ?_ _) | (with_reducible refine Kd.C_drewN ?_ _) | (with_reducible refine Kd.C_drew ?_))); (case side2 => exact (Kd.R_reads' HO_334001.out).2.1); rintro e w161 ⟨rfl, hb⟩; refine ⟨_, rfl, ?_⟩; have n0_ := Aside0.mk (Kd.R_below (by (with_reducible repeat (first | apply Kd.R_alloc | apply Kd.R_drewN | apply Kd.R_drew)); exact HO_323001.out) hb); have n1_ := Aside0.mk (Kd.R_below (by (with_reducible repeat (first | apply Kd.R_alloc | apply Kd.R_drewN | apply Kd.R_drew)); exact HO_328001.out) hb); have n2_ := Aside0.mk (Kd.R_below (by (with_reducible repeat (first | apply Kd.R_alloc | apply Kd.R_drewN | apply Kd.R_drew)); exact HO_334001.out) hb); have n3_ := Aside0.mk (Kd.R_below (by (with_reducible repeat (first | apply Kd.R_alloc | apply Kd.R_drewN | apply Kd.R_drew)); exact HO_356001.out) hb); have n4_ := Aside0.mk (blk_below (g := gb311) (o := .cells #[.int .i64 a0_0, .slice A0_1 l0_1.length c0_1] 24 (0, 0)) (by (with_reducible repeat (first | refine blk_drewN ?_ _ | refine blk_drew ?_ | refine blk_alloc ?_ _)); exact BK311.out) hb); have n5_ := Aside0.mk (blk_below (g := gb322) (o := .cells #[.int .i64 t317, .slice Ao22 t318.length co22] 28 (0, 0)) (by (with_reducible repeat (first | refine blk_drewN ?_ _ | refine blk_drew ?_ | refine blk_alloc ?_ _)); exact BK322.out) hb); have n6_ := Aside0.mk (blk_below (g := gb327) (o := .cells #[.int .i64 t323, .slice Ao29 t341.length co29] 28 (0, 0)) (by (with_reducible repeat (first | refine blk_drewN ?_ _ | refine blk_drew ?_ | refine blk_alloc ?_ _)); exact BK327.out) hb); have n7_ := Aside0.mk (blk_below (g := gb333) (o := .cells #[.int .i64 t328, .slice Ao36 t344.length co36] 28 (0, 0)) (by (with_reducible repeat (first | refine blk_drewN ?_ _ | refine blk_drew ?_ | refine blk_alloc ?_ _)); exact BK333.out) hb); have n8_ := Aside0.mk (blk_below (g := gb355) (o := .cells #[.int .i64 t350, .slice Ao123 t351.length co123] 28 (0, 0)) (by (with_reducible repeat (first | refine blk_drewN ?_ _ | refine blk_drew ?_ | refine blk_alloc ?_ _)); exact BK355.out) hb); have n9_ := Aside0.mk (below_step (by repeat (first | (with_reducible first | exact HB.out | apply below_alloc | apply pw_below_drewN | apply below_drew1 | refine below_set ?_ GE311.out | refine below_set ?_ GE322.out | refine below_set ?_ GE327.out | refine below_set ?_ GE333.out | refine below_set ?_ GE355.out) | exact HB.out)) hb); clear HO_323001; clear HO_328001; clear HO_334001; clear HO_356001; clear BK311; clear BK322; clear BK327; clear BK333; clear BK355; clear HB; have HO_323001 := n0_; have HO_328001 := n1_; have HO_334001 := n2_; have HO_356001 := n3_; have BK311 := n4_; have BK322 := n5_; have BK327 := n6_; have BK333 := n7_; have BK355 := n8_; have HB := n9_; clear n0_ n1_ n2_ n3_ n4_ n5_ n6_ n7_ n8_ n9_; (try clear hb)))
                go_ret
                exact ⟨by first | rfl | (simp [errW_none, errW_some] <;> rfl) | (simp [*, errW_none, errW_some] <;> rfl), by repeat (first | (with_reducible first | exact HB.out | apply below_alloc | apply pw_below_drewN | apply below_drew1 | refine below_set ?_ GE311.out | refine below_set ?_ GE322.out | refine below_set ?_ GE327.out | refine below_set ?_ GE333.out | refine below_set ?_ GE355.out) | exact HB.out)⟩
               ·rw [if_neg c155] at H
                have c155b0 : (t357 == t343) = false := beq_eq_false_iff_ne.mpr c155
                have c155b1 : (t357 != t343) = true := bne_iff_ne.mpr c155
                obtain rfl := Option.some.inj H
                have hnb162 := NB333_311.out
                have hnc162 := NB311_333.out
                have hnb163 := NB333_322.out
                have hnc163 := NB322_333.out
                have hnb164 := NB333_327.out
                have hnc164 := NB327_333.out
                have hnb165 := NB333_355.out
                have hnc165 := NB355_333.out
                have hcz166_0 : wc.cell? ⟨gb333, 0, none⟩ = some (.int .i64 t328) := (blk_cell BK333.out 0).trans rfl
                have hcz166_1 : wc.cell? ⟨gb333, 1, none⟩ = some (.slice Ao36 t344.length co36) := (blk_cell BK333.out 1).trans rfl
                have hfz166_0 := blk_frozen BK333.out 0
                have hfz166_1 := blk_frozen BK333.out 1
                go_wp2_with (first | ((with_reducible refine gate_callee (f := 21) rfl ?_); refine goesL_ (some 90) rfl rfl Try.func21 (by kernel_rfl) rfl #[.agg #[.int .i64 t328, .slice Ao36 t344.length co36], .int .i64 1] rfl (by (try simp only [List.map_toArray, List.map_cons, List.map_nil]); first | done | rfl | (simp only [List.length_drop, List.length_take]; rfl)) ?_; (with_reducible refine (laws_heldCyclo.calls kj102 t328 _ _ t344 1 t357 _ ?side1 ?side2 A147.out).mono ?_); (case side1 => repeat (first | exact (Kd.R_reads' HO_334001.out).2.2 | (with_reducible refine Kd.C_alloc ?_ _) | (with_reducible refine Kd.C_drewN ?_ _) | (with_reducible refine Kd.C_drew ?_))); (case side2 => exact (Kd.R_reads' HO_334001.out).2.1); rintro e w167 ⟨rfl, hb⟩; refine ⟨_, rfl, ?_⟩; have n0_ := Aside0.mk (Kd.R_below (by (with_reducible repeat (first | apply Kd.R_alloc | apply Kd.R_drewN | apply Kd.R_drew)); exact HO_323001.out) hb); have n1_ := Aside0.mk (Kd.R_below (by (with_reducible repeat (first | apply Kd.R_alloc | apply Kd.R_drewN | apply Kd.R_drew)); exact HO_328001.out) hb); have n2_ := Aside0.mk (Kd.R_below (by (with_reducible repeat (first | apply Kd.R_alloc | apply Kd.R_drewN | apply Kd.R_drew)); exact HO_334001.out) hb); have n3_ := Aside0.mk (Kd.R_below (by (with_reducible repeat (first | apply Kd.R_alloc | apply Kd.R_drewN | apply Kd.R_drew)); exact HO_356001.out) hb); have n4_ := Aside0.mk (blk_below (g := gb311) (o := .cells #[.int .i64 a0_0, .slice A0_1 l0_1.length c0_1] 24 (0, 0)) (by (with_reducible repeat (first | refine blk_drewN ?_ _ | refine blk_drew ?_ | refine blk_alloc ?_ _)); exact BK311.out) hb); have n5_ := Aside0.mk (blk_below (g := gb322) (o := .cells #[.int .i64 t317, .slice Ao22 t318.length co22] 28 (0, 0)) (by (with_reducible repeat (first | refine blk_drewN ?_ _ | refine blk_drew ?_ | refine blk_alloc ?_ _)); exact BK322.out) hb); have n6_ := Aside0.mk (blk_below (g := gb327) (o := .cells #[.int .i64 t323, .slice Ao29 t341.length co29] 28 (0, 0)) (by (with_reducible repeat (first | refine blk_drewN ?_ _ | refine blk_drew ?_ | refine blk_alloc ?_ _)); exact BK327.out) hb); have n7_ := Aside0.mk (blk_below (g := gb333) (o := .cells #[.int .i64 t328, .slice Ao36 t344.length co36] 28 (0, 0)) (by (with_reducible repeat (first | refine blk_drewN ?_ _ | refine blk_drew ?_ | refine blk_alloc ?_ _)); exact BK333.out) hb); have n8_ := Aside0.mk (blk_below (g := gb355) (o := .cells #[.int .i64 t350, .slice Ao123 t351.length co123] 28 (0, 0)) (by (with_reducible repeat (first | refine blk_drewN ?_ _ | refine blk_drew ?_ | refine blk_alloc ?_ _)); exact BK355.out) hb); have n9_ := Aside0.mk (below_step (by repeat (first | (with_reducible first | exact HB.out | apply below_alloc | apply pw_below_drewN | apply below_drew1 | refine below_set ?_ GE311.out | refine below_set ?_ GE322.out | refine below_set ?_ GE327.out | refine below_set ?_ GE333.out | refine below_set ?_ GE355.out) | exact HB.out)) hb); clear HO_323001; clear HO_328001; clear HO_334001; clear HO_356001; clear BK311; clear BK322; clear BK327; clear BK333; clear BK355; clear HB; have HO_323001 := n0_; have HO_328001 := n1_; have HO_334001 := n2_; have HO_356001 := n3_; have BK311 := n4_; have BK322 := n5_; have BK327 := n6_; have BK333 := n7_; have BK355 := n8_; have HB := n9_; clear n0_ n1_ n2_ n3_ n4_ n5_ n6_ n7_ n8_ n9_; (try clear hb)))
                go_ret
                exact ⟨by first | rfl | (simp [errW_none, errW_some] <;> rfl) | (simp [*, errW_none, errW_some] <;> rfl), by repeat (first | (with_reducible first | exact HB.out | apply below_alloc | apply pw_below_drewN | apply below_drew1 | refine below_set ?_ GE311.out | refine below_set ?_ GE322.out | refine below_set ?_ GE327.out | refine below_set ?_ GE333.out | refine below_set ?_ GE355.out) | exact HB.out)⟩
          ·rw [if_neg c100] at H
           have c100b0 : (t345 == t343) = false := beq_eq_false_iff_ne.mpr c100
           have c100b1 : (t345 != t343) = true := bne_iff_ne.mpr c100
           obtain rfl := Option.some.inj H
           have hnb168 := NB333_311.out
           have hnc168 := NB311_333.out
           have hnb169 := NB333_322.out
           have hnc169 := NB322_333.out
           have hnb170 := NB333_327.out
           have hnc170 := NB327_333.out
           have hcz171_0 : wc.cell? ⟨gb333, 0, none⟩ = some (.int .i64 t328) := (blk_cell BK333.out 0).trans rfl
           have hcz171_1 : wc.cell? ⟨gb333, 1, none⟩ = some (.slice Ao36 t329.length co36) := (blk_cell BK333.out 1).trans rfl
           have hfz171_0 := blk_frozen BK333.out 0
           have hfz171_1 := blk_frozen BK333.out 1
           go_wp2_with (first | ((with_reducible refine gate_callee (f := 20) rfl ?_); refine goesL_ (some 64) rfl rfl Try.func20 (by kernel_rfl) rfl #[.agg #[.int .i64 t328, .slice Ao36 t329.length co36], .int .i64 1] rfl (by (try simp only [List.map_toArray, List.map_cons, List.map_nil]); first | done | rfl | (simp only [List.length_drop, List.length_take]; rfl)) ?_; (with_reducible refine (laws_markCyclo.calls kj59 t328 (fun k_ => some k_ = (.slice Ao36 t329.length co36 : Value).ownBlock) (.slice Ao36 t329.length co36) t329 1 t343 t344 w _ ?side1 ?side2 A90.out).mono ?_); (case side1 => repeat (first | (with_reducible first | exact HB.out | apply below_alloc | apply pw_below_drewN | apply below_drew1 | refine below_set ?_ GE311.out | refine below_set ?_ GE322.out | refine below_set ?_ GE327.out | refine below_set ?_ GE333.out) | exact HB.out)); (case side2 => exact Kd.R_tight rfl HO_334001.out); rintro e w172 ⟨rfl, hy0, hb, hkp⟩; refine ⟨_, rfl, ?_⟩; have n0_ := Aside0.mk (Kd.R_mono (ok' := fun k_ => some k_ ≠ (.slice Ao29 t341.length co29 : Value).ownBlock ∧ some k_ ≠ (.slice Ao36 t329.length co36 : Value).ownBlock) (Kd.R_keptB (HO_323001.out) hkp (fun k_ hk_ hs_ => (hk_.2) hs_)) (fun k_ hk_ => ⟨hk_.1.1, hk_.1.2⟩)); have n1_ := Aside0.mk (Kd.R_mono (ok' := fun k_ => some k_ ≠ (.slice Ao22 t318.length co22 : Value).ownBlock ∧ some k_ ≠ (.slice Ao36 t329.length co36 : Value).ownBlock) (Kd.R_keptB (HO_328001.out) hkp (fun k_ hk_ hs_ => (hk_.2) hs_)) (fun k_ hk_ => ⟨hk_.1.1, hk_.1.2⟩)); have n2_ := Aside0.mk (Kd.R_reok rfl hy0 (fun k_ e_ => HO_334001.out.1 k_ e_)); have n3_ := Aside0.mk (blk_kept (by (with_reducible repeat (first | refine blk_drewN ?_ _ | refine blk_drew ?_ | refine blk_alloc ?_ _)); exact BK311.out) hkp (fun hs_ => (fun e_ => (Kd.R_ne HO_334001.out BK311.out (by decide)) e_) hs_)); have n4_ := Aside0.mk (blk_kept (by (with_reducible repeat (first | refine blk_drewN ?_ _ | refine blk_drew ?_ | refine blk_alloc ?_ _)); exact BK322.out) hkp (fun hs_ => (fun e_ => (Kd.R_ne HO_334001.out BK322.out (by decide)) e_) hs_)); have n5_ := Aside0.mk (blk_kept (by (with_reducible repeat (first | refine blk_drewN ?_ _ | refine blk_drew ?_ | refine blk_alloc ?_ _)); exact BK327.out) hkp (fun hs_ => (fun e_ => (Kd.R_ne HO_334001.out BK327.out (by decide)) e_) hs_)); have n6_ := Aside0.mk (blk_kept (by (with_reducible repeat (first | refine blk_drewN ?_ _ | refine blk_drew ?_ | refine blk_alloc ?_ _)); exact BK333.out) hkp (fun hs_ => (fun e_ => (Kd.R_ne HO_334001.out BK333.out (by decide)) e_) hs_)); have n7_ := Aside0.mk (hb); clear HO_323001; clear HO_328001; clear HO_334001; clear BK311; clear BK322; clear BK327; clear BK333; clear HB; have HO_323001 := n0_; have HO_328001 := n1_; have HO_334001 := n2_; have BK311 := n3_; have BK322 := n4_; have BK327 := n5_; have BK333 := n6_; have HB := n7_; clear n0_ n1_ n2_ n3_ n4_ n5_ n6_ n7_; (try clear hb); (try clear hkp); (try clear hy0); have hcz173_0 : w172.cell? ⟨gb333, 0, none⟩ = some (.int .i64 t328) := (blk_cell BK333.out 0).trans rfl; have hcz173_1 : w172.cell? ⟨gb333, 1, none⟩ = some (.slice Ao36 t329.length co36) := (blk_cell BK333.out 1).trans rfl; have hfz173_0 := blk_frozen BK333.out 0; have hfz173_1 := blk_frozen BK333.out 1) | ((with_reducible refine gate_callee (f := 21) rfl ?_); refine goesL_ (some 67) rfl rfl Try.func21 (by kernel_rfl) rfl #[.agg #[.int .i64 t328, .slice Ao36 t344.length co36], .int .i64 1] rfl (by (try simp only [List.map_toArray, List.map_cons, List.map_nil]); first | done | (rw [show t344.length = t329.length from (Kd.R_reads' HO_334001.out).1.symm] <;> rfl) | rfl | (simp only [List.length_drop, List.length_take]; rfl)) ?_; (with_reducible refine (laws_heldCyclo.calls kj59 t328 _ _ t344 1 t345 _ ?side1 ?side2 A91.out).mono ?_); (case side1 => repeat (first | exact (Kd.R_reads' HO_334001.out).2.2 | (with_reducible refine Kd.C_alloc ?_ _) | (with_reducible refine Kd.C_drewN ?_ _) | (with_reducible refine Kd.C_drew ?_))); (case side2 => rw [show t344.length = t329.length from (Kd.R_reads' HO_334001.out).1.symm]; exact (Kd.R_reads' HO_334001.out).2.1); rintro e w174 ⟨rfl, hb⟩; refine ⟨_, rfl, ?_⟩; have n0_ := Aside0.mk (Kd.R_below (by (with_reducible repeat (first | apply Kd.R_alloc | apply Kd.R_drewN | apply Kd.R_drew)); exact HO_323001.out) hb); have n1_ := Aside0.mk (Kd.R_below (by (with_reducible repeat (first | apply Kd.R_alloc | apply Kd.R_drewN | apply Kd.R_drew)); exact HO_328001.out) hb); have n2_ := Aside0.mk (Kd.R_below (by (with_reducible repeat (first | apply Kd.R_alloc | apply Kd.R_drewN | apply Kd.R_drew)); exact HO_334001.out) hb); have n3_ := Aside0.mk (blk_below (g := gb311) (o := .cells #[.int .i64 a0_0, .slice A0_1 l0_1.length c0_1] 24 (0, 0)) (by (with_reducible repeat (first | refine blk_drewN ?_ _ | refine blk_drew ?_ | refine blk_alloc ?_ _)); exact BK311.out) hb); have n4_ := Aside0.mk (blk_below (g := gb322) (o := .cells #[.int .i64 t317, .slice Ao22 t318.length co22] 28 (0, 0)) (by (with_reducible repeat (first | refine blk_drewN ?_ _ | refine blk_drew ?_ | refine blk_alloc ?_ _)); exact BK322.out) hb); have n5_ := Aside0.mk (blk_below (g := gb327) (o := .cells #[.int .i64 t323, .slice Ao29 t341.length co29] 28 (0, 0)) (by (with_reducible repeat (first | refine blk_drewN ?_ _ | refine blk_drew ?_ | refine blk_alloc ?_ _)); exact BK327.out) hb); have n6_ := Aside0.mk (blk_below (g := gb333) (o := .cells #[.int .i64 t328, .slice Ao36 t329.length co36] 28 (0, 0)) (by (with_reducible repeat (first | refine blk_drewN ?_ _ | refine blk_drew ?_ | refine blk_alloc ?_ _)); exact BK333.out) hb); have n7_ := Aside0.mk (below_step (by repeat (first | (with_reducible first | exact HB.out | apply below_alloc | apply pw_below_drewN | apply below_drew1 | refine below_set ?_ GE311.out | refine below_set ?_ GE322.out | refine below_set ?_ GE327.out | refine below_set ?_ GE333.out) | exact HB.out)) hb); clear HO_323001; clear HO_328001; clear HO_334001; clear BK311; clear BK322; clear BK327; clear BK333; clear HB; have HO_323001 := n0_; have HO_328001 := n1_; have HO_334001 := n2_; have BK311 := n3_; have BK322 := n4_; have BK327 := n5_; have BK333 := n6_; have HB := n7_; clear n0_ n1_ n2_ n3_ n4_ n5_ n6_ n7_; (try clear hb)))
           go_ret
           exact ⟨by first | rfl | (simp [errW_none, errW_some] <;> rfl) | (simp [*, errW_none, errW_some] <;> rfl), by repeat (first | (with_reducible first | exact HB.out | apply below_alloc | apply pw_below_drewN | apply below_drew1 | refine below_set ?_ GE311.out | refine below_set ?_ GE322.out | refine below_set ?_ GE327.out | refine below_set ?_ GE333.out) | exact HB.out)⟩
     ·replace c58 := Bool.eq_false_iff.mpr c58
      subst c58
      have H1 : (some false) = some r := by rw [if_neg (show ¬ (false = true) by decide)] at H; exact H
      clear H
      have H := H1
      clear H1
      obtain rfl := Option.some.inj H
      try go_wp2
      have n0_ := Aside0.mk (Kd.R_drew HO_323001.out)
      have n1_ := Aside0.mk (Kd.R_drew HO_328001.out)
      have n2_ := Aside0.mk (Kd.R_drew HO_334001.out)
      have n3_ := Aside0.mk (blk_drew BK311.out)
      have n4_ := Aside0.mk (blk_drew BK322.out)
      have n5_ := Aside0.mk (blk_drew BK327.out)
      have n6_ := Aside0.mk (blk_drew BK333.out)
      have n7_ := Aside0.mk (below_drew1 HB.out)
      clear HO_323001
      clear HO_328001
      clear HO_334001
      clear BK311
      clear BK322
      clear BK327
      clear BK333
      clear HB
      have HO_323001 := n0_
      have HO_328001 := n1_
      have HO_334001 := n2_
      have BK311 := n3_
      have BK322 := n4_
      have BK327 := n5_
      have BK333 := n6_
      have HB := n7_
      clear n0_ n1_ n2_ n3_ n4_ n5_ n6_ n7_
      refine start_ (n := 5) (S := fun w' => w'.cell? ⟨gb327, 0, none⟩ = some (.int .i64 t323) ∧ w'.cell? ⟨gb327, 1, none⟩ = some (.slice Ao29 t324.length co29) ∧ w'.cell? ⟨gb311, 0, none⟩ = some (.int .i64 a0_0) ∧ w'.cell? ⟨gb311, 1, none⟩ = some (.slice A0_1 l0_1.length c0_1)) (ds := []) #[false, false, false, false, false] (by kernel_rfl) rfl rfl ⟨(blk_cell BK327.out 0).trans rfl, (blk_cell BK327.out 1).trans rfl, (blk_cell BK311.out 0).trans rfl, (blk_cell BK311.out 1).trans rfl⟩ (fun hHeld => ?_)
      generalize wc.drew = w175 at HO_323001 HO_328001 HO_334001 BK311 BK322 BK327 BK333 HB hHeld ⊢
      refine take_ (i := 0) (N := some 41) (v := ?_) (a' := ?_) #[true, false, false, false, false] rfl rfl (by kernel_rfl) (fun _ _ _ h => h) (Or.inl ⟨by rfl, ?_⟩) hHeld ?_ ?_
      rotate_left
      ·rintro w' ⟨s0, s1, s2, s3⟩
       go_simp
       with_reducible rfl
      rotate_left
      ·simp only [Act.put, List.setIfInBounds_toArray, List.set_cons_zero, List.set_cons_succ, i64_w, i32_w]
       rfl
      refine take_ (i := 1) (N := some 42) (v := ?_) (a' := ?_) #[true, true, false, false, false] rfl rfl (by kernel_rfl) (fun _ _ _ h => h) (Or.inl ⟨by rfl, ?_⟩) hHeld ?_ ?_
      rotate_left
      ·rintro w' ⟨s0, s1, s2, s3⟩
       go_simp
       with_reducible rfl
      rotate_left
      ·simp only [Act.put, List.setIfInBounds_toArray, List.set_cons_zero, List.set_cons_succ, i64_w, i32_w]
       rfl
      refine one_ (i := 2) (N := some 43) #[true, true, true, false, false] rfl rfl (by kernel_rfl) (by decide) (fun K hK => ?_)
      refine goes_ Try.func15 (by kernel_rfl) rfl #[.agg #[.int .i64 a0_0, .slice A0_1 l0_1.length c0_1]] (by rfl) rfl rfl (by (try simp only [List.map_toArray, List.map_cons, List.map_nil]); first | done | rfl | (simp only [List.length_drop, List.length_take]; rfl)) ?_
      with_reducible refine (laws_toCyclo.calls kj10 a0_0 _ _ l0_1 t335 t336 _ ?side1 ?side2 A56.out).mono ?_
      (case side1 => repeat (first | exact (Kd.C_below HR0_1.out HB.out) | (with_reducible refine Kd.C_alloc ?_ _) | (with_reducible refine Kd.C_drewN ?_ _) | (with_reducible refine Kd.C_drew ?_)))
      (case side2 => exact HC0_1.out)
      rintro e w176 ⟨v337, rfl, ho0, hb⟩
      refine ⟨_, rfl, ?_⟩
      have n0_ := Aside0.mk (Kd.R_elder' (by (with_reducible repeat (first | apply Kd.R_alloc | apply Kd.R_drewN | apply Kd.R_drew)); exact HO_323001.out) (Kd.R_base ho0) hb)
      have n1_ := Aside0.mk (Kd.R_elder' (by (with_reducible repeat (first | apply Kd.R_alloc | apply Kd.R_drewN | apply Kd.R_drew)); exact HO_328001.out) (Kd.R_base ho0) hb)
      have n2_ := Aside0.mk (Kd.R_elder' (by (with_reducible repeat (first | apply Kd.R_alloc | apply Kd.R_drewN | apply Kd.R_drew)); exact HO_334001.out) (Kd.R_base ho0) hb)
      have n3_ := Aside0.mk (Kd.R_lower (Kd.R_new' (Kd.R_new' (Kd.R_new' ho0 (Kd.R_lt (by (with_reducible repeat (first | apply Kd.R_alloc | apply Kd.R_drewN | apply Kd.R_drew)); exact HO_323001.out))) (Kd.R_lt (by (with_reducible repeat (first | apply Kd.R_alloc | apply Kd.R_drewN | apply Kd.R_drew)); exact HO_328001.out))) (Kd.R_lt (by (with_reducible repeat (first | apply Kd.R_alloc | apply Kd.R_drewN | apply Kd.R_drew)); exact HO_334001.out))) (below_size (by repeat (first | (with_reducible first | exact HB.out | apply below_alloc | apply pw_below_drewN | apply below_drew1 | refine below_set ?_ GE311.out | refine below_set ?_ GE322.out | refine below_set ?_ GE327.out | refine below_set ?_ GE333.out) | exact HB.out))))
      have n4_ := Aside0.mk (blk_below (g := gb311) (o := .cells #[.int .i64 a0_0, .slice A0_1 l0_1.length c0_1] 24 (0, 0)) (by (with_reducible repeat (first | refine blk_drewN ?_ _ | refine blk_drew ?_ | refine blk_alloc ?_ _)); exact BK311.out) hb)
      have n5_ := Aside0.mk (blk_below (g := gb322) (o := .cells #[.int .i64 t317, .slice Ao22 t318.length co22] 28 (0, 0)) (by (with_reducible repeat (first | refine blk_drewN ?_ _ | refine blk_drew ?_ | refine blk_alloc ?_ _)); exact BK322.out) hb)
      have n6_ := Aside0.mk (blk_below (g := gb327) (o := .cells #[.int .i64 t323, .slice Ao29 t324.length co29] 28 (0, 0)) (by (with_reducible repeat (first | refine blk_drewN ?_ _ | refine blk_drew ?_ | refine blk_alloc ?_ _)); exact BK327.out) hb)
      have n7_ := Aside0.mk (blk_below (g := gb333) (o := .cells #[.int .i64 t328, .slice Ao36 t329.length co36] 28 (0, 0)) (by (with_reducible repeat (first | refine blk_drewN ?_ _ | refine blk_drew ?_ | refine blk_alloc ?_ _)); exact BK333.out) hb)
      have n8_ := Aside0.mk (below_step (by repeat (first | (with_reducible first | exact HB.out | apply below_alloc | apply pw_below_drewN | apply below_drew1 | refine below_set ?_ GE311.out | refine below_set ?_ GE322.out | refine below_set ?_ GE327.out | refine below_set ?_ GE333.out) | exact HB.out)) hb)
      clear HO_323001
      clear HO_328001
      clear HO_334001
      clear BK311
      clear BK322
      clear BK327
      clear BK333
      clear HB
      have HO_323001 := n0_
      have HO_328001 := n1_
      have HO_334001 := n2_
      have HO338 := n3_
      have BK311 := n4_
      have BK322 := n5_
      have BK327 := n6_
      have BK333 := n7_
      have HB := n8_
      clear n0_ n1_ n2_ n3_ n4_ n5_ n6_ n7_ n8_
      (try clear hb)
      (try clear ho0)
      obtain ⟨Ao177, co177, eo177⟩ := Kd.R_slice HO338.out
      (first | subst eo177 | (injection eo177 with f1_ f2_ f3_; have f4_ := f1_.symm; have f5_ := f3_.symm; clear f1_ f2_ f3_; subst f4_; subst f5_))
      refine hK.out _ _ ⟨(blk_cell BK327.out 0).trans rfl, (blk_cell BK327.out 1).trans rfl, (blk_cell BK311.out 0).trans rfl, (blk_cell BK311.out 1).trans rfl⟩ (fun hHeld => ?_)
      clear hK K
      refine norm_ (a' := ?_) ?_ ?_
      rotate_left
      ·show Act.put _ (some 43) _ = _
       simp only [Act.put, List.setIfInBounds_toArray, List.set_cons_zero, List.set_cons_succ, i64_w, i32_w]
       rfl
      refine one_ (i := 3) (N := some 44) #[true, true, true, true, false] rfl rfl (by kernel_rfl) (by decide) (fun K hK => ?_)
      refine goes_ Try.func17 (by kernel_rfl) rfl #[.agg #[.int .i64 t323, .slice Ao29 t324.length co29], .agg #[.int .i64 t335, .slice Ao177 t336.length co177]] (by rfl) rfl rfl (by (try simp only [List.map_toArray, List.map_cons, List.map_nil]); first | done | rfl | (simp only [List.length_drop, List.length_take]; rfl)) ?_
      with_reducible refine (laws_eqCyclo.calls kj10 t323 _ _ t324 t335 _ _ t336 false _ ?side1 ?side2 ?side3 ?side4 A57.out).mono ?_
      (case side1 => repeat (first | exact (Kd.R_reads' HO_328001.out).2.2 | (with_reducible refine Kd.C_alloc ?_ _) | (with_reducible refine Kd.C_drewN ?_ _) | (with_reducible refine Kd.C_drew ?_)))
      (case side2 => exact (Kd.R_reads' HO_328001.out).2.1)
      (case side3 => repeat (first | exact (Kd.R_reads' HO338.out).2.2 | (with_reducible refine Kd.C_alloc ?_ _) | (with_reducible refine Kd.C_drewN ?_ _) | (with_reducible refine Kd.C_drew ?_)))
      (case side4 => exact (Kd.R_reads' HO338.out).2.1)
      rintro e w178 ⟨rfl, hb⟩
      refine ⟨_, rfl, ?_⟩
      have n0_ := Aside0.mk (Kd.R_below (by (with_reducible repeat (first | apply Kd.R_alloc | apply Kd.R_drewN | apply Kd.R_drew)); exact HO_323001.out) hb)
      have n1_ := Aside0.mk (Kd.R_below (by (with_reducible repeat (first | apply Kd.R_alloc | apply Kd.R_drewN | apply Kd.R_drew)); exact HO_328001.out) hb)
      have n2_ := Aside0.mk (Kd.R_below (by (with_reducible repeat (first | apply Kd.R_alloc | apply Kd.R_drewN | apply Kd.R_drew)); exact HO_334001.out) hb)
      have n3_ := Aside0.mk (Kd.R_below (by (with_reducible repeat (first | apply Kd.R_alloc | apply Kd.R_drewN | apply Kd.R_drew)); exact HO338.out) hb)
      have n4_ := Aside0.mk (blk_below (g := gb311) (o := .cells #[.int .i64 a0_0, .slice A0_1 l0_1.length c0_1] 24 (0, 0)) (by (with_reducible repeat (first | refine blk_drewN ?_ _ | refine blk_drew ?_ | refine blk_alloc ?_ _)); exact BK311.out) hb)
      have n5_ := Aside0.mk (blk_below (g := gb322) (o := .cells #[.int .i64 t317, .slice Ao22 t318.length co22] 28 (0, 0)) (by (with_reducible repeat (first | refine blk_drewN ?_ _ | refine blk_drew ?_ | refine blk_alloc ?_ _)); exact BK322.out) hb)
      have n6_ := Aside0.mk (blk_below (g := gb327) (o := .cells #[.int .i64 t323, .slice Ao29 t324.length co29] 28 (0, 0)) (by (with_reducible repeat (first | refine blk_drewN ?_ _ | refine blk_drew ?_ | refine blk_alloc ?_ _)); exact BK327.out) hb)
      have n7_ := Aside0.mk (blk_below (g := gb333) (o := .cells #[.int .i64 t328, .slice Ao36 t329.length co36] 28 (0, 0)) (by (with_reducible repeat (first | refine blk_drewN ?_ _ | refine blk_drew ?_ | refine blk_alloc ?_ _)); exact BK333.out) hb)
      have n8_ := Aside0.mk (below_step (by repeat (first | (with_reducible first | exact HB.out | apply below_alloc | apply pw_below_drewN | apply below_drew1 | refine below_set ?_ GE311.out | refine below_set ?_ GE322.out | refine below_set ?_ GE327.out | refine below_set ?_ GE333.out) | exact HB.out)) hb)
      clear HO_323001
      clear HO_328001
      clear HO_334001
      clear HO338
      clear BK311
      clear BK322
      clear BK327
      clear BK333
      clear HB
      have HO_323001 := n0_
      have HO_328001 := n1_
      have HO_334001 := n2_
      have HO338 := n3_
      have BK311 := n4_
      have BK322 := n5_
      have BK327 := n6_
      have BK333 := n7_
      have HB := n8_
      clear n0_ n1_ n2_ n3_ n4_ n5_ n6_ n7_ n8_
      (try clear hb)
      refine hK.out _ _ ⟨(blk_cell BK327.out 0).trans rfl, (blk_cell BK327.out 1).trans rfl, (blk_cell BK311.out 0).trans rfl, (blk_cell BK311.out 1).trans rfl⟩ (fun hHeld => ?_)
      clear hK K
      refine norm_ (a' := ?_) ?_ ?_
      rotate_left
      ·show Act.put _ (some 44) _ = _
       simp only [Act.put, List.setIfInBounds_toArray, List.set_cons_zero, List.set_cons_succ, i64_w, i32_w]
       rfl
      refine pure_ (i := 4) (N := some 45) (v := ?_) (a' := ?_) #[true, true, true, true, true] rfl rfl (by kernel_rfl) (fun _ _ _ h => h) (Or.inl ⟨by rfl, ?_⟩) ?_ ?_
      rotate_left
      ·intro w'
       go_simp
       with_reducible rfl
      rotate_left
      ·simp only [Act.put, List.setIfInBounds_toArray, List.set_cons_zero, List.set_cons_succ, i64_w, i32_w]
       rfl
      refine done_ (by kernel_rfl) ?_
      try go_wp2
      go_ret
      exact ⟨by first | rfl | (simp [errW_none, errW_some] <;> rfl) | (simp [*, errW_none, errW_some] <;> rfl), by repeat (first | (with_reducible first | exact HB.out | apply below_alloc | apply pw_below_drewN | apply below_drew1 | refine below_set ?_ GE311.out | refine below_set ?_ GE322.out | refine below_set ?_ GE327.out | refine below_set ?_ GE333.out) | exact HB.out)⟩

/-- THE ONE PURE STATEMENT of laws_FnExactConjugateOf: yours. -/
def laws_FnExactConjugateOf.Pure : Prop := ∀ (a0_0 : Int) (l0_1 : List Int), (Lit.int .i64 a0_0).wf = true → l0_1.length ≤ maxLen → (∀ x ∈ l0_1, (Lit.int .i64 x).wf = true) → ∃ k, laws_FnExactConjugateOf.f k a0_0 l0_1 = some true
theorem laws_FnExactConjugateOf.walk (P : laws_FnExactConjugateOf.Pure) (a0_0 : Int) (A0_1 : Option Addr) (c0_1 : Nat) (l0_1 : List Int) (w : World) (w0_0 : (Lit.int .i64 a0_0).wf = true) (m0_1 : l0_1.length ≤ maxLen) (v0_1 : ∀ x ∈ l0_1, (Lit.int .i64 x).wf = true) (hr0_1 : Kd.C (Kd.int .i64) w A0_1 l0_1.length l0_1) (hc0_1 : l0_1.length ≤ c0_1) :
  Calls Try.prog 9 #[.agg #[.int .i64 a0_0, .slice A0_1 l0_1.length c0_1]] w fun e w' => e = .returned (.bool true) ∧ Below w.heap.size w w' := by
 obtain ⟨k, h⟩ := P a0_0 l0_1 w0_0 m0_1 v0_1
 refine (laws_FnExactConjugateOf.calls k a0_0 A0_1 c0_1 l0_1 true w hr0_1 hc0_1 h).mono ?_
 rintro e w' ⟨rfl, hd⟩
 exact ⟨rfl, hd⟩

end Go.Proofs.Ytilofmfmfagofaa.XFnExactConjugateOf
