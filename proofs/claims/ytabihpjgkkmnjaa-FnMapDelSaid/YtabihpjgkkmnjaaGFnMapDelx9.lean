/- The functions that the law reaches, as plain Lean functions, and that the machine comes to their answers: laid by a program of this session. Conditions: none. -/
import Derived.Test.YtabihpjgkkmnjaaGFnMapDelx0
import Derived.Test.YtabihpjgkkmnjaaGFnMapDelx1
import Derived.Test.YtabihpjgkkmnjaaGFnMapDelx3
import Derived.Test.YtabihpjgkkmnjaaGFnMapDelx6
import Derived.Test.YtabihpjgkkmnjaaGFnMapDelx7
import Derived.Test.YtabihpjgkkmnjaaGFnMapDelx8
namespace Go.Proofs.Ytabihpjgkkmnjaa.GFnMapDel
open Go.RowKit Go.Proofs.YtabihpjgkkmnjaaW.PrintWords Go.Proofs.YtabihpjgkkmnjaaW.PrintLast Go.Proofs.YtabihpjgkkmnjaaW.PrintMore
attribute [local go_sem] max2_int min2_int max_two min_two max_three min_three max_four min_four   -- for this text's walks alone
set_option linter.unusedVariables false
set_option linter.unusedSimpArgs false
open Go.Proofs.YtabihpjgkkmnjaaW.PrintWords.Kd renaming R_alloc → rA_, R_drewN → rN_, R_drew → rD_, R_types → rT_, R_far → rF_, R_mono → rM_
open Go.Proofs.YtabihpjgkkmnjaaW.PrintWords renaming pw_below_drewN → bN_, below_alloc → bA_, below_drew1 → bD_, blk_alloc → kA_, blk_drewN → kN_, blk_drew → kD_
open Go.Proofs.YtabihpjgkkmnjaaW.PrintWords.Aside0 renaming mk → aS_
theorem field_29_0 (a b : Int) (w : World) : (Instr.field 29 (.agg #[.int .i64 a, .int .i64 b]) 0).run Try.prog w = .ok (.int .i64 a) w := by simp [Instr.field, run_underlying Try.underlying29, part, asAgg, sizeOf, typeInfo]
theorem field_29_1 (a b : Int) (w : World) : (Instr.field 29 (.agg #[.int .i64 a, .int .i64 b]) 1).run Try.prog w = .ok (.int .i64 b) w := by simp [Instr.field, run_underlying Try.underlying29, part, asAgg, sizeOf, typeInfo]
attribute [local go_sem] field_29_0 field_29_1

attribute [local go_sem high] eqA29
/-! ### laws_FnMapDel: function 3 -/
def laws_FnMapDel.l0 : Nat → Int → Int → List (S39) → List (S39) → Int → Int → Option (Bool)
  | 0, _, _, _, _, _, _ => none
  | k + 1, x4, x9, x357000, x363000, x364000, x364001 => if x9 ≤ 99 then (if x9 = x4 then (laws_FnMapDel.l0 k x4 (wrap64 (x9 + 1)) x357000 x363000 x364000 x364001) else ((impl_MapGet.f k x363000 x9).bind fun bt378 => ((impl_MapGet.f k x357000 x9).bind fun bt380 => (if (!(bt378.1 == bt380.1) || (!(bt378.2 == bt380.2))) = true then (some false) else (laws_FnMapDel.l0 k x4 (wrap64 (x9 + 1)) x357000 x363000 x364000 x364001))))) else (if x364000 = 1 then ((laws_tgMap.f k x363000 x357000).bind fun t382 => (some t382)) else ((impl_MapPut.f k x363000 x4 x364001).bind fun bt383 => ((laws_tgMap.f k bt383.1 x357000).bind fun t390 => (some t390))))
def laws_FnMapDel.f (k : Nat) (l0 : List Int) : Option (Bool) := if (l0.length : Int) > 1048576 then (some true) else ((spec_DrawMapDel.f k l0).bind fun bt352 => ((impl_MapDel.f k bt352.1 bt352.2).bind fun bt357 => ((spec_MapDel.f k bt352.1 bt352.2).bind fun bt364 => ((laws_tgMap.f k bt357.1 bt364.1).bind fun t371 => (if t371 = true then (if (!(bt357.2.1 == bt364.2.1) || (!(bt357.2.2 == bt364.2.2))) = true then (some false) else ((spec_MapOk.f k bt352.1).bind fun t372 => (if t372 = true then ((impl_MapOk.f k bt357.1).bind fun t373 => (if t373 = true then ((impl_MapGet.f k bt352.1 bt352.2).bind fun bt374 => (if (!(bt357.2.1 == bt374.1) || (!(bt357.2.2 == bt374.2))) = true then (some false) else ((impl_MapGet.f k bt357.1 bt352.2).bind fun bt376 => (if bt376.1 = 1 then (laws_FnMapDel.l0 k bt352.2 0 bt352.1 bt357.1 bt357.2.1 bt357.2.2) else (some false))))) else (some false))) else (if bt357.2.1 = 0 then (if (bt357.1.length : Int) = 0 then ((laws_tgOk.f k).bind fun t391 => (some t391)) else (some false)) else (some false))))) else (some false))))))
theorem laws_FnMapDel.mono_l : ∀ k, (∀ y0 y1 y2 y3 y4 y5, LeO (laws_FnMapDel.l0 k y0 y1 y2 y3 y4 y5) (laws_FnMapDel.l0 (k + 1) y0 y1 y2 y3 y4 y5))
  | 0 => fun _ _ _ _ _ _ r h => by simp [laws_FnMapDel.l0] at h
  | k + 1 => by
    have ih0 := laws_FnMapDel.mono_l k
    · intro y0 y1 y2 y3 y4 y5
      unfold laws_FnMapDel.l0
      repeat' first
      | (with_reducible exact ih0 _ _ _ _ _ _)
      | (with_reducible exact impl_MapDel.mono _ _ _)
      | (with_reducible exact impl_MapGet.mono _ _ _)
      | (with_reducible exact impl_MapOk.mono _ _)
      | (with_reducible exact impl_MapPut.mono _ _ _ _)
      | (with_reducible exact laws_tgMap.mono _ _ _)
      | (with_reducible exact laws_tgOk.mono _)
      | (with_reducible exact spec_DrawMapDel.mono _ _)
      | (with_reducible exact spec_MapDel.mono _ _ _)
      | (with_reducible exact spec_MapOk.mono _ _)
      | (with_reducible exact LeO.refl _)
      | (with_reducible exact LeO.none _)
      | (with_reducible refine LeO.ite ?_ ?_)
      | (with_reducible refine LeO.bind ?_ (fun _ => ?_))
      | exact ih0 _ _ _ _ _ _
      | exact impl_MapDel.mono _ _ _
      | exact impl_MapGet.mono _ _ _
      | exact impl_MapOk.mono _ _
      | exact impl_MapPut.mono _ _ _ _
      | exact laws_tgMap.mono _ _ _
      | exact laws_tgOk.mono _
      | exact spec_DrawMapDel.mono _ _
      | exact spec_MapDel.mono _ _ _
      | exact spec_MapOk.mono _ _
      | exact LeO.none _
      | refine LeO.ite ?_ ?_
      | refine LeO.bind ?_ (fun _ => ?_)
theorem laws_FnMapDel.mono : ∀ a0 k, LeO (laws_FnMapDel.f k a0) (laws_FnMapDel.f (k + 1) a0) := by
  intro a0 k
  have ih0 := laws_FnMapDel.mono_l k
  unfold laws_FnMapDel.f
  repeat' first
      | (with_reducible exact ih0 _ _ _ _ _ _)
      | (with_reducible exact impl_MapDel.mono _ _ _)
      | (with_reducible exact impl_MapGet.mono _ _ _)
      | (with_reducible exact impl_MapOk.mono _ _)
      | (with_reducible exact impl_MapPut.mono _ _ _ _)
      | (with_reducible exact laws_tgMap.mono _ _ _)
      | (with_reducible exact laws_tgOk.mono _)
      | (with_reducible exact spec_DrawMapDel.mono _ _)
      | (with_reducible exact spec_MapDel.mono _ _ _)
      | (with_reducible exact spec_MapOk.mono _ _)
      | (with_reducible exact LeO.refl _)
      | (with_reducible exact LeO.none _)
      | (with_reducible refine LeO.ite ?_ ?_)
      | (with_reducible refine LeO.bind ?_ (fun _ => ?_))
      | exact ih0 _ _ _ _ _ _
      | exact impl_MapDel.mono _ _ _
      | exact impl_MapGet.mono _ _ _
      | exact impl_MapOk.mono _ _
      | exact impl_MapPut.mono _ _ _ _
      | exact laws_tgMap.mono _ _ _
      | exact laws_tgOk.mono _
      | exact spec_DrawMapDel.mono _ _
      | exact spec_MapDel.mono _ _ _
      | exact spec_MapOk.mono _ _
      | exact LeO.none _
      | refine LeO.ite ?_ ?_
      | refine LeO.bind ?_ (fun _ => ?_)
def laws_FnMapDel.T10 : Bool × List (List Nat × List Nat) := (true, [([], []), ([0], [0]), ([1], [1]), ([2, 1], [2]), ([3], [3]), ([3], [3]), ([3], [3]), ([5, 6, 3, 3], [3, 5, 6]), ([4, 7, 3], [3, 4, 7]), ([3, 8], [3, 8]), ([9, 7], [9]), ([10], [10]), ([10], [10]), ([11, 12, 10, 10], [10, 11, 12]), ([13, 10], [10, 13]), ([14, 10], [10, 14]), ([10, 15], [10, 15])])
def laws_FnMapDel.B10 : List Nat := [0, 1, 3, 7, 15, 15, 15, 111, 255, 511, 1023, 2047, 2047, 8191, 16383, 32767, 65535]
theorem laws_FnMapDel.tab10 : rtab .any (opsOf Try.f3 10) = laws_FnMapDel.T10 := by kernel_rfl
theorem laws_FnMapDel.bits10 : waitsOk laws_FnMapDel.T10.2 laws_FnMapDel.B10 = true := by kernel_rfl
def laws_FnMapDel.T15 : Bool × List (List Nat × List Nat) := (true, [([], []), ([], []), ([0, 1], [0, 1]), ([2], [2]), ([3], [3]), ([3], [3]), ([4, 5, 3, 3], [3, 4, 5]), ([3], [3]), ([3], [3]), ([7, 8, 6, 3], [3, 7, 8]), ([6, 9, 3], [3, 6, 9]), ([3, 10], [3, 10])])
def laws_FnMapDel.B15 : List Nat := [0, 0, 3, 7, 15, 15, 63, 15, 15, 511, 1023, 2047]
theorem laws_FnMapDel.tab15 : rtab .any (opsOf Try.f3 15) = laws_FnMapDel.T15 := by kernel_rfl
theorem laws_FnMapDel.bits15 : waitsOk laws_FnMapDel.T15.2 laws_FnMapDel.B15 = true := by kernel_rfl
set_option maxHeartbeats 8000000 in
set_option maxRecDepth 100000 in
theorem laws_FnMapDel.calls (k : Nat) (A0 : Option Addr) (c0 : Nat) (l0 : List Int) (r : Bool) (w : World) (hr0 : Kd.C (Kd.int .u8) w A0 l0.length l0) (hc0 : l0.length ≤ c0) (ht_ : r = true) (h : laws_FnMapDel.f k l0 = some r) :
    Calls Try.prog 3 #[.slice A0 l0.length c0] w fun e w' => e = .returned (.bool r) ∧ Below w.heap.size w w' := by
  have hu25 := Try.underlying25
  have hu29 := Try.underlying29
  have HR0 := aS_ hr0
  have HC0 := aS_ hc0
  clear hr0 hc0
  have HB := aS_ (Below.refl w.heap.size w)
  have HT := aS_ ht_
  clear ht_
  have H : (if (l0.length : Int) > 1048576 then (some true) else ((spec_DrawMapDel.f k l0).bind fun bt352 => ((impl_MapDel.f k bt352.1 bt352.2).bind fun bt357 => ((spec_MapDel.f k bt352.1 bt352.2).bind fun bt364 => ((laws_tgMap.f k bt357.1 bt364.1).bind fun t371 => (if t371 = true then (if (!(bt357.2.1 == bt364.2.1) || (!(bt357.2.2 == bt364.2.2))) = true then (some false) else ((spec_MapOk.f k bt352.1).bind fun t372 => (if t372 = true then ((impl_MapOk.f k bt357.1).bind fun t373 => (if t373 = true then ((impl_MapGet.f k bt352.1 bt352.2).bind fun bt374 => (if (!(bt357.2.1 == bt374.1) || (!(bt357.2.2 == bt374.2))) = true then (some false) else ((impl_MapGet.f k bt357.1 bt352.2).bind fun bt376 => (if bt376.1 = 1 then (laws_FnMapDel.l0 k bt352.2 0 bt352.1 bt357.1 bt357.2.1 bt357.2.2) else (some false))))) else (some false))) else (if bt357.2.1 = 0 then (if (bt357.1.length : Int) = 0 then ((laws_tgOk.f k).bind fun t391 => (some t391)) else (some false)) else (some false))))) else (some false))))))) = some r := h
  clear h
  by_cases c2 : (l0.length : Int) > 1048576
  · rw [if_pos c2] at H
    have c2b0 : decide (1048576 < (l0.length : Int)) = true := decide_eq_true c2
    have c2b1 : decide (1048576 < l0.length) = true := decide_eq_true (by omega)
    clear c2
    obtain rfl := Option.some.inj H
    go_enter Try.func3, Try.ntmps3
    go_wp2
    go_ret
    exact ⟨by first | rfl | (simp [errW_none, errW_some] <;> rfl) | (simp [*, errW_none, errW_some] <;> rfl), by repeat (first | (with_reducible first | exact HB.out | apply bA_ | apply bN_ | apply bD_) | exact HB.out)⟩
  · rw [if_neg c2] at H
    have c2b0 : decide (1048576 < (l0.length : Int)) = false := decide_eq_false c2
    have c2b1 : decide (1048576 < l0.length) = false := decide_eq_false (by omega)
    clear c2
    replace H := Option.bind_eq_some_iff.mp H
    obtain ⟨⟨t352, t355⟩, A30, H⟩ := H
    replace H : ((impl_MapDel.f k t352 t355).bind fun bt357 => ((spec_MapDel.f k t352 t355).bind fun bt364 => ((laws_tgMap.f k bt357.1 bt364.1).bind fun t371 => (if t371 = true then (if (!(bt357.2.1 == bt364.2.1) || (!(bt357.2.2 == bt364.2.2))) = true then (some false) else ((spec_MapOk.f k t352).bind fun t372 => (if t372 = true then ((impl_MapOk.f k bt357.1).bind fun t373 => (if t373 = true then ((impl_MapGet.f k t352 t355).bind fun bt374 => (if (!(bt357.2.1 == bt374.1) || (!(bt357.2.2 == bt374.2))) = true then (some false) else ((impl_MapGet.f k bt357.1 t355).bind fun bt376 => (if bt376.1 = 1 then (laws_FnMapDel.l0 k t355 0 t352 bt357.1 bt357.2.1 bt357.2.2) else (some false))))) else (some false))) else (if bt357.2.1 = 0 then (if (bt357.1.length : Int) = 0 then ((laws_tgOk.f k).bind fun t391 => (some t391)) else (some false)) else (some false))))) else (some false))))) = some r := H
    have A3 := aS_ A30
    clear A30
    replace H := Option.bind_eq_some_iff.mp H
    obtain ⟨⟨t357, t360, t361⟩, A40, H⟩ := H
    replace H : ((spec_MapDel.f k t352 t355).bind fun bt364 => ((laws_tgMap.f k t357 bt364.1).bind fun t371 => (if t371 = true then (if (!(t360 == bt364.2.1) || (!(t361 == bt364.2.2))) = true then (some false) else ((spec_MapOk.f k t352).bind fun t372 => (if t372 = true then ((impl_MapOk.f k t357).bind fun t373 => (if t373 = true then ((impl_MapGet.f k t352 t355).bind fun bt374 => (if (!(t360 == bt374.1) || (!(t361 == bt374.2))) = true then (some false) else ((impl_MapGet.f k t357 t355).bind fun bt376 => (if bt376.1 = 1 then (laws_FnMapDel.l0 k t355 0 t352 t357 t360 t361) else (some false))))) else (some false))) else (if t360 = 0 then (if (t357.length : Int) = 0 then ((laws_tgOk.f k).bind fun t391 => (some t391)) else (some false)) else (some false))))) else (some false)))) = some r := H
    have A4 := aS_ A40
    clear A40
    replace H := Option.bind_eq_some_iff.mp H
    obtain ⟨⟨t364, t367, t368⟩, A50, H⟩ := H
    replace H : ((laws_tgMap.f k t357 t364).bind fun t371 => (if t371 = true then (if (!(t360 == t367) || (!(t361 == t368))) = true then (some false) else ((spec_MapOk.f k t352).bind fun t372 => (if t372 = true then ((impl_MapOk.f k t357).bind fun t373 => (if t373 = true then ((impl_MapGet.f k t352 t355).bind fun bt374 => (if (!(t360 == bt374.1) || (!(t361 == bt374.2))) = true then (some false) else ((impl_MapGet.f k t357 t355).bind fun bt376 => (if bt376.1 = 1 then (laws_FnMapDel.l0 k t355 0 t352 t357 t360 t361) else (some false))))) else (some false))) else (if t360 = 0 then (if (t357.length : Int) = 0 then ((laws_tgOk.f k).bind fun t391 => (some t391)) else (some false)) else (some false))))) else (some false))) = some r := H
    have A5 := aS_ A50
    clear A50
    replace H := Option.bind_eq_some_iff.mp H
    obtain ⟨t371, A60, H⟩ := H
    replace H : (if t371 = true then (if (!(t360 == t367) || (!(t361 == t368))) = true then (some false) else ((spec_MapOk.f k t352).bind fun t372 => (if t372 = true then ((impl_MapOk.f k t357).bind fun t373 => (if t373 = true then ((impl_MapGet.f k t352 t355).bind fun bt374 => (if (!(t360 == bt374.1) || (!(t361 == bt374.2))) = true then (some false) else ((impl_MapGet.f k t357 t355).bind fun bt376 => (if bt376.1 = 1 then (laws_FnMapDel.l0 k t355 0 t352 t357 t360 t361) else (some false))))) else (some false))) else (if t360 = 0 then (if (t357.length : Int) = 0 then ((laws_tgOk.f k).bind fun t391 => (some t391)) else (some false)) else (some false))))) else (some false)) = some r := H
    have A6 := aS_ A60
    clear A60
    by_cases c7 : t371 = true
    · subst c7
      have H1 : (if (!(t360 == t367) || (!(t361 == t368))) = true then (some false) else ((spec_MapOk.f k t352).bind fun t372 => (if t372 = true then ((impl_MapOk.f k t357).bind fun t373 => (if t373 = true then ((impl_MapGet.f k t352 t355).bind fun bt374 => (if (!(t360 == bt374.1) || (!(t361 == bt374.2))) = true then (some false) else ((impl_MapGet.f k t357 t355).bind fun bt376 => (if bt376.1 = 1 then (laws_FnMapDel.l0 k t355 0 t352 t357 t360 t361) else (some false))))) else (some false))) else (if t360 = 0 then (if (t357.length : Int) = 0 then ((laws_tgOk.f k).bind fun t391 => (some t391)) else (some false)) else (some false))))) = some r := by rw [if_pos rfl] at H; exact H
      clear H
      have H := H1
      clear H1
      by_cases c8 : (!(t360 == t367) || (!(t361 == t368))) = true
      · rw [if_pos c8] at H
        have c8b0 : (!(t360 == t367) || (!(t361 == t368))) = true := c8
        clear c8
        exact absurd (Option.some.inj H) (by rw [HT.out]; decide)
      · rw [if_neg c8] at H
        have c8b0 : (!(t360 == t367) || (!(t361 == t368))) = false := by simpa using c8
        clear c8
        replace H := Option.bind_eq_some_iff.mp H
        obtain ⟨t372, A90, H⟩ := H
        replace H : (if t372 = true then ((impl_MapOk.f k t357).bind fun t373 => (if t373 = true then ((impl_MapGet.f k t352 t355).bind fun bt374 => (if (!(t360 == bt374.1) || (!(t361 == bt374.2))) = true then (some false) else ((impl_MapGet.f k t357 t355).bind fun bt376 => (if bt376.1 = 1 then (laws_FnMapDel.l0 k t355 0 t352 t357 t360 t361) else (some false))))) else (some false))) else (if t360 = 0 then (if (t357.length : Int) = 0 then ((laws_tgOk.f k).bind fun t391 => (some t391)) else (some false)) else (some false))) = some r := H
        have A9 := aS_ A90
        clear A90
        by_cases c10 : t372 = true
        · subst c10
          have H1 : ((impl_MapOk.f k t357).bind fun t373 => (if t373 = true then ((impl_MapGet.f k t352 t355).bind fun bt374 => (if (!(t360 == bt374.1) || (!(t361 == bt374.2))) = true then (some false) else ((impl_MapGet.f k t357 t355).bind fun bt376 => (if bt376.1 = 1 then (laws_FnMapDel.l0 k t355 0 t352 t357 t360 t361) else (some false))))) else (some false))) = some r := by rw [if_pos rfl] at H; exact H
          clear H
          have H := H1
          clear H1
          replace H := Option.bind_eq_some_iff.mp H
          obtain ⟨t373, A110, H⟩ := H
          replace H : (if t373 = true then ((impl_MapGet.f k t352 t355).bind fun bt374 => (if (!(t360 == bt374.1) || (!(t361 == bt374.2))) = true then (some false) else ((impl_MapGet.f k t357 t355).bind fun bt376 => (if bt376.1 = 1 then (laws_FnMapDel.l0 k t355 0 t352 t357 t360 t361) else (some false))))) else (some false)) = some r := H
          have A11 := aS_ A110
          clear A110
          by_cases c12 : t373 = true
          · subst c12
            have H1 : ((impl_MapGet.f k t352 t355).bind fun bt374 => (if (!(t360 == bt374.1) || (!(t361 == bt374.2))) = true then (some false) else ((impl_MapGet.f k t357 t355).bind fun bt376 => (if bt376.1 = 1 then (laws_FnMapDel.l0 k t355 0 t352 t357 t360 t361) else (some false))))) = some r := by rw [if_pos rfl] at H; exact H
            clear H
            have H := H1
            clear H1
            replace H := Option.bind_eq_some_iff.mp H
            obtain ⟨⟨t374, t375⟩, A130, H⟩ := H
            replace H : (if (!(t360 == t374) || (!(t361 == t375))) = true then (some false) else ((impl_MapGet.f k t357 t355).bind fun bt376 => (if bt376.1 = 1 then (laws_FnMapDel.l0 k t355 0 t352 t357 t360 t361) else (some false)))) = some r := H
            have A13 := aS_ A130
            clear A130
            by_cases c14 : (!(t360 == t374) || (!(t361 == t375))) = true
            · rw [if_pos c14] at H
              have c14b0 : (!(t360 == t374) || (!(t361 == t375))) = true := c14
              clear c14
              exact absurd (Option.some.inj H) (by rw [HT.out]; decide)
            · rw [if_neg c14] at H
              have c14b0 : (!(t360 == t374) || (!(t361 == t375))) = false := by simpa using c14
              clear c14
              replace H := Option.bind_eq_some_iff.mp H
              obtain ⟨⟨t376, t377⟩, A150, H⟩ := H
              replace H : (if t376 = 1 then (laws_FnMapDel.l0 k t355 0 t352 t357 t360 t361) else (some false)) = some r := H
              have A15 := aS_ A150
              clear A150
              by_cases c16 : t376 = 1
              · rw [if_pos c16] at H
                have c16b0 : (t376 == 1) = true := beq_iff_eq.mpr c16
                have c16b1 : (t376 != 1) = false := bne_eq_false_iff_eq.mpr c16
                clear c16
                have H' := aS_ H
                clear H
                go_enter Try.func3, Try.ntmps3
                try go_wp2_with (first | ((with_reducible refine gate_callee (f := 11) rfl ?_); refine goesL_ (some 17) rfl rfl Try.func11 (by kernel_rfl) rfl #[.slice A0 l0.length c0] rfl (by (try simp only [List.map_toArray, List.map_cons, List.map_nil]); first | done | rfl | (simp only [List.length_drop, List.length_take]; rfl)) ?_; (with_reducible refine (spec_DrawMapDel.calls k _ _ l0 t352 t355 _ ?side1 ?side2 A3.out).mono ?_); (case side1 => repeat (first | exact HR0.out | (with_reducible refine Kd.C_alloc ?_ _) | (with_reducible refine Kd.C_drewN ?_ _) | (with_reducible refine Kd.C_drew ?_))); (case side2 => exact HC0.out); rintro e w17 ⟨v353, rfl, ho0, hb⟩; refine ⟨_, rfl, ?_⟩; have n0_ := aS_ (Kd.R_lower ho0 (below_size (by repeat (first | (with_reducible first | exact HB.out | apply bA_ | apply bN_ | apply bD_) | exact HB.out)))); have n1_ := aS_ (below_step (by repeat (first | (with_reducible first | exact HB.out | apply bA_ | apply bN_ | apply bD_) | exact HB.out)) hb); clear HB; have HO354 := n0_; have HB := n1_; clear n0_ n1_; (try clear hb); (try clear hb2); (try clear hk); (try clear hi); (try clear ho0)) | ((with_reducible refine gate_dst (N := 3) rfl ?_); (try (refine gate_guard (by rfl) ?_; dsimp only)); refine box_event ?hg (N := 3) ?hd (cs := #[.slice none 0 0]) (t := 25) ?hr ?_; (case hd => rfl); (case hg => rfl); (case hr => first | (go_simp; done) | (go_simp; rfl)); intro gb356 hg w18 hbox hb; have n0_ := aS_ (Kd.R_below (by (with_reducible repeat (first | apply rA_ | apply rN_ | apply rD_)); exact HO354.out) hb); have n1_ := aS_ (below_step (by repeat (first | (with_reducible first | exact HB.out | apply bA_ | apply bN_ | apply bD_) | exact HB.out)) hb); have n2_ := aS_ (hbox); have n3_ := aS_ ((by rw [hg]; exact (below_size (by repeat (first | (with_reducible first | exact HB.out | apply bA_ | apply bN_ | apply bD_) | exact HB.out))) : w.heap.size ≤ gb356)); have n4_ := aS_ ((by rw [hg]; exact (below_size (by repeat (first | (with_reducible first | exact HB.out | apply bA_ | apply bN_ | apply bD_) | exact HB.out))) : w.heap.size ≤ gb356)); clear HO354; clear HB; have HO354 := n0_; have HB := n1_; have BK356 := n2_; have GW356 := n3_; have GE356 := n4_; clear n0_ n1_ n2_ n3_ n4_; clear hb hbox hg; obtain ⟨Ao19, co19, eo19⟩ := Kd.R_slice HO354.out; subst eo19; have hcz20_0 : w18.cell? ⟨gb356, 0, none⟩ = some (.slice none 0 0) := (blk_cell BK356.out 0).trans rfl; have hfz20_0 := blk_frozen BK356.out 0) | ((with_reducible refine gate_callee (f := 12) rfl ?_); refine goesL_ (some 23) rfl rfl Try.func12 (by kernel_rfl) rfl #[.agg #[.slice Ao19 t352.length co19], .int .i64 t355] rfl (by (try simp only [List.map_toArray, List.map_cons, List.map_nil]); first | done | rfl | (simp only [List.length_drop, List.length_take]; rfl)) ?_; (with_reducible refine (impl_MapDel.calls k _ _ t352 t355 t357 t360 t361 _ ?side1 ?side2 A4.out).mono ?_); (case side1 => refine (Kd.R_reads' (e := 39) (base := w.heap.size) (ok := fun k_ => True) (n := t352.length) (c := co19) ?_).2.2; exact (by (with_reducible repeat (first | apply rA_ | apply rN_ | apply rD_)); exact (rM_ (rF_ (p := ⟨gb356, 0, none⟩) (rT_ HO354.out BK356.out (by decide)) (fun _ hk => by first | exact hk.2 | trivial | simp [hk]) (.slice Ao19 t352.length co19)) (fun _ h_ => h_.1)))); (case side2 => exact (Kd.R_reads' HO354.out).2.1); rintro e w21 ⟨v358, rfl, ho0, hb⟩; refine ⟨_, rfl, ?_⟩; have n0_ := aS_ (Kd.R_elder' (by (with_reducible repeat (first | apply rA_ | apply rN_ | apply rD_)); exact (rM_ (rF_ (p := ⟨gb356, 0, none⟩) (rT_ HO354.out BK356.out (by decide)) (fun _ hk => by first | exact hk.2 | trivial | simp [hk]) (.slice Ao19 t352.length co19)) (fun _ h_ => h_.1))) (Kd.R_base ho0) hb); have n1_ := aS_ (Kd.R_lower (Kd.R_new' ho0 (Kd.R_lt (by (with_reducible repeat (first | apply rA_ | apply rN_ | apply rD_)); exact (rM_ (rF_ (p := ⟨gb356, 0, none⟩) (rT_ HO354.out BK356.out (by decide)) (fun _ hk => by first | exact hk.2 | trivial | simp [hk]) (.slice Ao19 t352.length co19)) (fun _ h_ => h_.1))))) (below_size (by repeat (first | (with_reducible first | exact HB.out | apply bA_ | apply bN_ | apply bD_ | refine below_set ?_ GE356.out) | exact HB.out)))); have n2_ := aS_ (blk_below (g := gb356) (o := .cells #[.slice Ao19 t352.length co19] 25 (0, 0)) (by (with_reducible repeat (first | refine kN_ ?_ _ | refine kD_ ?_ | refine kA_ ?_ _)); refine blk_put (cs := #[.slice none 0 0]) ?_ 0 _ rfl; (with_reducible repeat (first | refine kN_ ?_ _ | refine kD_ ?_ | refine kA_ ?_ _)); exact BK356.out) hb); have n3_ := aS_ (below_step (by repeat (first | (with_reducible first | exact HB.out | apply bA_ | apply bN_ | apply bD_ | refine below_set ?_ GE356.out) | exact HB.out)) hb); clear HO354; clear BK356; clear HB; have HO354 := n0_; have HO359 := n1_; have BK356 := n2_; have HB := n3_; clear n0_ n1_ n2_ n3_; (try clear hb); (try clear hb2); (try clear hk); (try clear hi); (try clear ho0)) | ((with_reducible refine gate_dst (N := 5) rfl ?_); (try (refine gate_guard (by rfl) ?_; dsimp only)); refine box_event ?hg (N := 5) ?hd (cs := #[.slice none 0 0]) (t := 25) ?hr ?_; (case hd => rfl); (case hg => rfl); (case hr => first | (go_simp; done) | (go_simp; rfl)); intro gb362 hg w22 hbox hb; have n0_ := aS_ (Kd.R_below (by (with_reducible repeat (first | apply rA_ | apply rN_ | apply rD_)); exact HO354.out) hb); have n1_ := aS_ (Kd.R_below (by (with_reducible repeat (first | apply rA_ | apply rN_ | apply rD_)); exact HO359.out) hb); have n2_ := aS_ (blk_below (g := gb356) (o := .cells #[.slice Ao19 t352.length co19] 25 (0, 0)) (by (with_reducible repeat (first | refine kN_ ?_ _ | refine kD_ ?_ | refine kA_ ?_ _)); exact BK356.out) hb); have n3_ := aS_ (below_step (by repeat (first | (with_reducible first | exact HB.out | apply bA_ | apply bN_ | apply bD_ | refine below_set ?_ GE356.out) | exact HB.out)) hb); have n4_ := aS_ (hbox); have n5_ := aS_ ((by rw [hg]; exact (below_size (by repeat (first | (with_reducible first | exact HB.out | apply bA_ | apply bN_ | apply bD_ | refine below_set ?_ GE356.out) | exact HB.out))) : w.heap.size ≤ gb362)); have n6_ := aS_ ((by rw [hg]; exact (below_size (by repeat (first | (with_reducible first | exact HB.out | apply bA_ | apply bN_ | apply bD_ | refine below_set ?_ GE356.out) | exact HB.out))) : w.heap.size ≤ gb362)); have n7_ := aS_ ((by rw [hg]; exact Nat.ne_of_lt (blk_lt (g := gb356) (o := .cells #[.slice Ao19 t352.length co19] 25 (0, 0)) (by (with_reducible repeat (first | refine kN_ ?_ _ | refine kD_ ?_ | refine kA_ ?_ _)); exact BK356.out)) : gb356 ≠ gb362)); have n8_ := aS_ ((by rw [hg]; exact Nat.ne_of_gt (blk_lt (g := gb356) (o := .cells #[.slice Ao19 t352.length co19] 25 (0, 0)) (by (with_reducible repeat (first | refine kN_ ?_ _ | refine kD_ ?_ | refine kA_ ?_ _)); exact BK356.out)) : gb362 ≠ gb356)); clear HO354; clear HO359; clear BK356; clear HB; have HO354 := n0_; have HO359 := n1_; have BK356 := n2_; have HB := n3_; have BK362 := n4_; have GW362 := n5_; have GE362 := n6_; have NB356_362 := n7_; have NB362_356 := n8_; clear n0_ n1_ n2_ n3_ n4_ n5_ n6_ n7_ n8_; clear hb hbox hg) | ((with_reducible refine gate_dst (N := 6) rfl ?_); (try (refine gate_guard (by rfl) ?_; dsimp only)); refine box_event ?hg (N := 6) ?hd (cs := #[.int .i64 0, .int .i64 0]) (t := 29) ?hr ?_; (case hd => rfl); (case hg => rfl); (case hr => first | (go_simp; done) | (go_simp; rfl)); intro gb363 hg w23 hbox hb; have n0_ := aS_ (Kd.R_below (by (with_reducible repeat (first | apply rA_ | apply rN_ | apply rD_)); exact HO354.out) hb); have n1_ := aS_ (Kd.R_below (by (with_reducible repeat (first | apply rA_ | apply rN_ | apply rD_)); exact HO359.out) hb); have n2_ := aS_ (blk_below (g := gb356) (o := .cells #[.slice Ao19 t352.length co19] 25 (0, 0)) (by (with_reducible repeat (first | refine kN_ ?_ _ | refine kD_ ?_ | refine kA_ ?_ _)); exact BK356.out) hb); have n3_ := aS_ (blk_below (g := gb362) (o := .cells #[.slice none 0 0] 25 (0, 0)) (by (with_reducible repeat (first | refine kN_ ?_ _ | refine kD_ ?_ | refine kA_ ?_ _)); exact BK362.out) hb); have n4_ := aS_ (below_step (by repeat (first | (with_reducible first | exact HB.out | apply bA_ | apply bN_ | apply bD_ | refine below_set ?_ GE356.out | refine below_set ?_ GE362.out) | exact HB.out)) hb); have n5_ := aS_ (hbox); have n6_ := aS_ ((by rw [hg]; exact (below_size (by repeat (first | (with_reducible first | exact HB.out | apply bA_ | apply bN_ | apply bD_ | refine below_set ?_ GE356.out | refine below_set ?_ GE362.out) | exact HB.out))) : w.heap.size ≤ gb363)); have n7_ := aS_ ((by rw [hg]; exact (below_size (by repeat (first | (with_reducible first | exact HB.out | apply bA_ | apply bN_ | apply bD_ | refine below_set ?_ GE356.out | refine below_set ?_ GE362.out) | exact HB.out))) : w.heap.size ≤ gb363)); have n8_ := aS_ ((by rw [hg]; exact Nat.ne_of_lt (blk_lt (g := gb356) (o := .cells #[.slice Ao19 t352.length co19] 25 (0, 0)) (by (with_reducible repeat (first | refine kN_ ?_ _ | refine kD_ ?_ | refine kA_ ?_ _)); exact BK356.out)) : gb356 ≠ gb363)); have n9_ := aS_ ((by rw [hg]; exact Nat.ne_of_gt (blk_lt (g := gb356) (o := .cells #[.slice Ao19 t352.length co19] 25 (0, 0)) (by (with_reducible repeat (first | refine kN_ ?_ _ | refine kD_ ?_ | refine kA_ ?_ _)); exact BK356.out)) : gb363 ≠ gb356)); have n10_ := aS_ ((by rw [hg]; exact Nat.ne_of_lt (blk_lt (g := gb362) (o := .cells #[.slice none 0 0] 25 (0, 0)) (by (with_reducible repeat (first | refine kN_ ?_ _ | refine kD_ ?_ | refine kA_ ?_ _)); exact BK362.out)) : gb362 ≠ gb363)); have n11_ := aS_ ((by rw [hg]; exact Nat.ne_of_gt (blk_lt (g := gb362) (o := .cells #[.slice none 0 0] 25 (0, 0)) (by (with_reducible repeat (first | refine kN_ ?_ _ | refine kD_ ?_ | refine kA_ ?_ _)); exact BK362.out)) : gb363 ≠ gb362)); clear HO354; clear HO359; clear BK356; clear BK362; clear HB; have HO354 := n0_; have HO359 := n1_; have BK356 := n2_; have BK362 := n3_; have HB := n4_; have BK363 := n5_; have GW363 := n6_; have GE363 := n7_; have NB356_363 := n8_; have NB363_356 := n9_; have NB362_363 := n10_; have NB363_362 := n11_; clear n0_ n1_ n2_ n3_ n4_ n5_ n6_ n7_ n8_ n9_ n10_ n11_; clear hb hbox hg; obtain ⟨Ao24, co24, eo24⟩ := Kd.R_slice HO359.out; subst eo24; have hnb25 := NB362_356.out; have hnc25 := NB356_362.out; have hnb26 := NB362_363.out; have hnc26 := NB363_362.out; have hcz27_0 : w23.cell? ⟨gb362, 0, none⟩ = some (.slice none 0 0) := (blk_cell BK362.out 0).trans rfl; have hfz27_0 := blk_frozen BK362.out 0; have hnb28 := NB363_356.out; have hnc28 := NB356_363.out; have hcz29_0 : w23.cell? ⟨gb363, 0, none⟩ = some (.int .i64 0) := (blk_cell BK363.out 0).trans rfl; have hcz29_1 : w23.cell? ⟨gb363, 1, none⟩ = some (.int .i64 0) := (blk_cell BK363.out 1).trans rfl; have hfz29_0 := blk_frozen BK363.out 0; have hfz29_1 := blk_frozen BK363.out 1; have hcz30_0 : w23.cell? ⟨gb356, 0, none⟩ = some (.slice Ao19 t352.length co19) := (blk_cell BK356.out 0).trans rfl; have hfz30_0 := blk_frozen BK356.out 0) | ((with_reducible refine gate_callee (f := 13) rfl ?_); refine goesL_ (some 29) rfl rfl Try.func13 (by kernel_rfl) rfl #[.agg #[.slice Ao19 t352.length co19], .int .i64 t355] rfl (by (try simp only [List.map_toArray, List.map_cons, List.map_nil]); first | done | rfl | (simp only [List.length_drop, List.length_take]; rfl)) ?_; (with_reducible refine (spec_MapDel.calls k _ _ t352 t355 t364 t367 t368 _ ?side1 ?side2 A5.out).mono ?_); (case side1 => refine (Kd.R_reads' (e := 39) (base := w.heap.size) (ok := fun k_ => (True ∧ some k_ ≠ (.slice Ao24 t357.length co24 : Value).ownBlock)) (n := t352.length) (c := co19) ?_).2.2; exact (by (with_reducible repeat (first | apply rA_ | apply rN_ | apply rD_)); exact (rM_ (rM_ (rF_ (p := ⟨gb363, 1, none⟩) (rF_ (p := ⟨gb363, 0, none⟩) (rF_ (p := ⟨gb362, 0, none⟩) (rT_ (rT_ HO354.out BK362.out (by decide)) BK363.out (by decide)) (fun _ hk => by first | exact hk.1.2 | trivial | simp [hk]) (.slice Ao24 t357.length co24)) (fun _ hk => by first | exact hk.2 | trivial | simp [hk]) (.int .i64 t360)) (fun _ hk => by first | exact hk.2 | trivial | simp [hk]) (.int .i64 t361)) (fun _ h_ => h_.1)) (fun _ h_ => h_.1)))); (case side2 => exact (Kd.R_reads' HO354.out).2.1); rintro e w31 ⟨v365, rfl, ho0, hb⟩; refine ⟨_, rfl, ?_⟩; have n0_ := aS_ (Kd.R_elder' (by (with_reducible repeat (first | apply rA_ | apply rN_ | apply rD_)); exact (rM_ (rM_ (rF_ (p := ⟨gb363, 1, none⟩) (rF_ (p := ⟨gb363, 0, none⟩) (rF_ (p := ⟨gb362, 0, none⟩) (rT_ (rT_ HO354.out BK362.out (by decide)) BK363.out (by decide)) (fun _ hk => by first | exact hk.1.2 | trivial | simp [hk]) (.slice Ao24 t357.length co24)) (fun _ hk => by first | exact hk.2 | trivial | simp [hk]) (.int .i64 t360)) (fun _ hk => by first | exact hk.2 | trivial | simp [hk]) (.int .i64 t361)) (fun _ h_ => h_.1)) (fun _ h_ => h_.1))) (Kd.R_base ho0) hb); have n1_ := aS_ (Kd.R_elder' (by (with_reducible repeat (first | apply rA_ | apply rN_ | apply rD_)); exact (rM_ (rM_ (rF_ (p := ⟨gb363, 1, none⟩) (rF_ (p := ⟨gb363, 0, none⟩) (rF_ (p := ⟨gb362, 0, none⟩) (rT_ (rT_ HO359.out BK362.out (by decide)) BK363.out (by decide)) (fun _ hk => by first | exact hk.1.2 | trivial | simp [hk]) (.slice Ao24 t357.length co24)) (fun _ hk => by first | exact hk.2 | trivial | simp [hk]) (.int .i64 t360)) (fun _ hk => by first | exact hk.2 | trivial | simp [hk]) (.int .i64 t361)) (fun _ h_ => h_.1)) (fun _ h_ => h_.1))) (Kd.R_base ho0) hb); have n2_ := aS_ (Kd.R_lower (Kd.R_new' (Kd.R_new' ho0 (Kd.R_lt (by (with_reducible repeat (first | apply rA_ | apply rN_ | apply rD_)); exact (rM_ (rM_ (rF_ (p := ⟨gb363, 1, none⟩) (rF_ (p := ⟨gb363, 0, none⟩) (rF_ (p := ⟨gb362, 0, none⟩) (rT_ (rT_ HO354.out BK362.out (by decide)) BK363.out (by decide)) (fun _ hk => by first | exact hk.1.2 | trivial | simp [hk]) (.slice Ao24 t357.length co24)) (fun _ hk => by first | exact hk.2 | trivial | simp [hk]) (.int .i64 t360)) (fun _ hk => by first | exact hk.2 | trivial | simp [hk]) (.int .i64 t361)) (fun _ h_ => h_.1)) (fun _ h_ => h_.1))))) (Kd.R_lt (by (with_reducible repeat (first | apply rA_ | apply rN_ | apply rD_)); exact (rM_ (rM_ (rF_ (p := ⟨gb363, 1, none⟩) (rF_ (p := ⟨gb363, 0, none⟩) (rF_ (p := ⟨gb362, 0, none⟩) (rT_ (rT_ HO359.out BK362.out (by decide)) BK363.out (by decide)) (fun _ hk => by first | exact hk.1.2 | trivial | simp [hk]) (.slice Ao24 t357.length co24)) (fun _ hk => by first | exact hk.2 | trivial | simp [hk]) (.int .i64 t360)) (fun _ hk => by first | exact hk.2 | trivial | simp [hk]) (.int .i64 t361)) (fun _ h_ => h_.1)) (fun _ h_ => h_.1))))) (below_size (by repeat (first | (with_reducible first | exact HB.out | apply bA_ | apply bN_ | apply bD_ | refine below_set ?_ GE356.out | refine below_set ?_ GE362.out | refine below_set ?_ GE363.out) | exact HB.out)))); have n3_ := aS_ (blk_below (g := gb356) (o := .cells #[.slice Ao19 t352.length co19] 25 (0, 0)) (by (with_reducible repeat (first | refine kN_ ?_ _ | refine kD_ ?_ | refine kA_ ?_ _)); refine blk_far ?_ NB356_363.out _; (with_reducible repeat (first | refine kN_ ?_ _ | refine kD_ ?_ | refine kA_ ?_ _)); refine blk_far ?_ NB356_363.out _; (with_reducible repeat (first | refine kN_ ?_ _ | refine kD_ ?_ | refine kA_ ?_ _)); refine blk_far ?_ NB356_362.out _; (with_reducible repeat (first | refine kN_ ?_ _ | refine kD_ ?_ | refine kA_ ?_ _)); exact BK356.out) hb); have n4_ := aS_ (blk_below (g := gb362) (o := .cells #[.slice Ao24 t357.length co24] 25 (0, 0)) (by (with_reducible repeat (first | refine kN_ ?_ _ | refine kD_ ?_ | refine kA_ ?_ _)); refine blk_far ?_ NB362_363.out _; (with_reducible repeat (first | refine kN_ ?_ _ | refine kD_ ?_ | refine kA_ ?_ _)); refine blk_far ?_ NB362_363.out _; (with_reducible repeat (first | refine kN_ ?_ _ | refine kD_ ?_ | refine kA_ ?_ _)); refine blk_put (cs := #[.slice none 0 0]) ?_ 0 _ rfl; (with_reducible repeat (first | refine kN_ ?_ _ | refine kD_ ?_ | refine kA_ ?_ _)); exact BK362.out) hb); have n5_ := aS_ (blk_below (g := gb363) (o := .cells #[.int .i64 t360, .int .i64 t361] 29 (0, 0)) (by (with_reducible repeat (first | refine kN_ ?_ _ | refine kD_ ?_ | refine kA_ ?_ _)); refine blk_put (cs := #[.int .i64 t360, .int .i64 0]) ?_ 1 _ rfl; (with_reducible repeat (first | refine kN_ ?_ _ | refine kD_ ?_ | refine kA_ ?_ _)); refine blk_put (cs := #[.int .i64 0, .int .i64 0]) ?_ 0 _ rfl; (with_reducible repeat (first | refine kN_ ?_ _ | refine kD_ ?_ | refine kA_ ?_ _)); refine blk_far ?_ NB363_362.out _; (with_reducible repeat (first | refine kN_ ?_ _ | refine kD_ ?_ | refine kA_ ?_ _)); exact BK363.out) hb); have n6_ := aS_ (below_step (by repeat (first | (with_reducible first | exact HB.out | apply bA_ | apply bN_ | apply bD_ | refine below_set ?_ GE356.out | refine below_set ?_ GE362.out | refine below_set ?_ GE363.out) | exact HB.out)) hb); clear HO354; clear HO359; clear BK356; clear BK362; clear BK363; clear HB; have HO354 := n0_; have HO359 := n1_; have HO366 := n2_; have BK356 := n3_; have BK362 := n4_; have BK363 := n5_; have HB := n6_; clear n0_ n1_ n2_ n3_ n4_ n5_ n6_; (try clear hb); (try clear hb2); (try clear hk); (try clear hi); (try clear ho0)) | ((with_reducible refine gate_dst (N := 7) rfl ?_); (try (refine gate_guard (by rfl) ?_; dsimp only)); refine box_event ?hg (N := 7) ?hd (cs := #[.slice none 0 0]) (t := 25) ?hr ?_; (case hd => rfl); (case hg => rfl); (case hr => first | (go_simp; done) | (go_simp; rfl)); intro gb369 hg w32 hbox hb; have n0_ := aS_ (Kd.R_below (by (with_reducible repeat (first | apply rA_ | apply rN_ | apply rD_)); exact HO354.out) hb); have n1_ := aS_ (Kd.R_below (by (with_reducible repeat (first | apply rA_ | apply rN_ | apply rD_)); exact HO359.out) hb); have n2_ := aS_ (Kd.R_below (by (with_reducible repeat (first | apply rA_ | apply rN_ | apply rD_)); exact HO366.out) hb); have n3_ := aS_ (blk_below (g := gb356) (o := .cells #[.slice Ao19 t352.length co19] 25 (0, 0)) (by (with_reducible repeat (first | refine kN_ ?_ _ | refine kD_ ?_ | refine kA_ ?_ _)); exact BK356.out) hb); have n4_ := aS_ (blk_below (g := gb362) (o := .cells #[.slice Ao24 t357.length co24] 25 (0, 0)) (by (with_reducible repeat (first | refine kN_ ?_ _ | refine kD_ ?_ | refine kA_ ?_ _)); exact BK362.out) hb); have n5_ := aS_ (blk_below (g := gb363) (o := .cells #[.int .i64 t360, .int .i64 t361] 29 (0, 0)) (by (with_reducible repeat (first | refine kN_ ?_ _ | refine kD_ ?_ | refine kA_ ?_ _)); exact BK363.out) hb); have n6_ := aS_ (below_step (by repeat (first | (with_reducible first | exact HB.out | apply bA_ | apply bN_ | apply bD_ | refine below_set ?_ GE356.out | refine below_set ?_ GE362.out | refine below_set ?_ GE363.out) | exact HB.out)) hb); have n7_ := aS_ (hbox); have n8_ := aS_ ((by rw [hg]; exact (below_size (by repeat (first | (with_reducible first | exact HB.out | apply bA_ | apply bN_ | apply bD_ | refine below_set ?_ GE356.out | refine below_set ?_ GE362.out | refine below_set ?_ GE363.out) | exact HB.out))) : w.heap.size ≤ gb369)); have n9_ := aS_ ((by rw [hg]; exact (below_size (by repeat (first | (with_reducible first | exact HB.out | apply bA_ | apply bN_ | apply bD_ | refine below_set ?_ GE356.out | refine below_set ?_ GE362.out | refine below_set ?_ GE363.out) | exact HB.out))) : w.heap.size ≤ gb369)); have n10_ := aS_ ((by rw [hg]; exact Nat.ne_of_lt (blk_lt (g := gb356) (o := .cells #[.slice Ao19 t352.length co19] 25 (0, 0)) (by (with_reducible repeat (first | refine kN_ ?_ _ | refine kD_ ?_ | refine kA_ ?_ _)); exact BK356.out)) : gb356 ≠ gb369)); have n11_ := aS_ ((by rw [hg]; exact Nat.ne_of_gt (blk_lt (g := gb356) (o := .cells #[.slice Ao19 t352.length co19] 25 (0, 0)) (by (with_reducible repeat (first | refine kN_ ?_ _ | refine kD_ ?_ | refine kA_ ?_ _)); exact BK356.out)) : gb369 ≠ gb356)); have n12_ := aS_ ((by rw [hg]; exact Nat.ne_of_lt (blk_lt (g := gb362) (o := .cells #[.slice Ao24 t357.length co24] 25 (0, 0)) (by (with_reducible repeat (first | refine kN_ ?_ _ | refine kD_ ?_ | refine kA_ ?_ _)); exact BK362.out)) : gb362 ≠ gb369)); have n13_ := aS_ ((by rw [hg]; exact Nat.ne_of_gt (blk_lt (g := gb362) (o := .cells #[.slice Ao24 t357.length co24] 25 (0, 0)) (by (with_reducible repeat (first | refine kN_ ?_ _ | refine kD_ ?_ | refine kA_ ?_ _)); exact BK362.out)) : gb369 ≠ gb362)); have n14_ := aS_ ((by rw [hg]; exact Nat.ne_of_lt (blk_lt (g := gb363) (o := .cells #[.int .i64 t360, .int .i64 t361] 29 (0, 0)) (by (with_reducible repeat (first | refine kN_ ?_ _ | refine kD_ ?_ | refine kA_ ?_ _)); exact BK363.out)) : gb363 ≠ gb369)); have n15_ := aS_ ((by rw [hg]; exact Nat.ne_of_gt (blk_lt (g := gb363) (o := .cells #[.int .i64 t360, .int .i64 t361] 29 (0, 0)) (by (with_reducible repeat (first | refine kN_ ?_ _ | refine kD_ ?_ | refine kA_ ?_ _)); exact BK363.out)) : gb369 ≠ gb363)); clear HO354; clear HO359; clear HO366; clear BK356; clear BK362; clear BK363; clear HB; have HO354 := n0_; have HO359 := n1_; have HO366 := n2_; have BK356 := n3_; have BK362 := n4_; have BK363 := n5_; have HB := n6_; have BK369 := n7_; have GW369 := n8_; have GE369 := n9_; have NB356_369 := n10_; have NB369_356 := n11_; have NB362_369 := n12_; have NB369_362 := n13_; have NB363_369 := n14_; have NB369_363 := n15_; clear n0_ n1_ n2_ n3_ n4_ n5_ n6_ n7_ n8_ n9_ n10_ n11_ n12_ n13_ n14_ n15_; clear hb hbox hg) | ((with_reducible refine gate_dst (N := 8) rfl ?_); (try (refine gate_guard (by rfl) ?_; dsimp only)); refine box_event ?hg (N := 8) ?hd (cs := #[.int .i64 0, .int .i64 0]) (t := 29) ?hr ?_; (case hd => rfl); (case hg => rfl); (case hr => first | (go_simp; done) | (go_simp; rfl)); intro gb370 hg w33 hbox hb; have n0_ := aS_ (Kd.R_below (by (with_reducible repeat (first | apply rA_ | apply rN_ | apply rD_)); exact HO354.out) hb); have n1_ := aS_ (Kd.R_below (by (with_reducible repeat (first | apply rA_ | apply rN_ | apply rD_)); exact HO359.out) hb); have n2_ := aS_ (Kd.R_below (by (with_reducible repeat (first | apply rA_ | apply rN_ | apply rD_)); exact HO366.out) hb); have n3_ := aS_ (blk_below (g := gb356) (o := .cells #[.slice Ao19 t352.length co19] 25 (0, 0)) (by (with_reducible repeat (first | refine kN_ ?_ _ | refine kD_ ?_ | refine kA_ ?_ _)); exact BK356.out) hb); have n4_ := aS_ (blk_below (g := gb362) (o := .cells #[.slice Ao24 t357.length co24] 25 (0, 0)) (by (with_reducible repeat (first | refine kN_ ?_ _ | refine kD_ ?_ | refine kA_ ?_ _)); exact BK362.out) hb); have n5_ := aS_ (blk_below (g := gb363) (o := .cells #[.int .i64 t360, .int .i64 t361] 29 (0, 0)) (by (with_reducible repeat (first | refine kN_ ?_ _ | refine kD_ ?_ | refine kA_ ?_ _)); exact BK363.out) hb); have n6_ := aS_ (blk_below (g := gb369) (o := .cells #[.slice none 0 0] 25 (0, 0)) (by (with_reducible repeat (first | refine kN_ ?_ _ | refine kD_ ?_ | refine kA_ ?_ _)); exact BK369.out) hb); have n7_ := aS_ (below_step (by repeat (first | (with_reducible first | exact HB.out | apply bA_ | apply bN_ | apply bD_ | refine below_set ?_ GE356.out | refine below_set ?_ GE362.out | refine below_set ?_ GE363.out | refine below_set ?_ GE369.out) | exact HB.out)) hb); have n8_ := aS_ (hbox); have n9_ := aS_ ((by rw [hg]; exact (below_size (by repeat (first | (with_reducible first | exact HB.out | apply bA_ | apply bN_ | apply bD_ | refine below_set ?_ GE356.out | refine below_set ?_ GE362.out | refine below_set ?_ GE363.out | refine below_set ?_ GE369.out) | exact HB.out))) : w.heap.size ≤ gb370)); have n10_ := aS_ ((by rw [hg]; exact (below_size (by repeat (first | (with_reducible first | exact HB.out | apply bA_ | apply bN_ | apply bD_ | refine below_set ?_ GE356.out | refine below_set ?_ GE362.out | refine below_set ?_ GE363.out | refine below_set ?_ GE369.out) | exact HB.out))) : w.heap.size ≤ gb370)); have n11_ := aS_ ((by rw [hg]; exact Nat.ne_of_lt (blk_lt (g := gb356) (o := .cells #[.slice Ao19 t352.length co19] 25 (0, 0)) (by (with_reducible repeat (first | refine kN_ ?_ _ | refine kD_ ?_ | refine kA_ ?_ _)); exact BK356.out)) : gb356 ≠ gb370)); have n12_ := aS_ ((by rw [hg]; exact Nat.ne_of_gt (blk_lt (g := gb356) (o := .cells #[.slice Ao19 t352.length co19] 25 (0, 0)) (by (with_reducible repeat (first | refine kN_ ?_ _ | refine kD_ ?_ | refine kA_ ?_ _)); exact BK356.out)) : gb370 ≠ gb356)); have n13_ := aS_ ((by rw [hg]; exact Nat.ne_of_lt (blk_lt (g := gb362) (o := .cells #[.slice Ao24 t357.length co24] 25 (0, 0)) (by (with_reducible repeat (first | refine kN_ ?_ _ | refine kD_ ?_ | refine kA_ ?_ _)); exact BK362.out)) : gb362 ≠ gb370)); have n14_ := aS_ ((by rw [hg]; exact Nat.ne_of_gt (blk_lt (g := gb362) (o := .cells #[.slice Ao24 t357.length co24] 25 (0, 0)) (by (with_reducible repeat (first | refine kN_ ?_ _ | refine kD_ ?_ | refine kA_ ?_ _)); exact BK362.out)) : gb370 ≠ gb362)); have n15_ := aS_ ((by rw [hg]; exact Nat.ne_of_lt (blk_lt (g := gb363) (o := .cells #[.int .i64 t360, .int .i64 t361] 29 (0, 0)) (by (with_reducible repeat (first | refine kN_ ?_ _ | refine kD_ ?_ | refine kA_ ?_ _)); exact BK363.out)) : gb363 ≠ gb370)); have n16_ := aS_ ((by rw [hg]; exact Nat.ne_of_gt (blk_lt (g := gb363) (o := .cells #[.int .i64 t360, .int .i64 t361] 29 (0, 0)) (by (with_reducible repeat (first | refine kN_ ?_ _ | refine kD_ ?_ | refine kA_ ?_ _)); exact BK363.out)) : gb370 ≠ gb363)); have n17_ := aS_ ((by rw [hg]; exact Nat.ne_of_lt (blk_lt (g := gb369) (o := .cells #[.slice none 0 0] 25 (0, 0)) (by (with_reducible repeat (first | refine kN_ ?_ _ | refine kD_ ?_ | refine kA_ ?_ _)); exact BK369.out)) : gb369 ≠ gb370)); have n18_ := aS_ ((by rw [hg]; exact Nat.ne_of_gt (blk_lt (g := gb369) (o := .cells #[.slice none 0 0] 25 (0, 0)) (by (with_reducible repeat (first | refine kN_ ?_ _ | refine kD_ ?_ | refine kA_ ?_ _)); exact BK369.out)) : gb370 ≠ gb369)); clear HO354; clear HO359; clear HO366; clear BK356; clear BK362; clear BK363; clear BK369; clear HB; have HO354 := n0_; have HO359 := n1_; have HO366 := n2_; have BK356 := n3_; have BK362 := n4_; have BK363 := n5_; have BK369 := n6_; have HB := n7_; have BK370 := n8_; have GW370 := n9_; have GE370 := n10_; have NB356_370 := n11_; have NB370_356 := n12_; have NB362_370 := n13_; have NB370_362 := n14_; have NB363_370 := n15_; have NB370_363 := n16_; have NB369_370 := n17_; have NB370_369 := n18_; clear n0_ n1_ n2_ n3_ n4_ n5_ n6_ n7_ n8_ n9_ n10_ n11_ n12_ n13_ n14_ n15_ n16_ n17_ n18_; clear hb hbox hg; obtain ⟨Ao34, co34, eo34⟩ := Kd.R_slice HO366.out; subst eo34; have hnb35 := NB369_356.out; have hnc35 := NB356_369.out; have hnb36 := NB369_362.out; have hnc36 := NB362_369.out; have hnb37 := NB369_363.out; have hnc37 := NB363_369.out; have hnb38 := NB369_370.out; have hnc38 := NB370_369.out; have hcz39_0 : w33.cell? ⟨gb369, 0, none⟩ = some (.slice none 0 0) := (blk_cell BK369.out 0).trans rfl; have hfz39_0 := blk_frozen BK369.out 0; have hnb40 := NB370_356.out; have hnc40 := NB356_370.out; have hnb41 := NB370_362.out; have hnc41 := NB362_370.out; have hnb42 := NB370_363.out; have hnc42 := NB363_370.out; have hcz43_0 : w33.cell? ⟨gb370, 0, none⟩ = some (.int .i64 0) := (blk_cell BK370.out 0).trans rfl; have hcz43_1 : w33.cell? ⟨gb370, 1, none⟩ = some (.int .i64 0) := (blk_cell BK370.out 1).trans rfl; have hfz43_0 := blk_frozen BK370.out 0; have hfz43_1 := blk_frozen BK370.out 1; have hcz44_0 : w33.cell? ⟨gb362, 0, none⟩ = some (.slice Ao24 t357.length co24) := (blk_cell BK362.out 0).trans rfl; have hfz44_0 := blk_frozen BK362.out 0) | ((with_reducible refine gate_callee (f := 14) rfl ?_); refine goesL_ (some 34) rfl rfl Try.func14 (by kernel_rfl) rfl #[.agg #[.slice Ao24 t357.length co24], .agg #[.slice Ao34 t364.length co34]] rfl (by (try simp only [List.map_toArray, List.map_cons, List.map_nil]); first | done | rfl | (simp only [List.length_drop, List.length_take]; rfl)) ?_; (with_reducible refine (laws_tgMap.calls k _ _ t357 _ _ t364 true _ ?side1 ?side2 ?side3 ?side4 A6.out).mono ?_); (case side1 => refine (Kd.R_reads' (e := 39) (base := w.heap.size) (ok := fun k_ => ((True ∧ some k_ ≠ (.slice Ao19 t352.length co19 : Value).ownBlock) ∧ some k_ ≠ (.slice Ao34 t364.length co34 : Value).ownBlock)) (n := t357.length) (c := co24) ?_).2.2; exact (by (with_reducible repeat (first | apply rA_ | apply rN_ | apply rD_)); exact (rM_ (rM_ (rF_ (p := ⟨gb370, 1, none⟩) (rF_ (p := ⟨gb370, 0, none⟩) (rF_ (p := ⟨gb369, 0, none⟩) (rT_ (rT_ HO359.out BK369.out (by decide)) BK370.out (by decide)) (fun _ hk => by first | exact hk.1.2 | trivial | simp [hk]) (.slice Ao34 t364.length co34)) (fun _ hk => by first | exact hk.2 | trivial | simp [hk]) (.int .i64 t367)) (fun _ hk => by first | exact hk.2 | trivial | simp [hk]) (.int .i64 t368)) (fun _ h_ => h_.1)) (fun _ h_ => h_.1)))); (case side2 => exact (Kd.R_reads' HO359.out).2.1); (case side3 => refine (Kd.R_reads' (e := 39) (base := w.heap.size) (ok := fun k_ => ((True ∧ some k_ ≠ (.slice Ao19 t352.length co19 : Value).ownBlock) ∧ some k_ ≠ (.slice Ao24 t357.length co24 : Value).ownBlock)) (n := t364.length) (c := co34) ?_).2.2; exact (by (with_reducible repeat (first | apply rA_ | apply rN_ | apply rD_)); exact (rM_ (rM_ (rF_ (p := ⟨gb370, 1, none⟩) (rF_ (p := ⟨gb370, 0, none⟩) (rF_ (p := ⟨gb369, 0, none⟩) (rT_ (rT_ HO366.out BK369.out (by decide)) BK370.out (by decide)) (fun _ hk => by first | exact hk.1.2 | trivial | simp [hk]) (.slice Ao34 t364.length co34)) (fun _ hk => by first | exact hk.2 | trivial | simp [hk]) (.int .i64 t367)) (fun _ hk => by first | exact hk.2 | trivial | simp [hk]) (.int .i64 t368)) (fun _ h_ => h_.1)) (fun _ h_ => h_.1)))); (case side4 => exact (Kd.R_reads' HO366.out).2.1); rintro e w45 ⟨rfl, hb⟩; refine ⟨_, rfl, ?_⟩; have n0_ := aS_ (Kd.R_below (by (with_reducible repeat (first | apply rA_ | apply rN_ | apply rD_)); exact (rM_ (rM_ (rF_ (p := ⟨gb370, 1, none⟩) (rF_ (p := ⟨gb370, 0, none⟩) (rF_ (p := ⟨gb369, 0, none⟩) (rT_ (rT_ HO354.out BK369.out (by decide)) BK370.out (by decide)) (fun _ hk => by first | exact hk.1.2 | trivial | simp [hk]) (.slice Ao34 t364.length co34)) (fun _ hk => by first | exact hk.2 | trivial | simp [hk]) (.int .i64 t367)) (fun _ hk => by first | exact hk.2 | trivial | simp [hk]) (.int .i64 t368)) (fun _ h_ => h_.1)) (fun _ h_ => h_.1))) hb); have n1_ := aS_ (Kd.R_below (by (with_reducible repeat (first | apply rA_ | apply rN_ | apply rD_)); exact (rM_ (rM_ (rF_ (p := ⟨gb370, 1, none⟩) (rF_ (p := ⟨gb370, 0, none⟩) (rF_ (p := ⟨gb369, 0, none⟩) (rT_ (rT_ HO359.out BK369.out (by decide)) BK370.out (by decide)) (fun _ hk => by first | exact hk.1.2 | trivial | simp [hk]) (.slice Ao34 t364.length co34)) (fun _ hk => by first | exact hk.2 | trivial | simp [hk]) (.int .i64 t367)) (fun _ hk => by first | exact hk.2 | trivial | simp [hk]) (.int .i64 t368)) (fun _ h_ => h_.1)) (fun _ h_ => h_.1))) hb); have n2_ := aS_ (Kd.R_below (by (with_reducible repeat (first | apply rA_ | apply rN_ | apply rD_)); exact (rM_ (rM_ (rF_ (p := ⟨gb370, 1, none⟩) (rF_ (p := ⟨gb370, 0, none⟩) (rF_ (p := ⟨gb369, 0, none⟩) (rT_ (rT_ HO366.out BK369.out (by decide)) BK370.out (by decide)) (fun _ hk => by first | exact hk.1.2 | trivial | simp [hk]) (.slice Ao34 t364.length co34)) (fun _ hk => by first | exact hk.2 | trivial | simp [hk]) (.int .i64 t367)) (fun _ hk => by first | exact hk.2 | trivial | simp [hk]) (.int .i64 t368)) (fun _ h_ => h_.1)) (fun _ h_ => h_.1))) hb); have n3_ := aS_ (blk_below (g := gb356) (o := .cells #[.slice Ao19 t352.length co19] 25 (0, 0)) (by (with_reducible repeat (first | refine kN_ ?_ _ | refine kD_ ?_ | refine kA_ ?_ _)); refine blk_far ?_ NB356_370.out _; (with_reducible repeat (first | refine kN_ ?_ _ | refine kD_ ?_ | refine kA_ ?_ _)); refine blk_far ?_ NB356_370.out _; (with_reducible repeat (first | refine kN_ ?_ _ | refine kD_ ?_ | refine kA_ ?_ _)); refine blk_far ?_ NB356_369.out _; (with_reducible repeat (first | refine kN_ ?_ _ | refine kD_ ?_ | refine kA_ ?_ _)); exact BK356.out) hb); have n4_ := aS_ (blk_below (g := gb362) (o := .cells #[.slice Ao24 t357.length co24] 25 (0, 0)) (by (with_reducible repeat (first | refine kN_ ?_ _ | refine kD_ ?_ | refine kA_ ?_ _)); refine blk_far ?_ NB362_370.out _; (with_reducible repeat (first | refine kN_ ?_ _ | refine kD_ ?_ | refine kA_ ?_ _)); refine blk_far ?_ NB362_370.out _; (with_reducible repeat (first | refine kN_ ?_ _ | refine kD_ ?_ | refine kA_ ?_ _)); refine blk_far ?_ NB362_369.out _; (with_reducible repeat (first | refine kN_ ?_ _ | refine kD_ ?_ | refine kA_ ?_ _)); exact BK362.out) hb); have n5_ := aS_ (blk_below (g := gb363) (o := .cells #[.int .i64 t360, .int .i64 t361] 29 (0, 0)) (by (with_reducible repeat (first | refine kN_ ?_ _ | refine kD_ ?_ | refine kA_ ?_ _)); refine blk_far ?_ NB363_370.out _; (with_reducible repeat (first | refine kN_ ?_ _ | refine kD_ ?_ | refine kA_ ?_ _)); refine blk_far ?_ NB363_370.out _; (with_reducible repeat (first | refine kN_ ?_ _ | refine kD_ ?_ | refine kA_ ?_ _)); refine blk_far ?_ NB363_369.out _; (with_reducible repeat (first | refine kN_ ?_ _ | refine kD_ ?_ | refine kA_ ?_ _)); exact BK363.out) hb); have n6_ := aS_ (blk_below (g := gb369) (o := .cells #[.slice Ao34 t364.length co34] 25 (0, 0)) (by (with_reducible repeat (first | refine kN_ ?_ _ | refine kD_ ?_ | refine kA_ ?_ _)); refine blk_far ?_ NB369_370.out _; (with_reducible repeat (first | refine kN_ ?_ _ | refine kD_ ?_ | refine kA_ ?_ _)); refine blk_far ?_ NB369_370.out _; (with_reducible repeat (first | refine kN_ ?_ _ | refine kD_ ?_ | refine kA_ ?_ _)); refine blk_put (cs := #[.slice none 0 0]) ?_ 0 _ rfl; (with_reducible repeat (first | refine kN_ ?_ _ | refine kD_ ?_ | refine kA_ ?_ _)); exact BK369.out) hb); have n7_ := aS_ (blk_below (g := gb370) (o := .cells #[.int .i64 t367, .int .i64 t368] 29 (0, 0)) (by (with_reducible repeat (first | refine kN_ ?_ _ | refine kD_ ?_ | refine kA_ ?_ _)); refine blk_put (cs := #[.int .i64 t367, .int .i64 0]) ?_ 1 _ rfl; (with_reducible repeat (first | refine kN_ ?_ _ | refine kD_ ?_ | refine kA_ ?_ _)); refine blk_put (cs := #[.int .i64 0, .int .i64 0]) ?_ 0 _ rfl; (with_reducible repeat (first | refine kN_ ?_ _ | refine kD_ ?_ | refine kA_ ?_ _)); refine blk_far ?_ NB370_369.out _; (with_reducible repeat (first | refine kN_ ?_ _ | refine kD_ ?_ | refine kA_ ?_ _)); exact BK370.out) hb); have n8_ := aS_ (below_step (by repeat (first | (with_reducible first | exact HB.out | apply bA_ | apply bN_ | apply bD_ | refine below_set ?_ GE356.out | refine below_set ?_ GE362.out | refine below_set ?_ GE363.out | refine below_set ?_ GE369.out | refine below_set ?_ GE370.out) | exact HB.out)) hb); clear HO354; clear HO359; clear HO366; clear BK356; clear BK362; clear BK363; clear BK369; clear BK370; clear HB; have HO354 := n0_; have HO359 := n1_; have HO366 := n2_; have BK356 := n3_; have BK362 := n4_; have BK363 := n5_; have BK369 := n6_; have BK370 := n7_; have HB := n8_; clear n0_ n1_ n2_ n3_ n4_ n5_ n6_ n7_ n8_; (try clear hb); (try clear hb2); (try clear hk); (try clear hi); have hcz46_0 : w45.cell? ⟨gb363, 0, none⟩ = some (.int .i64 t360) := (blk_cell BK363.out 0).trans rfl; have hcz46_1 : w45.cell? ⟨gb363, 1, none⟩ = some (.int .i64 t361) := (blk_cell BK363.out 1).trans rfl; have hfz46_0 := blk_frozen BK363.out 0; have hfz46_1 := blk_frozen BK363.out 1; have hcz47_0 : w45.cell? ⟨gb370, 0, none⟩ = some (.int .i64 t367) := (blk_cell BK370.out 0).trans rfl; have hcz47_1 : w45.cell? ⟨gb370, 1, none⟩ = some (.int .i64 t368) := (blk_cell BK370.out 1).trans rfl; have hfz47_0 := blk_frozen BK370.out 0; have hfz47_1 := blk_frozen BK370.out 1; have hcz48_0 : w45.cell? ⟨gb356, 0, none⟩ = some (.slice Ao19 t352.length co19) := (blk_cell BK356.out 0).trans rfl; have hfz48_0 := blk_frozen BK356.out 0) | ((with_reducible refine gate_callee (f := 15) rfl ?_); refine goesL_ (some 42) rfl rfl Try.func15 (by kernel_rfl) rfl #[.agg #[.slice Ao19 t352.length co19]] rfl (by (try simp only [List.map_toArray, List.map_cons, List.map_nil]); first | done | rfl | (simp only [List.length_drop, List.length_take]; rfl)) ?_; (with_reducible refine (spec_MapOk.calls k _ _ t352 true _ ?side1 ?side2 A9.out).mono ?_); (case side1 => repeat (first | exact (Kd.R_reads' HO354.out).2.2 | (with_reducible refine Kd.C_alloc ?_ _) | (with_reducible refine Kd.C_drewN ?_ _) | (with_reducible refine Kd.C_drew ?_))); (case side2 => exact (Kd.R_reads' HO354.out).2.1); rintro e w49 ⟨rfl, hb⟩; refine ⟨_, rfl, ?_⟩; have n0_ := aS_ (Kd.R_below (by (with_reducible repeat (first | apply rA_ | apply rN_ | apply rD_)); exact HO354.out) hb); have n1_ := aS_ (Kd.R_below (by (with_reducible repeat (first | apply rA_ | apply rN_ | apply rD_)); exact HO359.out) hb); have n2_ := aS_ (Kd.R_below (by (with_reducible repeat (first | apply rA_ | apply rN_ | apply rD_)); exact HO366.out) hb); have n3_ := aS_ (blk_below (g := gb356) (o := .cells #[.slice Ao19 t352.length co19] 25 (0, 0)) (by (with_reducible repeat (first | refine kN_ ?_ _ | refine kD_ ?_ | refine kA_ ?_ _)); exact BK356.out) hb); have n4_ := aS_ (blk_below (g := gb362) (o := .cells #[.slice Ao24 t357.length co24] 25 (0, 0)) (by (with_reducible repeat (first | refine kN_ ?_ _ | refine kD_ ?_ | refine kA_ ?_ _)); exact BK362.out) hb); have n5_ := aS_ (blk_below (g := gb363) (o := .cells #[.int .i64 t360, .int .i64 t361] 29 (0, 0)) (by (with_reducible repeat (first | refine kN_ ?_ _ | refine kD_ ?_ | refine kA_ ?_ _)); exact BK363.out) hb); have n6_ := aS_ (blk_below (g := gb369) (o := .cells #[.slice Ao34 t364.length co34] 25 (0, 0)) (by (with_reducible repeat (first | refine kN_ ?_ _ | refine kD_ ?_ | refine kA_ ?_ _)); exact BK369.out) hb); have n7_ := aS_ (blk_below (g := gb370) (o := .cells #[.int .i64 t367, .int .i64 t368] 29 (0, 0)) (by (with_reducible repeat (first | refine kN_ ?_ _ | refine kD_ ?_ | refine kA_ ?_ _)); exact BK370.out) hb); have n8_ := aS_ (below_step (by repeat (first | (with_reducible first | exact HB.out | apply bA_ | apply bN_ | apply bD_ | refine below_set ?_ GE356.out | refine below_set ?_ GE362.out | refine below_set ?_ GE363.out | refine below_set ?_ GE369.out | refine below_set ?_ GE370.out) | exact HB.out)) hb); clear HO354; clear HO359; clear HO366; clear BK356; clear BK362; clear BK363; clear BK369; clear BK370; clear HB; have HO354 := n0_; have HO359 := n1_; have HO366 := n2_; have BK356 := n3_; have BK362 := n4_; have BK363 := n5_; have BK369 := n6_; have BK370 := n7_; have HB := n8_; clear n0_ n1_ n2_ n3_ n4_ n5_ n6_ n7_ n8_; (try clear hb); (try clear hb2); (try clear hk); (try clear hi)))
                have n0_ := aS_ (rD_ HO354.out)
                have n1_ := aS_ (rD_ HO359.out)
                have n2_ := aS_ (rD_ HO366.out)
                have n3_ := aS_ (kD_ BK356.out)
                have n4_ := aS_ (kD_ BK362.out)
                have n5_ := aS_ (kD_ BK363.out)
                have n6_ := aS_ (kD_ BK369.out)
                have n7_ := aS_ (kD_ BK370.out)
                have n8_ := aS_ (bD_ HB.out)
                clear HO354
                clear HO359
                clear HO366
                clear BK356
                clear BK362
                clear BK363
                clear BK369
                clear BK370
                clear HB
                have HO354 := n0_
                have HO359 := n1_
                have HO366 := n2_
                have BK356 := n3_
                have BK362 := n4_
                have BK363 := n5_
                have BK369 := n6_
                have BK370 := n7_
                have HB := n8_
                clear n0_ n1_ n2_ n3_ n4_ n5_ n6_ n7_ n8_
                refine start_ (n := 17) (S := fun w' => w'.cell? ⟨gb362, 0, none⟩ = some (.slice Ao24 t357.length co24) ∧ w'.cell? ⟨gb363, 0, none⟩ = some (.int .i64 t360) ∧ w'.cell? ⟨gb363, 1, none⟩ = some (.int .i64 t361) ∧ w'.cell? ⟨gb356, 0, none⟩ = some (.slice Ao19 t352.length co19)) (ds := []) #[false, false, false, false, false, false, false, false, false, false, false, false, false, false, false, false, false] (by kernel_rfl) rfl rfl ⟨(blk_cell BK362.out 0).trans rfl, (blk_cell BK363.out 0).trans rfl, (blk_cell BK363.out 1).trans rfl, (blk_cell BK356.out 0).trans rfl⟩ (fun hHeld => ?_); refine with_tabW laws_FnMapDel.tab10 laws_FnMapDel.bits10 (fun HT_ HW_ => ?_)
                generalize w49.drew = w50 at HO354 HO359 HO366 BK356 BK362 BK363 BK369 BK370 HB hHeld ⊢
                refine take_ (i := 0) (N := some 56) (v := ?_) (a' := ?_) #[true, false, false, false, false, false, false, false, false, false, false, false, false, false, false, false, false] rfl rfl (take_ofW HT_.out HW_.out (by kernel_rfl)) (fun _ _ _ h => h) (Or.inl ⟨by rfl, ?_⟩) hHeld ?_ ?_
                rotate_left
                · rintro w' ⟨s0, s1, s2, s3⟩
                  go_simp
                  with_reducible rfl
                rotate_left
                · simp only [Act.put, List.setIfInBounds_toArray, List.set_cons_zero, List.set_cons_succ, i64_w, i32_w]
                  rfl
                refine one_ (i := 1) (N := some 57) #[true, true, false, false, false, false, false, false, false, false, false, false, false, false, false, false, false] rfl rfl (one_of HT_.out (by kernel_rfl)) (by decide) (fun K hK => ?_)
                refine goes_ Try.func17 (by kernel_rfl) rfl #[.agg #[.slice Ao24 t357.length co24]] (by rfl) rfl rfl (by (try simp only [List.map_toArray, List.map_cons, List.map_nil]); first | done | rfl | (simp only [List.length_drop, List.length_take]; rfl)) ?_
                with_reducible refine (impl_MapOk.calls k _ _ t357 true _ ?side1 ?side2 A11.out).mono ?_
                (case side1 => repeat (first | exact (Kd.R_reads' HO359.out).2.2 | (with_reducible refine Kd.C_alloc ?_ _) | (with_reducible refine Kd.C_drewN ?_ _) | (with_reducible refine Kd.C_drew ?_)))
                (case side2 => exact (Kd.R_reads' HO359.out).2.1)
                rintro e w51 ⟨rfl, hb⟩
                refine ⟨_, rfl, ?_⟩
                have n0_ := aS_ (Kd.R_below (by (with_reducible repeat (first | apply rA_ | apply rN_ | apply rD_)); exact HO354.out) hb)
                have n1_ := aS_ (Kd.R_below (by (with_reducible repeat (first | apply rA_ | apply rN_ | apply rD_)); exact HO359.out) hb)
                have n2_ := aS_ (Kd.R_below (by (with_reducible repeat (first | apply rA_ | apply rN_ | apply rD_)); exact HO366.out) hb)
                have n3_ := aS_ (blk_below (g := gb356) (o := .cells #[.slice Ao19 t352.length co19] 25 (0, 0)) (by (with_reducible repeat (first | refine kN_ ?_ _ | refine kD_ ?_ | refine kA_ ?_ _)); exact BK356.out) hb)
                have n4_ := aS_ (blk_below (g := gb362) (o := .cells #[.slice Ao24 t357.length co24] 25 (0, 0)) (by (with_reducible repeat (first | refine kN_ ?_ _ | refine kD_ ?_ | refine kA_ ?_ _)); exact BK362.out) hb)
                have n5_ := aS_ (blk_below (g := gb363) (o := .cells #[.int .i64 t360, .int .i64 t361] 29 (0, 0)) (by (with_reducible repeat (first | refine kN_ ?_ _ | refine kD_ ?_ | refine kA_ ?_ _)); exact BK363.out) hb)
                have n6_ := aS_ (blk_below (g := gb369) (o := .cells #[.slice Ao34 t364.length co34] 25 (0, 0)) (by (with_reducible repeat (first | refine kN_ ?_ _ | refine kD_ ?_ | refine kA_ ?_ _)); exact BK369.out) hb)
                have n7_ := aS_ (blk_below (g := gb370) (o := .cells #[.int .i64 t367, .int .i64 t368] 29 (0, 0)) (by (with_reducible repeat (first | refine kN_ ?_ _ | refine kD_ ?_ | refine kA_ ?_ _)); exact BK370.out) hb)
                have n8_ := aS_ (below_step (by repeat (first | (with_reducible first | exact HB.out | apply bA_ | apply bN_ | apply bD_ | refine below_set ?_ GE356.out | refine below_set ?_ GE362.out | refine below_set ?_ GE363.out | refine below_set ?_ GE369.out | refine below_set ?_ GE370.out) | exact HB.out)) hb)
                clear HO354
                clear HO359
                clear HO366
                clear BK356
                clear BK362
                clear BK363
                clear BK369
                clear BK370
                clear HB
                have HO354 := n0_
                have HO359 := n1_
                have HO366 := n2_
                have BK356 := n3_
                have BK362 := n4_
                have BK363 := n5_
                have BK369 := n6_
                have BK370 := n7_
                have HB := n8_
                clear n0_ n1_ n2_ n3_ n4_ n5_ n6_ n7_ n8_
                (try clear hb)
                (try clear hb2)
                (try clear hk)
                (try clear hi)
                refine hK.out _ _ ⟨(blk_cell BK362.out 0).trans rfl, (blk_cell BK363.out 0).trans rfl, (blk_cell BK363.out 1).trans rfl, (blk_cell BK356.out 0).trans rfl⟩ (fun hHeld => ?_)
                clear hK K
                refine norm_ (a' := ?_) ?_ ?_
                rotate_left
                · show Act.put _ (some 57) _ = _
                  simp only [Act.put, List.setIfInBounds_toArray, List.set_cons_zero, List.set_cons_succ, i64_w, i32_w]
                  rfl
                refine pure_ (i := 2) (N := some 58) (v := ?_) (a' := ?_) #[true, true, true, false, false, false, false, false, false, false, false, false, false, false, false, false, false] rfl rfl (any_of HT_.out (by kernel_rfl)) (fun _ _ _ h => h) (Or.inl ⟨by rfl, ?_⟩) ?_ ?_
                rotate_left
                · intro w'
                  go_simp
                  with_reducible rfl
                rotate_left
                · simp only [Act.put, List.setIfInBounds_toArray, List.set_cons_zero, List.set_cons_succ, i64_w, i32_w]
                  rfl
                refine pure_ (i := 3) (N := some 59) (v := ?_) (a' := ?_) #[true, true, true, true, false, false, false, false, false, false, false, false, false, false, false, false, false] rfl rfl (any_of HT_.out (by kernel_rfl)) (fun _ _ _ h => h) (Or.inl ⟨by rfl, ?_⟩) ?_ ?_
                rotate_left
                · intro w'
                  go_simp
                  with_reducible rfl
                rotate_left
                · simp only [Act.put, List.setIfInBounds_toArray, List.set_cons_zero, List.set_cons_succ, i64_w, i32_w]
                  rfl
                refine pure_ (i := 6) (N := some 62) (v := ?_) (a' := ?_) #[true, true, true, true, false, false, true, false, false, false, false, false, false, false, false, false, false] rfl rfl (any_of HT_.out (by kernel_rfl)) (fun _ _ _ h => h) (Or.inl ⟨by rfl, ?_⟩) ?_ ?_
                rotate_left
                · intro w'
                  go_simp
                  with_reducible rfl
                rotate_left
                · simp only [Act.put, List.setIfInBounds_toArray, List.set_cons_zero, List.set_cons_succ, i64_w, i32_w]
                  rfl
                refine take_ (i := 4) (N := some 60) (v := ?_) (a' := ?_) #[true, true, true, true, true, false, true, false, false, false, false, false, false, false, false, false, false] rfl rfl (take_ofW HT_.out HW_.out (by kernel_rfl)) (fun _ _ _ h => h) (Or.inl ⟨by rfl, ?_⟩) hHeld ?_ ?_
                rotate_left
                · rintro w' ⟨s0, s1, s2, s3⟩
                  go_simp
                  with_reducible rfl
                rotate_left
                · simp only [Act.put, List.setIfInBounds_toArray, List.set_cons_zero, List.set_cons_succ, i64_w, i32_w]
                  rfl
                refine take_ (i := 5) (N := some 61) (v := ?_) (a' := ?_) #[true, true, true, true, true, true, true, false, false, false, false, false, false, false, false, false, false] rfl rfl (take_ofW HT_.out HW_.out (by kernel_rfl)) (fun _ _ _ h => h) (Or.inl ⟨by rfl, ?_⟩) hHeld ?_ ?_
                rotate_left
                · rintro w' ⟨s0, s1, s2, s3⟩
                  go_simp
                  with_reducible rfl
                rotate_left
                · simp only [Act.put, List.setIfInBounds_toArray, List.set_cons_zero, List.set_cons_succ, i64_w, i32_w]
                  rfl
                refine one_ (i := 7) (N := some 63) #[true, true, true, true, true, true, true, true, false, false, false, false, false, false, false, false, false] rfl rfl (one_of HT_.out (by kernel_rfl)) (by decide) (fun K hK => ?_)
                refine goes_ Try.func18 (by kernel_rfl) rfl #[.agg #[.slice Ao19 t352.length co19], .int .i64 t355] (by rfl) rfl rfl (by (try simp only [List.map_toArray, List.map_cons, List.map_nil]); first | done | rfl | (simp only [List.length_drop, List.length_take]; rfl)) ?_
                with_reducible refine (impl_MapGet.calls k _ _ t352 t355 t374 t375 _ ?side1 ?side2 A13.out).mono ?_
                (case side1 => repeat (first | exact (Kd.R_reads' HO354.out).2.2 | (with_reducible refine Kd.C_alloc ?_ _) | (with_reducible refine Kd.C_drewN ?_ _) | (with_reducible refine Kd.C_drew ?_)))
                (case side2 => exact (Kd.R_reads' HO354.out).2.1)
                rintro e w52 ⟨rfl, hb⟩
                refine ⟨_, rfl, ?_⟩
                have n0_ := aS_ (Kd.R_below (by (with_reducible repeat (first | apply rA_ | apply rN_ | apply rD_)); exact HO354.out) hb)
                have n1_ := aS_ (Kd.R_below (by (with_reducible repeat (first | apply rA_ | apply rN_ | apply rD_)); exact HO359.out) hb)
                have n2_ := aS_ (Kd.R_below (by (with_reducible repeat (first | apply rA_ | apply rN_ | apply rD_)); exact HO366.out) hb)
                have n3_ := aS_ (blk_below (g := gb356) (o := .cells #[.slice Ao19 t352.length co19] 25 (0, 0)) (by (with_reducible repeat (first | refine kN_ ?_ _ | refine kD_ ?_ | refine kA_ ?_ _)); exact BK356.out) hb)
                have n4_ := aS_ (blk_below (g := gb362) (o := .cells #[.slice Ao24 t357.length co24] 25 (0, 0)) (by (with_reducible repeat (first | refine kN_ ?_ _ | refine kD_ ?_ | refine kA_ ?_ _)); exact BK362.out) hb)
                have n5_ := aS_ (blk_below (g := gb363) (o := .cells #[.int .i64 t360, .int .i64 t361] 29 (0, 0)) (by (with_reducible repeat (first | refine kN_ ?_ _ | refine kD_ ?_ | refine kA_ ?_ _)); exact BK363.out) hb)
                have n6_ := aS_ (blk_below (g := gb369) (o := .cells #[.slice Ao34 t364.length co34] 25 (0, 0)) (by (with_reducible repeat (first | refine kN_ ?_ _ | refine kD_ ?_ | refine kA_ ?_ _)); exact BK369.out) hb)
                have n7_ := aS_ (blk_below (g := gb370) (o := .cells #[.int .i64 t367, .int .i64 t368] 29 (0, 0)) (by (with_reducible repeat (first | refine kN_ ?_ _ | refine kD_ ?_ | refine kA_ ?_ _)); exact BK370.out) hb)
                have n8_ := aS_ (below_step (by repeat (first | (with_reducible first | exact HB.out | apply bA_ | apply bN_ | apply bD_ | refine below_set ?_ GE356.out | refine below_set ?_ GE362.out | refine below_set ?_ GE363.out | refine below_set ?_ GE369.out | refine below_set ?_ GE370.out) | exact HB.out)) hb)
                clear HO354
                clear HO359
                clear HO366
                clear BK356
                clear BK362
                clear BK363
                clear BK369
                clear BK370
                clear HB
                have HO354 := n0_
                have HO359 := n1_
                have HO366 := n2_
                have BK356 := n3_
                have BK362 := n4_
                have BK363 := n5_
                have BK369 := n6_
                have BK370 := n7_
                have HB := n8_
                clear n0_ n1_ n2_ n3_ n4_ n5_ n6_ n7_ n8_
                (try clear hb)
                (try clear hb2)
                (try clear hk)
                (try clear hi)
                refine hK.out _ _ ⟨(blk_cell BK362.out 0).trans rfl, (blk_cell BK363.out 0).trans rfl, (blk_cell BK363.out 1).trans rfl, (blk_cell BK356.out 0).trans rfl⟩ (fun hHeld => ?_)
                clear hK K
                refine norm_ (a' := ?_) ?_ ?_
                rotate_left
                · show Act.put _ (some 63) _ = _
                  simp only [Act.put, List.setIfInBounds_toArray, List.set_cons_zero, List.set_cons_succ, i64_w, i32_w]
                  rfl
                refine pure_ (i := 8) (N := some 64) (v := ?_) (a' := ?_) #[true, true, true, true, true, true, true, true, true, false, false, false, false, false, false, false, false] rfl rfl (any_of HT_.out (by kernel_rfl)) (fun _ _ _ h => h) (Or.inl ⟨by rfl, ?_⟩) ?_ ?_
                rotate_left
                · intro w'
                  go_simp
                  with_reducible rfl
                rotate_left
                · simp only [Act.put, List.setIfInBounds_toArray, List.set_cons_zero, List.set_cons_succ, i64_w, i32_w]
                  rfl
                refine pure_ (i := 9) (N := some 65) (v := ?_) (a' := ?_) #[true, true, true, true, true, true, true, true, true, true, false, false, false, false, false, false, false] rfl rfl (any_of HT_.out (by kernel_rfl)) (fun _ _ _ h => h) (Or.inl ⟨by rfl, ?_⟩) ?_ ?_
                rotate_left
                · intro w'
                  go_simp
                  with_reducible rfl
                rotate_left
                · simp only [Act.put, List.setIfInBounds_toArray, List.set_cons_zero, List.set_cons_succ, i64_w, i32_w]
                  rfl
                refine pure_ (i := 10) (N := some 66) (v := ?_) (a' := ?_) #[true, true, true, true, true, true, true, true, true, true, true, false, false, false, false, false, false] rfl rfl (any_of HT_.out (by kernel_rfl)) (fun _ _ _ h => h) (Or.inl ⟨by rfl, ?_⟩) ?_ ?_
                rotate_left
                · intro w'
                  go_simp
                  with_reducible rfl
                rotate_left
                · simp only [Act.put, List.setIfInBounds_toArray, List.set_cons_zero, List.set_cons_succ, i64_w, i32_w]
                  rfl
                refine pure_ (i := 12) (N := some 68) (v := ?_) (a' := ?_) #[true, true, true, true, true, true, true, true, true, true, true, false, true, false, false, false, false] rfl rfl (any_of HT_.out (by kernel_rfl)) (fun _ _ _ h => h) (Or.inl ⟨by rfl, ?_⟩) ?_ ?_
                rotate_left
                · intro w'
                  go_simp
                  with_reducible rfl
                rotate_left
                · simp only [Act.put, List.setIfInBounds_toArray, List.set_cons_zero, List.set_cons_succ, i64_w, i32_w]
                  rfl
                refine take_ (i := 11) (N := some 67) (v := ?_) (a' := ?_) #[true, true, true, true, true, true, true, true, true, true, true, true, true, false, false, false, false] rfl rfl (take_ofW HT_.out HW_.out (by kernel_rfl)) (fun _ _ _ h => h) (Or.inl ⟨by rfl, ?_⟩) hHeld ?_ ?_
                rotate_left
                · rintro w' ⟨s0, s1, s2, s3⟩
                  go_simp
                  with_reducible rfl
                rotate_left
                · simp only [Act.put, List.setIfInBounds_toArray, List.set_cons_zero, List.set_cons_succ, i64_w, i32_w]
                  rfl
                refine one_ (i := 13) (N := some 69) #[true, true, true, true, true, true, true, true, true, true, true, true, true, true, false, false, false] rfl rfl (one_of HT_.out (by kernel_rfl)) (by decide) (fun K hK => ?_)
                refine goes_ Try.func18 (by kernel_rfl) rfl #[.agg #[.slice Ao24 t357.length co24], .int .i64 t355] (by rfl) rfl rfl (by (try simp only [List.map_toArray, List.map_cons, List.map_nil]); first | done | rfl | (simp only [List.length_drop, List.length_take]; rfl)) ?_
                with_reducible refine (impl_MapGet.calls k _ _ t357 t355 t376 t377 _ ?side1 ?side2 A15.out).mono ?_
                (case side1 => repeat (first | exact (Kd.R_reads' HO359.out).2.2 | (with_reducible refine Kd.C_alloc ?_ _) | (with_reducible refine Kd.C_drewN ?_ _) | (with_reducible refine Kd.C_drew ?_)))
                (case side2 => exact (Kd.R_reads' HO359.out).2.1)
                rintro e w53 ⟨rfl, hb⟩
                refine ⟨_, rfl, ?_⟩
                have n0_ := aS_ (Kd.R_below (by (with_reducible repeat (first | apply rA_ | apply rN_ | apply rD_)); exact HO354.out) hb)
                have n1_ := aS_ (Kd.R_below (by (with_reducible repeat (first | apply rA_ | apply rN_ | apply rD_)); exact HO359.out) hb)
                have n2_ := aS_ (Kd.R_below (by (with_reducible repeat (first | apply rA_ | apply rN_ | apply rD_)); exact HO366.out) hb)
                have n3_ := aS_ (blk_below (g := gb356) (o := .cells #[.slice Ao19 t352.length co19] 25 (0, 0)) (by (with_reducible repeat (first | refine kN_ ?_ _ | refine kD_ ?_ | refine kA_ ?_ _)); exact BK356.out) hb)
                have n4_ := aS_ (blk_below (g := gb362) (o := .cells #[.slice Ao24 t357.length co24] 25 (0, 0)) (by (with_reducible repeat (first | refine kN_ ?_ _ | refine kD_ ?_ | refine kA_ ?_ _)); exact BK362.out) hb)
                have n5_ := aS_ (blk_below (g := gb363) (o := .cells #[.int .i64 t360, .int .i64 t361] 29 (0, 0)) (by (with_reducible repeat (first | refine kN_ ?_ _ | refine kD_ ?_ | refine kA_ ?_ _)); exact BK363.out) hb)
                have n6_ := aS_ (blk_below (g := gb369) (o := .cells #[.slice Ao34 t364.length co34] 25 (0, 0)) (by (with_reducible repeat (first | refine kN_ ?_ _ | refine kD_ ?_ | refine kA_ ?_ _)); exact BK369.out) hb)
                have n7_ := aS_ (blk_below (g := gb370) (o := .cells #[.int .i64 t367, .int .i64 t368] 29 (0, 0)) (by (with_reducible repeat (first | refine kN_ ?_ _ | refine kD_ ?_ | refine kA_ ?_ _)); exact BK370.out) hb)
                have n8_ := aS_ (below_step (by repeat (first | (with_reducible first | exact HB.out | apply bA_ | apply bN_ | apply bD_ | refine below_set ?_ GE356.out | refine below_set ?_ GE362.out | refine below_set ?_ GE363.out | refine below_set ?_ GE369.out | refine below_set ?_ GE370.out) | exact HB.out)) hb)
                clear HO354
                clear HO359
                clear HO366
                clear BK356
                clear BK362
                clear BK363
                clear BK369
                clear BK370
                clear HB
                have HO354 := n0_
                have HO359 := n1_
                have HO366 := n2_
                have BK356 := n3_
                have BK362 := n4_
                have BK363 := n5_
                have BK369 := n6_
                have BK370 := n7_
                have HB := n8_
                clear n0_ n1_ n2_ n3_ n4_ n5_ n6_ n7_ n8_
                (try clear hb)
                (try clear hb2)
                (try clear hk)
                (try clear hi)
                refine hK.out _ _ ⟨(blk_cell BK362.out 0).trans rfl, (blk_cell BK363.out 0).trans rfl, (blk_cell BK363.out 1).trans rfl, (blk_cell BK356.out 0).trans rfl⟩ (fun hHeld => ?_)
                clear hK K
                refine norm_ (a' := ?_) ?_ ?_
                rotate_left
                · show Act.put _ (some 69) _ = _
                  simp only [Act.put, List.setIfInBounds_toArray, List.set_cons_zero, List.set_cons_succ, i64_w, i32_w]
                  rfl
                refine pure_ (i := 14) (N := some 70) (v := ?_) (a' := ?_) #[true, true, true, true, true, true, true, true, true, true, true, true, true, true, true, false, false] rfl rfl (any_of HT_.out (by kernel_rfl)) (fun _ _ _ h => h) (Or.inl ⟨by rfl, ?_⟩) ?_ ?_
                rotate_left
                · intro w'
                  go_simp
                  with_reducible rfl
                rotate_left
                · simp only [Act.put, List.setIfInBounds_toArray, List.set_cons_zero, List.set_cons_succ, i64_w, i32_w]
                  rfl
                refine pure_ (i := 15) (N := some 71) (v := ?_) (a' := ?_) #[true, true, true, true, true, true, true, true, true, true, true, true, true, true, true, true, false] rfl rfl (any_of HT_.out (by kernel_rfl)) (fun _ _ _ h => h) (Or.inl ⟨by rfl, ?_⟩) ?_ ?_
                rotate_left
                · intro w'
                  go_simp
                  with_reducible rfl
                rotate_left
                · simp only [Act.put, List.setIfInBounds_toArray, List.set_cons_zero, List.set_cons_succ, i64_w, i32_w]
                  rfl
                refine pure_ (i := 16) (N := some 72) (v := ?_) (a' := ?_) #[true, true, true, true, true, true, true, true, true, true, true, true, true, true, true, true, true] rfl rfl (any_of HT_.out (by kernel_rfl)) (fun _ _ _ h => h) (Or.inl ⟨by rfl, ?_⟩) ?_ ?_
                rotate_left
                · intro w'
                  go_simp
                  with_reducible rfl
                rotate_left
                · simp only [Act.put, List.setIfInBounds_toArray, List.set_cons_zero, List.set_cons_succ, i64_w, i32_w]
                  rfl
                refine done_ (done_of HT_.out (by kernel_rfl)) ?_
                try go_wp2
                go_loopg [9] k (fun kq v9 w' => ∃ (x9_1 : Int), v9 = .int .i64 x9_1 ∧ Aside0 (laws_FnMapDel.l0 kq t355 x9_1 t352 t357 t360 t361 = some r) ∧ Aside0 (kq ≤ k) ∧ Aside0 (Kd.R k39 39 w' w.heap.size (fun k_ => some k_ ≠ ((.slice Ao24 t357.length co24) : Value).ownBlock ∧ some k_ ≠ ((.slice Ao34 t364.length co34) : Value).ownBlock) (.slice Ao19 t352.length co19) t352) ∧ Aside0 (Kd.R k39 39 w' w.heap.size (fun k_ => some k_ ≠ ((.slice Ao19 t352.length co19) : Value).ownBlock ∧ some k_ ≠ ((.slice Ao34 t364.length co34) : Value).ownBlock) (.slice Ao24 t357.length co24) t357) ∧ Aside0 (Kd.R k39 39 w' w.heap.size (fun k_ => some k_ ≠ ((.slice Ao19 t352.length co19) : Value).ownBlock ∧ some k_ ≠ ((.slice Ao24 t357.length co24) : Value).ownBlock) (.slice Ao34 t364.length co34) t364) ∧ Aside0 (w'.heap[gb356]? = some (.cells #[(.slice Ao19 t352.length co19)] 25 (0, 0))) ∧ Aside0 (w'.heap[gb362]? = some (.cells #[(.slice Ao24 t357.length co24)] 25 (0, 0))) ∧ Aside0 (w'.heap[gb363]? = some (.cells #[.int .i64 t360, .int .i64 t361] 29 (0, 0))) ∧ Aside0 (w'.heap[gb369]? = some (.cells #[(.slice Ao34 t364.length co34)] 25 (0, 0))) ∧ Aside0 (w'.heap[gb370]? = some (.cells #[.int .i64 t367, .int .i64 t368] 29 (0, 0))) ∧ Aside0 (Below w.heap.size w w'))
                case atStart => exact ⟨(0), (by first | rfl | (simp; done) | (simp [*]; done)), H', ⟨Nat.le_refl _⟩, ⟨by (with_reducible repeat (first | apply rA_ | apply rN_ | apply rD_)); exact rM_ HO354.out (fun _ hk => ⟨hk.1.2, hk.2⟩)⟩, ⟨by (with_reducible repeat (first | apply rA_ | apply rN_ | apply rD_)); exact rM_ HO359.out (fun _ hk => ⟨hk.1.2, hk.2⟩)⟩, ⟨by (with_reducible repeat (first | apply rA_ | apply rN_ | apply rD_)); exact rM_ HO366.out (fun _ hk => ⟨hk.1.2, hk.2⟩)⟩, ⟨by (with_reducible repeat (first | refine kN_ ?_ _ | refine kD_ ?_ | refine kA_ ?_ _)); exact BK356.out⟩, ⟨by (with_reducible repeat (first | refine kN_ ?_ _ | refine kD_ ?_ | refine kA_ ?_ _)); exact BK362.out⟩, ⟨by (with_reducible repeat (first | refine kN_ ?_ _ | refine kD_ ?_ | refine kA_ ?_ _)); exact BK363.out⟩, ⟨by (with_reducible repeat (first | refine kN_ ?_ _ | refine kD_ ?_ | refine kA_ ?_ _)); exact BK369.out⟩, ⟨by (with_reducible repeat (first | refine kN_ ?_ _ | refine kD_ ?_ | refine kA_ ?_ _)); exact BK370.out⟩, ⟨by repeat (first | (with_reducible first | exact HB.out | apply bA_ | apply bN_ | apply bD_ | refine below_set ?_ GE356.out | refine below_set ?_ GE362.out | refine below_set ?_ GE363.out | refine below_set ?_ GE369.out | refine below_set ?_ GE370.out) | exact HB.out)⟩⟩
                case round =>
                  clear H'
                  try clear c1
                  try clear c2
                  try clear c2b0
                  try clear c2b1
                  try clear p2
                  try clear c3
                  try clear c4
                  try clear c7
                  try clear c8
                  try clear c8b0
                  try clear c10
                  try clear c11
                  try clear c12
                  try clear c13
                  try clear c14
                  try clear c14b0
                  try clear c15
                  try clear c16
                  try clear c16b0
                  try clear c16b1
                  try clear c17
                  try clear c18
                  try clear c25
                  try clear c26
                  try clear c28
                  try clear c35
                  try clear c36
                  try clear c37
                  try clear c38
                  try clear c40
                  try clear c41
                  try clear c42
                  try clear hcz20_0
                  try clear hcz27_0
                  try clear hcz29_0
                  try clear hcz29_1
                  try clear hcz30_0
                  try clear hcz39_0
                  try clear hcz43_0
                  try clear hcz43_1
                  try clear hcz44_0
                  try clear hcz46_0
                  try clear hcz46_1
                  try clear hcz47_0
                  try clear hcz47_1
                  try clear hcz48_0
                  try clear hfz20_0
                  try clear hfz27_0
                  try clear hfz29_0
                  try clear hfz29_1
                  try clear hfz30_0
                  try clear hfz39_0
                  try clear hfz43_0
                  try clear hfz43_1
                  try clear hfz44_0
                  try clear hfz46_0
                  try clear hfz46_1
                  try clear hfz47_0
                  try clear hfz47_1
                  try clear hfz48_0
                  obtain ⟨x9_1, rfl, HA, HK1, HO_357000, HO_363000, HO_370000, BK356, BK362, BK363, BK369, BK370, HB⟩ := hrel
                  cases gk with
                  | zero => exact absurd HA.out (by simp [laws_FnMapDel.l0])
                  | succ k1 =>
                    have H := HA.out
                    clear HA
                    simp only [laws_FnMapDel.l0] at H
                    by_cases c54 : x9_1 ≤ 99
                    · rw [if_pos c54] at H
                      have c54b0 : decide (x9_1 ≤ 99) = true := decide_eq_true c54
                      clear c54
                      by_cases c55 : x9_1 = t355
                      · rw [if_pos c55] at H
                        have c55b0 : (x9_1 == t355) = true := beq_iff_eq.mpr c55
                        have c55b1 : (x9_1 != t355) = false := bne_eq_false_iff_eq.mpr c55
                        clear c55
                        have H' := aS_ H
                        clear H
                        try go_wp2
                        have n0_ := aS_ (rD_ HO_357000.out)
                        have n1_ := aS_ (rD_ HO_363000.out)
                        have n2_ := aS_ (rD_ HO_370000.out)
                        have n3_ := aS_ (kD_ BK356.out)
                        have n4_ := aS_ (kD_ BK362.out)
                        have n5_ := aS_ (kD_ BK363.out)
                        have n6_ := aS_ (kD_ BK369.out)
                        have n7_ := aS_ (kD_ BK370.out)
                        have n8_ := aS_ (bD_ HB.out)
                        clear HO_357000
                        clear HO_363000
                        clear HO_370000
                        clear BK356
                        clear BK362
                        clear BK363
                        clear BK369
                        clear BK370
                        clear HB
                        have HO_357000 := n0_
                        have HO_363000 := n1_
                        have HO_370000 := n2_
                        have BK356 := n3_
                        have BK362 := n4_
                        have BK363 := n5_
                        have BK369 := n6_
                        have BK370 := n7_
                        have HB := n8_
                        clear n0_ n1_ n2_ n3_ n4_ n5_ n6_ n7_ n8_
                        refine start_ (n := 12) (S := fun w' => True) (ds := []) #[false, false, false, false, false, false, false, false, false, false, false, false] (by kernel_rfl) rfl rfl trivial (fun hHeld => ?_); refine with_tabW laws_FnMapDel.tab15 laws_FnMapDel.bits15 (fun HT_ HW_ => ?_)
                        generalize wr.drew = w56 at HO_357000 HO_363000 HO_370000 BK356 BK362 BK363 BK369 BK370 HB hHeld ⊢
                        refine pure_ (i := 0) (N := some 77) (v := ?_) (a' := ?_) #[true, false, false, false, false, false, false, false, false, false, false, false] rfl rfl (any_of HT_.out (by kernel_rfl)) (fun _ _ _ h => h) (Or.inl ⟨by rfl, ?_⟩) ?_ ?_
                        rotate_left
                        · intro w'
                          go_simp
                          with_reducible rfl
                        rotate_left
                        · simp only [Act.put, List.setIfInBounds_toArray, List.set_cons_zero, List.set_cons_succ, i64_w, i32_w]
                          rfl
                        refine pure_ (i := 1) (N := some 78) (v := ?_) (a' := ?_) #[true, true, false, false, false, false, false, false, false, false, false, false] rfl rfl (any_of HT_.out (by kernel_rfl)) (fun _ _ _ h => h) (Or.inl ⟨by rfl, ?_⟩) ?_ ?_
                        rotate_left
                        · intro w'
                          go_simp
                          with_reducible rfl
                        rotate_left
                        · simp only [Act.put, List.setIfInBounds_toArray, List.set_cons_zero, List.set_cons_succ, i64_w, i32_w]
                          rfl
                        refine pure_ (i := 2) (N := some 79) (v := ?_) (a' := ?_) #[true, true, true, false, false, false, false, false, false, false, false, false] rfl rfl (any_of HT_.out (by kernel_rfl)) (fun _ _ _ h => h) (Or.inl ⟨by rfl, ?_⟩) ?_ ?_
                        rotate_left
                        · intro w'
                          go_simp
                          with_reducible rfl
                        rotate_left
                        · simp only [Act.put, List.setIfInBounds_toArray, List.set_cons_zero, List.set_cons_succ, i64_w, i32_w]
                          rfl
                        refine pure_ (i := 3) (N := some 80) (v := ?_) (a' := ?_) #[true, true, true, true, false, false, false, false, false, false, false, false] rfl rfl (any_of HT_.out (by kernel_rfl)) (fun _ _ _ h => h) (Or.inl ⟨by rfl, ?_⟩) ?_ ?_
                        rotate_left
                        · intro w'
                          go_simp
                          with_reducible rfl
                        rotate_left
                        · simp only [Act.put, List.setIfInBounds_toArray, List.set_cons_zero, List.set_cons_succ, i64_w, i32_w]
                          rfl
                        refine pure_ (i := 4) (N := some 81) (v := undef) (a' := ?_) #[true, true, true, true, true, false, false, false, false, false, false, false] rfl rfl (any_of HT_.out (by kernel_rfl)) (fun _ _ _ h => h) (Or.inr ⟨by rfl, rfl⟩) ?_ ?_
                        rotate_left
                        · simp only [Act.put, List.setIfInBounds_toArray, List.set_cons_zero, List.set_cons_succ, i64_w, i32_w]
                          rfl
                        refine pure_ (i := 5) (N := some 82) (v := undef) (a' := ?_) #[true, true, true, true, true, true, false, false, false, false, false, false] rfl rfl (any_of HT_.out (by kernel_rfl)) (fun _ _ _ h => h) (Or.inr ⟨by rfl, rfl⟩) ?_ ?_
                        rotate_left
                        · simp only [Act.put, List.setIfInBounds_toArray, List.set_cons_zero, List.set_cons_succ, i64_w, i32_w]
                          rfl
                        refine pure_ (i := 6) (N := some 83) (v := undef) (a' := ?_) #[true, true, true, true, true, true, true, false, false, false, false, false] rfl rfl (any_of HT_.out (by kernel_rfl)) (fun _ _ _ h => h) (Or.inr ⟨by rfl, rfl⟩) ?_ ?_
                        rotate_left
                        · simp only [Act.put, List.setIfInBounds_toArray, List.set_cons_zero, List.set_cons_succ, i64_w, i32_w]
                          rfl
                        refine pure_ (i := 7) (N := some 84) (v := undef) (a' := ?_) #[true, true, true, true, true, true, true, true, false, false, false, false] rfl rfl (any_of HT_.out (by kernel_rfl)) (fun _ _ _ h => h) (Or.inr ⟨by rfl, rfl⟩) ?_ ?_
                        rotate_left
                        · simp only [Act.put, List.setIfInBounds_toArray, List.set_cons_zero, List.set_cons_succ, i64_w, i32_w]
                          rfl
                        refine pure_ (i := 8) (N := some 85) (v := undef) (a' := ?_) #[true, true, true, true, true, true, true, true, true, false, false, false] rfl rfl (any_of HT_.out (by kernel_rfl)) (fun _ _ _ h => h) (Or.inr ⟨by rfl, rfl⟩) ?_ ?_
                        rotate_left
                        · simp only [Act.put, List.setIfInBounds_toArray, List.set_cons_zero, List.set_cons_succ, i64_w, i32_w]
                          rfl
                        refine pure_ (i := 9) (N := some 86) (v := undef) (a' := ?_) #[true, true, true, true, true, true, true, true, true, true, false, false] rfl rfl (any_of HT_.out (by kernel_rfl)) (fun _ _ _ h => h) (Or.inr ⟨by rfl, rfl⟩) ?_ ?_
                        rotate_left
                        · simp only [Act.put, List.setIfInBounds_toArray, List.set_cons_zero, List.set_cons_succ, i64_w, i32_w]
                          rfl
                        refine pure_ (i := 10) (N := some 87) (v := undef) (a' := ?_) #[true, true, true, true, true, true, true, true, true, true, true, false] rfl rfl (any_of HT_.out (by kernel_rfl)) (fun _ _ _ h => h) (Or.inr ⟨by rfl, rfl⟩) ?_ ?_
                        rotate_left
                        · simp only [Act.put, List.setIfInBounds_toArray, List.set_cons_zero, List.set_cons_succ, i64_w, i32_w]
                          rfl
                        refine pure_ (i := 11) (N := some 88) (v := ?_) (a' := ?_) #[true, true, true, true, true, true, true, true, true, true, true, true] rfl rfl (any_of HT_.out (by kernel_rfl)) (fun _ _ _ h => h) (Or.inl ⟨by rfl, ?_⟩) ?_ ?_
                        rotate_left
                        · intro w'
                          go_simp
                          with_reducible rfl
                        rotate_left
                        · simp only [Act.put, List.setIfInBounds_toArray, List.set_cons_zero, List.set_cons_succ, i64_w, i32_w]
                          rfl
                        refine done_ (done_of HT_.out (by kernel_rfl)) ?_
                        try go_wp2
                        go_roundg k1
                        case measure => have := HK1.out; omega
                        case rel => exact ⟨(wrap64 (x9_1 + 1)), (by first | rfl | (simp; done) | (simp [*]; done)), H', ⟨by have := HK1.out; omega⟩, ⟨by (with_reducible repeat (first | apply rA_ | apply rN_ | apply rD_)); exact HO_357000.out⟩, ⟨by (with_reducible repeat (first | apply rA_ | apply rN_ | apply rD_)); exact HO_363000.out⟩, ⟨by (with_reducible repeat (first | apply rA_ | apply rN_ | apply rD_)); exact HO_370000.out⟩, ⟨by (with_reducible repeat (first | refine kN_ ?_ _ | refine kD_ ?_ | refine kA_ ?_ _)); exact BK356.out⟩, ⟨by (with_reducible repeat (first | refine kN_ ?_ _ | refine kD_ ?_ | refine kA_ ?_ _)); exact BK362.out⟩, ⟨by (with_reducible repeat (first | refine kN_ ?_ _ | refine kD_ ?_ | refine kA_ ?_ _)); exact BK363.out⟩, ⟨by (with_reducible repeat (first | refine kN_ ?_ _ | refine kD_ ?_ | refine kA_ ?_ _)); exact BK369.out⟩, ⟨by (with_reducible repeat (first | refine kN_ ?_ _ | refine kD_ ?_ | refine kA_ ?_ _)); exact BK370.out⟩, ⟨by repeat (first | (with_reducible first | exact HB.out | apply bA_ | apply bN_ | apply bD_ | refine below_set ?_ GE356.out | refine below_set ?_ GE362.out | refine below_set ?_ GE363.out | refine below_set ?_ GE369.out | refine below_set ?_ GE370.out) | exact HB.out)⟩⟩
                      · rw [if_neg c55] at H
                        have c55b0 : (x9_1 == t355) = false := beq_eq_false_iff_ne.mpr c55
                        have c55b1 : (x9_1 != t355) = true := bne_iff_ne.mpr c55
                        replace H := Option.bind_eq_some_iff.mp H
                        obtain ⟨⟨t378, t379⟩, A570, H⟩ := H
                        replace H : ((impl_MapGet.f k1 t352 x9_1).bind fun bt380 => (if (!(t378 == bt380.1) || (!(t379 == bt380.2))) = true then (some false) else (laws_FnMapDel.l0 k1 t355 (wrap64 (x9_1 + 1)) t352 t357 t360 t361))) = some r := H
                        have A57 := aS_ A570
                        clear A570
                        replace H := Option.bind_eq_some_iff.mp H
                        obtain ⟨⟨t380, t381⟩, A580, H⟩ := H
                        replace H : (if (!(t378 == t380) || (!(t379 == t381))) = true then (some false) else (laws_FnMapDel.l0 k1 t355 (wrap64 (x9_1 + 1)) t352 t357 t360 t361)) = some r := H
                        have A58 := aS_ A580
                        clear A580
                        by_cases c59 : (!(t378 == t380) || (!(t379 == t381))) = true
                        · rw [if_pos c59] at H
                          have c59b0 : (!(t378 == t380) || (!(t379 == t381))) = true := c59
                          clear c59
                          exact absurd (Option.some.inj H) (by rw [HT.out]; decide)
                        · rw [if_neg c59] at H
                          have c59b0 : (!(t378 == t380) || (!(t379 == t381))) = false := by simpa using c59
                          clear c59
                          have H' := aS_ H
                          clear H
                          try go_wp2
                          have n0_ := aS_ (rD_ HO_357000.out)
                          have n1_ := aS_ (rD_ HO_363000.out)
                          have n2_ := aS_ (rD_ HO_370000.out)
                          have n3_ := aS_ (kD_ BK356.out)
                          have n4_ := aS_ (kD_ BK362.out)
                          have n5_ := aS_ (kD_ BK363.out)
                          have n6_ := aS_ (kD_ BK369.out)
                          have n7_ := aS_ (kD_ BK370.out)
                          have n8_ := aS_ (bD_ HB.out)
                          clear HO_357000
                          clear HO_363000
                          clear HO_370000
                          clear BK356
                          clear BK362
                          clear BK363
                          clear BK369
                          clear BK370
                          clear HB
                          have HO_357000 := n0_
                          have HO_363000 := n1_
                          have HO_370000 := n2_
                          have BK356 := n3_
                          have BK362 := n4_
                          have BK363 := n5_
                          have BK369 := n6_
                          have BK370 := n7_
                          have HB := n8_
                          clear n0_ n1_ n2_ n3_ n4_ n5_ n6_ n7_ n8_
                          refine start_ (n := 12) (S := fun w' => w'.cell? ⟨gb362, 0, none⟩ = some (.slice Ao24 t357.length co24) ∧ w'.cell? ⟨gb356, 0, none⟩ = some (.slice Ao19 t352.length co19)) (ds := []) #[false, false, false, false, false, false, false, false, false, false, false, false] (by kernel_rfl) rfl rfl ⟨(blk_cell BK362.out 0).trans rfl, (blk_cell BK356.out 0).trans rfl⟩ (fun hHeld => ?_); refine with_tabW laws_FnMapDel.tab15 laws_FnMapDel.bits15 (fun HT_ HW_ => ?_)
                          generalize wr.drew = w60 at HO_357000 HO_363000 HO_370000 BK356 BK362 BK363 BK369 BK370 HB hHeld ⊢
                          refine pure_ (i := 0) (N := some 77) (v := ?_) (a' := ?_) #[true, false, false, false, false, false, false, false, false, false, false, false] rfl rfl (any_of HT_.out (by kernel_rfl)) (fun _ _ _ h => h) (Or.inl ⟨by rfl, ?_⟩) ?_ ?_
                          rotate_left
                          · intro w'
                            go_simp
                            with_reducible rfl
                          rotate_left
                          · simp only [Act.put, List.setIfInBounds_toArray, List.set_cons_zero, List.set_cons_succ, i64_w, i32_w]
                            rfl
                          refine pure_ (i := 1) (N := some 78) (v := ?_) (a' := ?_) #[true, true, false, false, false, false, false, false, false, false, false, false] rfl rfl (any_of HT_.out (by kernel_rfl)) (fun _ _ _ h => h) (Or.inl ⟨by rfl, ?_⟩) ?_ ?_
                          rotate_left
                          · intro w'
                            go_simp
                            with_reducible rfl
                          rotate_left
                          · simp only [Act.put, List.setIfInBounds_toArray, List.set_cons_zero, List.set_cons_succ, i64_w, i32_w]
                            rfl
                          refine pure_ (i := 2) (N := some 79) (v := ?_) (a' := ?_) #[true, true, true, false, false, false, false, false, false, false, false, false] rfl rfl (any_of HT_.out (by kernel_rfl)) (fun _ _ _ h => h) (Or.inl ⟨by rfl, ?_⟩) ?_ ?_
                          rotate_left
                          · intro w'
                            go_simp
                            with_reducible rfl
                          rotate_left
                          · simp only [Act.put, List.setIfInBounds_toArray, List.set_cons_zero, List.set_cons_succ, i64_w, i32_w]
                            rfl
                          refine pure_ (i := 3) (N := some 80) (v := ?_) (a' := ?_) #[true, true, true, true, false, false, false, false, false, false, false, false] rfl rfl (any_of HT_.out (by kernel_rfl)) (fun _ _ _ h => h) (Or.inl ⟨by rfl, ?_⟩) ?_ ?_
                          rotate_left
                          · intro w'
                            go_simp
                            with_reducible rfl
                          rotate_left
                          · simp only [Act.put, List.setIfInBounds_toArray, List.set_cons_zero, List.set_cons_succ, i64_w, i32_w]
                            rfl
                          refine pure_ (i := 5) (N := some 82) (v := ?_) (a' := ?_) #[true, true, true, true, false, true, false, false, false, false, false, false] rfl rfl (any_of HT_.out (by kernel_rfl)) (fun _ _ _ h => h) (Or.inl ⟨by rfl, ?_⟩) ?_ ?_
                          rotate_left
                          · intro w'
                            go_simp
                            with_reducible rfl
                          rotate_left
                          · simp only [Act.put, List.setIfInBounds_toArray, List.set_cons_zero, List.set_cons_succ, i64_w, i32_w]
                            rfl
                          refine pure_ (i := 8) (N := some 85) (v := ?_) (a' := ?_) #[true, true, true, true, false, true, false, false, true, false, false, false] rfl rfl (any_of HT_.out (by kernel_rfl)) (fun _ _ _ h => h) (Or.inl ⟨by rfl, ?_⟩) ?_ ?_
                          rotate_left
                          · intro w'
                            go_simp
                            with_reducible rfl
                          rotate_left
                          · simp only [Act.put, List.setIfInBounds_toArray, List.set_cons_zero, List.set_cons_succ, i64_w, i32_w]
                            rfl
                          refine take_ (i := 4) (N := some 81) (v := ?_) (a' := ?_) #[true, true, true, true, true, true, false, false, true, false, false, false] rfl rfl (take_ofW HT_.out HW_.out (by kernel_rfl)) (fun _ _ _ h => h) (Or.inl ⟨by rfl, ?_⟩) hHeld ?_ ?_
                          rotate_left
                          · rintro w' ⟨s0, s1⟩
                            go_simp
                            with_reducible rfl
                          rotate_left
                          · simp only [Act.put, List.setIfInBounds_toArray, List.set_cons_zero, List.set_cons_succ, i64_w, i32_w]
                            rfl
                          refine take_ (i := 7) (N := some 84) (v := ?_) (a' := ?_) #[true, true, true, true, true, true, false, true, true, false, false, false] rfl rfl (take_ofW HT_.out HW_.out (by kernel_rfl)) (fun _ _ _ h => h) (Or.inl ⟨by rfl, ?_⟩) hHeld ?_ ?_
                          rotate_left
                          · rintro w' ⟨s0, s1⟩
                            go_simp
                            with_reducible rfl
                          rotate_left
                          · simp only [Act.put, List.setIfInBounds_toArray, List.set_cons_zero, List.set_cons_succ, i64_w, i32_w]
                            rfl
                          refine one_ (i := 6) (N := some 83) #[true, true, true, true, true, true, true, true, true, false, false, false] rfl rfl (one_of HT_.out (by kernel_rfl)) (by decide) (fun K hK => ?_)
                          refine goes_ Try.func18 (by kernel_rfl) rfl #[.agg #[.slice Ao24 t357.length co24], .int .i64 x9_1] (by rfl) rfl rfl (by (try simp only [List.map_toArray, List.map_cons, List.map_nil]); first | done | rfl | (simp only [List.length_drop, List.length_take]; rfl)) ?_
                          with_reducible refine (impl_MapGet.calls k1 _ _ t357 x9_1 t378 t379 _ ?side1 ?side2 A57.out).mono ?_
                          (case side1 => repeat (first | exact (Kd.R_reads' HO_363000.out).2.2 | (with_reducible refine Kd.C_alloc ?_ _) | (with_reducible refine Kd.C_drewN ?_ _) | (with_reducible refine Kd.C_drew ?_)))
                          (case side2 => exact (Kd.R_reads' HO_363000.out).2.1)
                          rintro e w61 ⟨rfl, hb⟩
                          refine ⟨_, rfl, ?_⟩
                          have n0_ := aS_ (Kd.R_below (by (with_reducible repeat (first | apply rA_ | apply rN_ | apply rD_)); exact HO_357000.out) hb)
                          have n1_ := aS_ (Kd.R_below (by (with_reducible repeat (first | apply rA_ | apply rN_ | apply rD_)); exact HO_363000.out) hb)
                          have n2_ := aS_ (Kd.R_below (by (with_reducible repeat (first | apply rA_ | apply rN_ | apply rD_)); exact HO_370000.out) hb)
                          have n3_ := aS_ (blk_below (g := gb356) (o := .cells #[.slice Ao19 t352.length co19] 25 (0, 0)) (by (with_reducible repeat (first | refine kN_ ?_ _ | refine kD_ ?_ | refine kA_ ?_ _)); exact BK356.out) hb)
                          have n4_ := aS_ (blk_below (g := gb362) (o := .cells #[.slice Ao24 t357.length co24] 25 (0, 0)) (by (with_reducible repeat (first | refine kN_ ?_ _ | refine kD_ ?_ | refine kA_ ?_ _)); exact BK362.out) hb)
                          have n5_ := aS_ (blk_below (g := gb363) (o := .cells #[.int .i64 t360, .int .i64 t361] 29 (0, 0)) (by (with_reducible repeat (first | refine kN_ ?_ _ | refine kD_ ?_ | refine kA_ ?_ _)); exact BK363.out) hb)
                          have n6_ := aS_ (blk_below (g := gb369) (o := .cells #[.slice Ao34 t364.length co34] 25 (0, 0)) (by (with_reducible repeat (first | refine kN_ ?_ _ | refine kD_ ?_ | refine kA_ ?_ _)); exact BK369.out) hb)
                          have n7_ := aS_ (blk_below (g := gb370) (o := .cells #[.int .i64 t367, .int .i64 t368] 29 (0, 0)) (by (with_reducible repeat (first | refine kN_ ?_ _ | refine kD_ ?_ | refine kA_ ?_ _)); exact BK370.out) hb)
                          have n8_ := aS_ (below_step (by repeat (first | (with_reducible first | exact HB.out | apply bA_ | apply bN_ | apply bD_ | refine below_set ?_ GE356.out | refine below_set ?_ GE362.out | refine below_set ?_ GE363.out | refine below_set ?_ GE369.out | refine below_set ?_ GE370.out) | exact HB.out)) hb)
                          clear HO_357000
                          clear HO_363000
                          clear HO_370000
                          clear BK356
                          clear BK362
                          clear BK363
                          clear BK369
                          clear BK370
                          clear HB
                          have HO_357000 := n0_
                          have HO_363000 := n1_
                          have HO_370000 := n2_
                          have BK356 := n3_
                          have BK362 := n4_
                          have BK363 := n5_
                          have BK369 := n6_
                          have BK370 := n7_
                          have HB := n8_
                          clear n0_ n1_ n2_ n3_ n4_ n5_ n6_ n7_ n8_
                          (try clear hb)
                          (try clear hb2)
                          (try clear hk)
                          (try clear hi)
                          refine hK.out _ _ ⟨(blk_cell BK362.out 0).trans rfl, (blk_cell BK356.out 0).trans rfl⟩ (fun hHeld => ?_)
                          clear hK K
                          refine norm_ (a' := ?_) ?_ ?_
                          rotate_left
                          · show Act.put _ (some 83) _ = _
                            simp only [Act.put, List.setIfInBounds_toArray, List.set_cons_zero, List.set_cons_succ, i64_w, i32_w]
                            rfl
                          refine one_ (i := 9) (N := some 86) #[true, true, true, true, true, true, true, true, true, true, false, false] rfl rfl (one_of HT_.out (by kernel_rfl)) (by decide) (fun K hK => ?_)
                          refine goes_ Try.func18 (by kernel_rfl) rfl #[.agg #[.slice Ao19 t352.length co19], .int .i64 x9_1] (by rfl) rfl rfl (by (try simp only [List.map_toArray, List.map_cons, List.map_nil]); first | done | rfl | (simp only [List.length_drop, List.length_take]; rfl)) ?_
                          with_reducible refine (impl_MapGet.calls k1 _ _ t352 x9_1 t380 t381 _ ?side1 ?side2 A58.out).mono ?_
                          (case side1 => repeat (first | exact (Kd.R_reads' HO_357000.out).2.2 | (with_reducible refine Kd.C_alloc ?_ _) | (with_reducible refine Kd.C_drewN ?_ _) | (with_reducible refine Kd.C_drew ?_)))
                          (case side2 => exact (Kd.R_reads' HO_357000.out).2.1)
                          rintro e w62 ⟨rfl, hb⟩
                          refine ⟨_, rfl, ?_⟩
                          have n0_ := aS_ (Kd.R_below (by (with_reducible repeat (first | apply rA_ | apply rN_ | apply rD_)); exact HO_357000.out) hb)
                          have n1_ := aS_ (Kd.R_below (by (with_reducible repeat (first | apply rA_ | apply rN_ | apply rD_)); exact HO_363000.out) hb)
                          have n2_ := aS_ (Kd.R_below (by (with_reducible repeat (first | apply rA_ | apply rN_ | apply rD_)); exact HO_370000.out) hb)
                          have n3_ := aS_ (blk_below (g := gb356) (o := .cells #[.slice Ao19 t352.length co19] 25 (0, 0)) (by (with_reducible repeat (first | refine kN_ ?_ _ | refine kD_ ?_ | refine kA_ ?_ _)); exact BK356.out) hb)
                          have n4_ := aS_ (blk_below (g := gb362) (o := .cells #[.slice Ao24 t357.length co24] 25 (0, 0)) (by (with_reducible repeat (first | refine kN_ ?_ _ | refine kD_ ?_ | refine kA_ ?_ _)); exact BK362.out) hb)
                          have n5_ := aS_ (blk_below (g := gb363) (o := .cells #[.int .i64 t360, .int .i64 t361] 29 (0, 0)) (by (with_reducible repeat (first | refine kN_ ?_ _ | refine kD_ ?_ | refine kA_ ?_ _)); exact BK363.out) hb)
                          have n6_ := aS_ (blk_below (g := gb369) (o := .cells #[.slice Ao34 t364.length co34] 25 (0, 0)) (by (with_reducible repeat (first | refine kN_ ?_ _ | refine kD_ ?_ | refine kA_ ?_ _)); exact BK369.out) hb)
                          have n7_ := aS_ (blk_below (g := gb370) (o := .cells #[.int .i64 t367, .int .i64 t368] 29 (0, 0)) (by (with_reducible repeat (first | refine kN_ ?_ _ | refine kD_ ?_ | refine kA_ ?_ _)); exact BK370.out) hb)
                          have n8_ := aS_ (below_step (by repeat (first | (with_reducible first | exact HB.out | apply bA_ | apply bN_ | apply bD_ | refine below_set ?_ GE356.out | refine below_set ?_ GE362.out | refine below_set ?_ GE363.out | refine below_set ?_ GE369.out | refine below_set ?_ GE370.out) | exact HB.out)) hb)
                          clear HO_357000
                          clear HO_363000
                          clear HO_370000
                          clear BK356
                          clear BK362
                          clear BK363
                          clear BK369
                          clear BK370
                          clear HB
                          have HO_357000 := n0_
                          have HO_363000 := n1_
                          have HO_370000 := n2_
                          have BK356 := n3_
                          have BK362 := n4_
                          have BK363 := n5_
                          have BK369 := n6_
                          have BK370 := n7_
                          have HB := n8_
                          clear n0_ n1_ n2_ n3_ n4_ n5_ n6_ n7_ n8_
                          (try clear hb)
                          (try clear hb2)
                          (try clear hk)
                          (try clear hi)
                          refine hK.out _ _ ⟨(blk_cell BK362.out 0).trans rfl, (blk_cell BK356.out 0).trans rfl⟩ (fun hHeld => ?_)
                          clear hK K
                          refine norm_ (a' := ?_) ?_ ?_
                          rotate_left
                          · show Act.put _ (some 86) _ = _
                            simp only [Act.put, List.setIfInBounds_toArray, List.set_cons_zero, List.set_cons_succ, i64_w, i32_w]
                            rfl
                          refine pure_ (i := 10) (N := some 87) (v := ?_) (a' := ?_) #[true, true, true, true, true, true, true, true, true, true, true, false] rfl rfl (any_of HT_.out (by kernel_rfl)) (fun _ _ _ h => h) (Or.inl ⟨by rfl, ?_⟩) ?_ ?_
                          rotate_left
                          · intro w'
                            go_simp
                            with_reducible rfl
                          rotate_left
                          · simp only [Act.put, List.setIfInBounds_toArray, List.set_cons_zero, List.set_cons_succ, i64_w, i32_w]
                            rfl
                          refine pure_ (i := 11) (N := some 88) (v := ?_) (a' := ?_) #[true, true, true, true, true, true, true, true, true, true, true, true] rfl rfl (any_of HT_.out (by kernel_rfl)) (fun _ _ _ h => h) (Or.inl ⟨by rfl, ?_⟩) ?_ ?_
                          rotate_left
                          · intro w'
                            go_simp
                            with_reducible rfl
                          rotate_left
                          · simp only [Act.put, List.setIfInBounds_toArray, List.set_cons_zero, List.set_cons_succ, i64_w, i32_w]
                            rfl
                          refine done_ (done_of HT_.out (by kernel_rfl)) ?_
                          try go_wp2
                          go_roundg k1
                          case measure => have := HK1.out; omega
                          case rel => exact ⟨(wrap64 (x9_1 + 1)), (by first | rfl | (simp; done) | (simp [*]; done)), H', ⟨by have := HK1.out; omega⟩, ⟨by (with_reducible repeat (first | apply rA_ | apply rN_ | apply rD_)); exact HO_357000.out⟩, ⟨by (with_reducible repeat (first | apply rA_ | apply rN_ | apply rD_)); exact HO_363000.out⟩, ⟨by (with_reducible repeat (first | apply rA_ | apply rN_ | apply rD_)); exact HO_370000.out⟩, ⟨by (with_reducible repeat (first | refine kN_ ?_ _ | refine kD_ ?_ | refine kA_ ?_ _)); exact BK356.out⟩, ⟨by (with_reducible repeat (first | refine kN_ ?_ _ | refine kD_ ?_ | refine kA_ ?_ _)); exact BK362.out⟩, ⟨by (with_reducible repeat (first | refine kN_ ?_ _ | refine kD_ ?_ | refine kA_ ?_ _)); exact BK363.out⟩, ⟨by (with_reducible repeat (first | refine kN_ ?_ _ | refine kD_ ?_ | refine kA_ ?_ _)); exact BK369.out⟩, ⟨by (with_reducible repeat (first | refine kN_ ?_ _ | refine kD_ ?_ | refine kA_ ?_ _)); exact BK370.out⟩, ⟨by repeat (first | (with_reducible first | exact HB.out | apply bA_ | apply bN_ | apply bD_ | refine below_set ?_ GE356.out | refine below_set ?_ GE362.out | refine below_set ?_ GE363.out | refine below_set ?_ GE369.out | refine below_set ?_ GE370.out) | exact HB.out)⟩⟩
                    · rw [if_neg c54] at H
                      have c54b0 : decide (x9_1 ≤ 99) = false := decide_eq_false c54
                      clear c54
                      by_cases c63 : t360 = 1
                      · rw [if_pos c63] at H
                        have c63b0 : (t360 == 1) = true := beq_iff_eq.mpr c63
                        have c63b1 : (t360 != 1) = false := bne_eq_false_iff_eq.mpr c63
                        clear c63
                        replace H := Option.bind_eq_some_iff.mp H
                        obtain ⟨t382, A640, H⟩ := H
                        replace H : (some t382) = some r := H
                        have A64 := aS_ A640
                        clear A640
                        obtain rfl := Option.some.inj H
                        have hnb65 := NB363_356.out
                        have hnc65 := NB356_363.out
                        have hnb66 := NB363_362.out
                        have hnc66 := NB362_363.out
                        have hnb67 := NB363_369.out
                        have hnc67 := NB369_363.out
                        have hnb68 := NB363_370.out
                        have hnc68 := NB370_363.out
                        have hcz69_0 : wr.cell? ⟨gb363, 0, none⟩ = some (.int .i64 t360) := (blk_cell BK363.out 0).trans rfl
                        have hcz69_1 : wr.cell? ⟨gb363, 1, none⟩ = some (.int .i64 t361) := (blk_cell BK363.out 1).trans rfl
                        have hfz69_0 := blk_frozen BK363.out 0
                        have hfz69_1 := blk_frozen BK363.out 1
                        have hnb70 := NB362_356.out
                        have hnc70 := NB356_362.out
                        have hnb71 := NB362_369.out
                        have hnc71 := NB369_362.out
                        have hnb72 := NB362_370.out
                        have hnc72 := NB370_362.out
                        have hcz73_0 : wr.cell? ⟨gb362, 0, none⟩ = some (.slice Ao24 t357.length co24) := (blk_cell BK362.out 0).trans rfl
                        have hfz73_0 := blk_frozen BK362.out 0
                        have hnb74 := NB356_369.out
                        have hnc74 := NB369_356.out
                        have hnb75 := NB356_370.out
                        have hnc75 := NB370_356.out
                        have hcz76_0 : wr.cell? ⟨gb356, 0, none⟩ = some (.slice Ao19 t352.length co19) := (blk_cell BK356.out 0).trans rfl
                        have hfz76_0 := blk_frozen BK356.out 0
                        go_wp2_with (first | ((with_reducible refine gate_callee (f := 14) rfl ?_); refine goesL_ (some 94) rfl rfl Try.func14 (by kernel_rfl) rfl #[.agg #[.slice Ao24 t357.length co24], .agg #[.slice Ao19 t352.length co19]] rfl (by (try simp only [List.map_toArray, List.map_cons, List.map_nil]); first | done | rfl | (simp only [List.length_drop, List.length_take]; rfl)) ?_; (with_reducible refine (laws_tgMap.calls k1 _ _ t357 _ _ t352 t382 _ ?side1 ?side2 ?side3 ?side4 A64.out).mono ?_); (case side1 => repeat (first | exact (Kd.R_reads' HO_363000.out).2.2 | (with_reducible refine Kd.C_alloc ?_ _) | (with_reducible refine Kd.C_drewN ?_ _) | (with_reducible refine Kd.C_drew ?_))); (case side2 => exact (Kd.R_reads' HO_363000.out).2.1); (case side3 => repeat (first | exact (Kd.R_reads' HO_357000.out).2.2 | (with_reducible refine Kd.C_alloc ?_ _) | (with_reducible refine Kd.C_drewN ?_ _) | (with_reducible refine Kd.C_drew ?_))); (case side4 => exact (Kd.R_reads' HO_357000.out).2.1); rintro e w77 ⟨rfl, hb⟩; refine ⟨_, rfl, ?_⟩; have n0_ := aS_ (Kd.R_below (by (with_reducible repeat (first | apply rA_ | apply rN_ | apply rD_)); exact HO_357000.out) hb); have n1_ := aS_ (Kd.R_below (by (with_reducible repeat (first | apply rA_ | apply rN_ | apply rD_)); exact HO_363000.out) hb); have n2_ := aS_ (Kd.R_below (by (with_reducible repeat (first | apply rA_ | apply rN_ | apply rD_)); exact HO_370000.out) hb); have n3_ := aS_ (blk_below (g := gb356) (o := .cells #[.slice Ao19 t352.length co19] 25 (0, 0)) (by (with_reducible repeat (first | refine kN_ ?_ _ | refine kD_ ?_ | refine kA_ ?_ _)); exact BK356.out) hb); have n4_ := aS_ (blk_below (g := gb362) (o := .cells #[.slice Ao24 t357.length co24] 25 (0, 0)) (by (with_reducible repeat (first | refine kN_ ?_ _ | refine kD_ ?_ | refine kA_ ?_ _)); exact BK362.out) hb); have n5_ := aS_ (blk_below (g := gb363) (o := .cells #[.int .i64 t360, .int .i64 t361] 29 (0, 0)) (by (with_reducible repeat (first | refine kN_ ?_ _ | refine kD_ ?_ | refine kA_ ?_ _)); exact BK363.out) hb); have n6_ := aS_ (blk_below (g := gb369) (o := .cells #[.slice Ao34 t364.length co34] 25 (0, 0)) (by (with_reducible repeat (first | refine kN_ ?_ _ | refine kD_ ?_ | refine kA_ ?_ _)); exact BK369.out) hb); have n7_ := aS_ (blk_below (g := gb370) (o := .cells #[.int .i64 t367, .int .i64 t368] 29 (0, 0)) (by (with_reducible repeat (first | refine kN_ ?_ _ | refine kD_ ?_ | refine kA_ ?_ _)); exact BK370.out) hb); have n8_ := aS_ (below_step (by repeat (first | (with_reducible first | exact HB.out | apply bA_ | apply bN_ | apply bD_ | refine below_set ?_ GE356.out | refine below_set ?_ GE362.out | refine below_set ?_ GE363.out | refine below_set ?_ GE369.out | refine below_set ?_ GE370.out) | exact HB.out)) hb); clear HO_357000; clear HO_363000; clear HO_370000; clear BK356; clear BK362; clear BK363; clear BK369; clear BK370; clear HB; have HO_357000 := n0_; have HO_363000 := n1_; have HO_370000 := n2_; have BK356 := n3_; have BK362 := n4_; have BK363 := n5_; have BK369 := n6_; have BK370 := n7_; have HB := n8_; clear n0_ n1_ n2_ n3_ n4_ n5_ n6_ n7_ n8_; (try clear hb); (try clear hb2); (try clear hk); (try clear hi)))
                        go_ret
                        exact ⟨by first | rfl | (simp [errW_none, errW_some] <;> rfl) | (simp [*, errW_none, errW_some] <;> rfl), by repeat (first | (with_reducible first | exact HB.out | apply bA_ | apply bN_ | apply bD_ | refine below_set ?_ GE356.out | refine below_set ?_ GE362.out | refine below_set ?_ GE363.out | refine below_set ?_ GE369.out | refine below_set ?_ GE370.out) | exact HB.out)⟩
                      · rw [if_neg c63] at H
                        have c63b0 : (t360 == 1) = false := beq_eq_false_iff_ne.mpr c63
                        have c63b1 : (t360 != 1) = true := bne_iff_ne.mpr c63
                        replace H := Option.bind_eq_some_iff.mp H
                        obtain ⟨⟨t383, t386, t387⟩, A780, H⟩ := H
                        replace H : ((laws_tgMap.f k1 t383 t352).bind fun t390 => (some t390)) = some r := H
                        have A78 := aS_ A780
                        clear A780
                        replace H := Option.bind_eq_some_iff.mp H
                        obtain ⟨t390, A790, H⟩ := H
                        replace H : (some t390) = some r := H
                        have A79 := aS_ A790
                        clear A790
                        obtain rfl := Option.some.inj H
                        have hnb80 := NB363_356.out
                        have hnc80 := NB356_363.out
                        have hnb81 := NB363_362.out
                        have hnc81 := NB362_363.out
                        have hnb82 := NB363_369.out
                        have hnc82 := NB369_363.out
                        have hnb83 := NB363_370.out
                        have hnc83 := NB370_363.out
                        have hcz84_0 : wr.cell? ⟨gb363, 0, none⟩ = some (.int .i64 t360) := (blk_cell BK363.out 0).trans rfl
                        have hcz84_1 : wr.cell? ⟨gb363, 1, none⟩ = some (.int .i64 t361) := (blk_cell BK363.out 1).trans rfl
                        have hfz84_0 := blk_frozen BK363.out 0
                        have hfz84_1 := blk_frozen BK363.out 1
                        have hnb85 := NB362_356.out
                        have hnc85 := NB356_362.out
                        have hnb86 := NB362_369.out
                        have hnc86 := NB369_362.out
                        have hnb87 := NB362_370.out
                        have hnc87 := NB370_362.out
                        have hcz88_0 : wr.cell? ⟨gb362, 0, none⟩ = some (.slice Ao24 t357.length co24) := (blk_cell BK362.out 0).trans rfl
                        have hfz88_0 := blk_frozen BK362.out 0
                        go_wp2_with (first | ((with_reducible refine gate_callee (f := 19) rfl ?_); refine goesL_ (some 100) rfl rfl Try.func19 (by kernel_rfl) rfl #[.agg #[.slice Ao24 t357.length co24], .int .i64 t355, .int .i64 t361] rfl (by (try simp only [List.map_toArray, List.map_cons, List.map_nil]); first | done | rfl | (simp only [List.length_drop, List.length_take]; rfl)) ?_; (with_reducible refine (impl_MapPut.calls k1 _ _ t357 t355 t361 t383 t386 t387 _ ?side1 ?side2 A78.out).mono ?_); (case side1 => repeat (first | exact (Kd.R_reads' HO_363000.out).2.2 | (with_reducible refine Kd.C_alloc ?_ _) | (with_reducible refine Kd.C_drewN ?_ _) | (with_reducible refine Kd.C_drew ?_))); (case side2 => exact (Kd.R_reads' HO_363000.out).2.1); rintro e w89 ⟨v384, rfl, ho0, hb⟩; refine ⟨_, rfl, ?_⟩; have n0_ := aS_ (Kd.R_elder' (by (with_reducible repeat (first | apply rA_ | apply rN_ | apply rD_)); exact HO_357000.out) (Kd.R_base ho0) hb); have n1_ := aS_ (Kd.R_elder' (by (with_reducible repeat (first | apply rA_ | apply rN_ | apply rD_)); exact HO_363000.out) (Kd.R_base ho0) hb); have n2_ := aS_ (Kd.R_elder' (by (with_reducible repeat (first | apply rA_ | apply rN_ | apply rD_)); exact HO_370000.out) (Kd.R_base ho0) hb); have n3_ := aS_ (Kd.R_lower (Kd.R_new' (Kd.R_new' (Kd.R_new' ho0 (Kd.R_lt (by (with_reducible repeat (first | apply rA_ | apply rN_ | apply rD_)); exact HO_357000.out))) (Kd.R_lt (by (with_reducible repeat (first | apply rA_ | apply rN_ | apply rD_)); exact HO_363000.out))) (Kd.R_lt (by (with_reducible repeat (first | apply rA_ | apply rN_ | apply rD_)); exact HO_370000.out))) (below_size (by repeat (first | (with_reducible first | exact HB.out | apply bA_ | apply bN_ | apply bD_ | refine below_set ?_ GE356.out | refine below_set ?_ GE362.out | refine below_set ?_ GE363.out | refine below_set ?_ GE369.out | refine below_set ?_ GE370.out) | exact HB.out)))); have n4_ := aS_ (blk_below (g := gb356) (o := .cells #[.slice Ao19 t352.length co19] 25 (0, 0)) (by (with_reducible repeat (first | refine kN_ ?_ _ | refine kD_ ?_ | refine kA_ ?_ _)); exact BK356.out) hb); have n5_ := aS_ (blk_below (g := gb362) (o := .cells #[.slice Ao24 t357.length co24] 25 (0, 0)) (by (with_reducible repeat (first | refine kN_ ?_ _ | refine kD_ ?_ | refine kA_ ?_ _)); exact BK362.out) hb); have n6_ := aS_ (blk_below (g := gb363) (o := .cells #[.int .i64 t360, .int .i64 t361] 29 (0, 0)) (by (with_reducible repeat (first | refine kN_ ?_ _ | refine kD_ ?_ | refine kA_ ?_ _)); exact BK363.out) hb); have n7_ := aS_ (blk_below (g := gb369) (o := .cells #[.slice Ao34 t364.length co34] 25 (0, 0)) (by (with_reducible repeat (first | refine kN_ ?_ _ | refine kD_ ?_ | refine kA_ ?_ _)); exact BK369.out) hb); have n8_ := aS_ (blk_below (g := gb370) (o := .cells #[.int .i64 t367, .int .i64 t368] 29 (0, 0)) (by (with_reducible repeat (first | refine kN_ ?_ _ | refine kD_ ?_ | refine kA_ ?_ _)); exact BK370.out) hb); have n9_ := aS_ (below_step (by repeat (first | (with_reducible first | exact HB.out | apply bA_ | apply bN_ | apply bD_ | refine below_set ?_ GE356.out | refine below_set ?_ GE362.out | refine below_set ?_ GE363.out | refine below_set ?_ GE369.out | refine below_set ?_ GE370.out) | exact HB.out)) hb); clear HO_357000; clear HO_363000; clear HO_370000; clear BK356; clear BK362; clear BK363; clear BK369; clear BK370; clear HB; have HO_357000 := n0_; have HO_363000 := n1_; have HO_370000 := n2_; have HO385 := n3_; have BK356 := n4_; have BK362 := n5_; have BK363 := n6_; have BK369 := n7_; have BK370 := n8_; have HB := n9_; clear n0_ n1_ n2_ n3_ n4_ n5_ n6_ n7_ n8_ n9_; (try clear hb); (try clear hb2); (try clear hk); (try clear hi); (try clear ho0)) | ((with_reducible refine gate_dst (N := 10) rfl ?_); (try (refine gate_guard (by rfl) ?_; dsimp only)); refine box_event ?hg (N := 10) ?hd (cs := #[.slice none 0 0]) (t := 25) ?hr ?_; (case hd => rfl); (case hg => rfl); (case hr => first | (go_simp; done) | (go_simp; rfl)); intro gb388 hg w90 hbox hb; have n0_ := aS_ (Kd.R_below (by (with_reducible repeat (first | apply rA_ | apply rN_ | apply rD_)); exact HO_357000.out) hb); have n1_ := aS_ (Kd.R_below (by (with_reducible repeat (first | apply rA_ | apply rN_ | apply rD_)); exact HO_363000.out) hb); have n2_ := aS_ (Kd.R_below (by (with_reducible repeat (first | apply rA_ | apply rN_ | apply rD_)); exact HO_370000.out) hb); have n3_ := aS_ (Kd.R_below (by (with_reducible repeat (first | apply rA_ | apply rN_ | apply rD_)); exact HO385.out) hb); have n4_ := aS_ (blk_below (g := gb356) (o := .cells #[.slice Ao19 t352.length co19] 25 (0, 0)) (by (with_reducible repeat (first | refine kN_ ?_ _ | refine kD_ ?_ | refine kA_ ?_ _)); exact BK356.out) hb); have n5_ := aS_ (blk_below (g := gb362) (o := .cells #[.slice Ao24 t357.length co24] 25 (0, 0)) (by (with_reducible repeat (first | refine kN_ ?_ _ | refine kD_ ?_ | refine kA_ ?_ _)); exact BK362.out) hb); have n6_ := aS_ (blk_below (g := gb363) (o := .cells #[.int .i64 t360, .int .i64 t361] 29 (0, 0)) (by (with_reducible repeat (first | refine kN_ ?_ _ | refine kD_ ?_ | refine kA_ ?_ _)); exact BK363.out) hb); have n7_ := aS_ (blk_below (g := gb369) (o := .cells #[.slice Ao34 t364.length co34] 25 (0, 0)) (by (with_reducible repeat (first | refine kN_ ?_ _ | refine kD_ ?_ | refine kA_ ?_ _)); exact BK369.out) hb); have n8_ := aS_ (blk_below (g := gb370) (o := .cells #[.int .i64 t367, .int .i64 t368] 29 (0, 0)) (by (with_reducible repeat (first | refine kN_ ?_ _ | refine kD_ ?_ | refine kA_ ?_ _)); exact BK370.out) hb); have n9_ := aS_ (below_step (by repeat (first | (with_reducible first | exact HB.out | apply bA_ | apply bN_ | apply bD_ | refine below_set ?_ GE356.out | refine below_set ?_ GE362.out | refine below_set ?_ GE363.out | refine below_set ?_ GE369.out | refine below_set ?_ GE370.out) | exact HB.out)) hb); have n10_ := aS_ (hbox); have n11_ := aS_ ((by rw [hg]; exact (below_size (by repeat (first | (with_reducible first | exact HB.out | apply bA_ | apply bN_ | apply bD_ | refine below_set ?_ GE356.out | refine below_set ?_ GE362.out | refine below_set ?_ GE363.out | refine below_set ?_ GE369.out | refine below_set ?_ GE370.out) | exact HB.out))) : w.heap.size ≤ gb388)); have n12_ := aS_ ((by rw [hg]; exact (below_size (by repeat (first | (with_reducible first | exact HB.out | apply bA_ | apply bN_ | apply bD_ | refine below_set ?_ GE356.out | refine below_set ?_ GE362.out | refine below_set ?_ GE363.out | refine below_set ?_ GE369.out | refine below_set ?_ GE370.out) | exact HB.out))) : w.heap.size ≤ gb388)); have n13_ := aS_ ((by rw [hg]; exact Nat.ne_of_lt (blk_lt (g := gb356) (o := .cells #[.slice Ao19 t352.length co19] 25 (0, 0)) (by (with_reducible repeat (first | refine kN_ ?_ _ | refine kD_ ?_ | refine kA_ ?_ _)); exact BK356.out)) : gb356 ≠ gb388)); have n14_ := aS_ ((by rw [hg]; exact Nat.ne_of_gt (blk_lt (g := gb356) (o := .cells #[.slice Ao19 t352.length co19] 25 (0, 0)) (by (with_reducible repeat (first | refine kN_ ?_ _ | refine kD_ ?_ | refine kA_ ?_ _)); exact BK356.out)) : gb388 ≠ gb356)); have n15_ := aS_ ((by rw [hg]; exact Nat.ne_of_lt (blk_lt (g := gb362) (o := .cells #[.slice Ao24 t357.length co24] 25 (0, 0)) (by (with_reducible repeat (first | refine kN_ ?_ _ | refine kD_ ?_ | refine kA_ ?_ _)); exact BK362.out)) : gb362 ≠ gb388)); have n16_ := aS_ ((by rw [hg]; exact Nat.ne_of_gt (blk_lt (g := gb362) (o := .cells #[.slice Ao24 t357.length co24] 25 (0, 0)) (by (with_reducible repeat (first | refine kN_ ?_ _ | refine kD_ ?_ | refine kA_ ?_ _)); exact BK362.out)) : gb388 ≠ gb362)); have n17_ := aS_ ((by rw [hg]; exact Nat.ne_of_lt (blk_lt (g := gb363) (o := .cells #[.int .i64 t360, .int .i64 t361] 29 (0, 0)) (by (with_reducible repeat (first | refine kN_ ?_ _ | refine kD_ ?_ | refine kA_ ?_ _)); exact BK363.out)) : gb363 ≠ gb388)); have n18_ := aS_ ((by rw [hg]; exact Nat.ne_of_gt (blk_lt (g := gb363) (o := .cells #[.int .i64 t360, .int .i64 t361] 29 (0, 0)) (by (with_reducible repeat (first | refine kN_ ?_ _ | refine kD_ ?_ | refine kA_ ?_ _)); exact BK363.out)) : gb388 ≠ gb363)); have n19_ := aS_ ((by rw [hg]; exact Nat.ne_of_lt (blk_lt (g := gb369) (o := .cells #[.slice Ao34 t364.length co34] 25 (0, 0)) (by (with_reducible repeat (first | refine kN_ ?_ _ | refine kD_ ?_ | refine kA_ ?_ _)); exact BK369.out)) : gb369 ≠ gb388)); have n20_ := aS_ ((by rw [hg]; exact Nat.ne_of_gt (blk_lt (g := gb369) (o := .cells #[.slice Ao34 t364.length co34] 25 (0, 0)) (by (with_reducible repeat (first | refine kN_ ?_ _ | refine kD_ ?_ | refine kA_ ?_ _)); exact BK369.out)) : gb388 ≠ gb369)); have n21_ := aS_ ((by rw [hg]; exact Nat.ne_of_lt (blk_lt (g := gb370) (o := .cells #[.int .i64 t367, .int .i64 t368] 29 (0, 0)) (by (with_reducible repeat (first | refine kN_ ?_ _ | refine kD_ ?_ | refine kA_ ?_ _)); exact BK370.out)) : gb370 ≠ gb388)); have n22_ := aS_ ((by rw [hg]; exact Nat.ne_of_gt (blk_lt (g := gb370) (o := .cells #[.int .i64 t367, .int .i64 t368] 29 (0, 0)) (by (with_reducible repeat (first | refine kN_ ?_ _ | refine kD_ ?_ | refine kA_ ?_ _)); exact BK370.out)) : gb388 ≠ gb370)); clear HO_357000; clear HO_363000; clear HO_370000; clear HO385; clear BK356; clear BK362; clear BK363; clear BK369; clear BK370; clear HB; have HO_357000 := n0_; have HO_363000 := n1_; have HO_370000 := n2_; have HO385 := n3_; have BK356 := n4_; have BK362 := n5_; have BK363 := n6_; have BK369 := n7_; have BK370 := n8_; have HB := n9_; have BK388 := n10_; have GW388 := n11_; have GE388 := n12_; have NB356_388 := n13_; have NB388_356 := n14_; have NB362_388 := n15_; have NB388_362 := n16_; have NB363_388 := n17_; have NB388_363 := n18_; have NB369_388 := n19_; have NB388_369 := n20_; have NB370_388 := n21_; have NB388_370 := n22_; clear n0_ n1_ n2_ n3_ n4_ n5_ n6_ n7_ n8_ n9_ n10_ n11_ n12_ n13_ n14_ n15_ n16_ n17_ n18_ n19_ n20_ n21_ n22_; clear hb hbox hg) | ((with_reducible refine gate_dst (N := 11) rfl ?_); (try (refine gate_guard (by rfl) ?_; dsimp only)); refine box_event ?hg (N := 11) ?hd (cs := #[.int .i64 0, .int .i64 0]) (t := 29) ?hr ?_; (case hd => rfl); (case hg => rfl); (case hr => first | (go_simp; done) | (go_simp; rfl)); intro gb389 hg w91 hbox hb; have n0_ := aS_ (Kd.R_below (by (with_reducible repeat (first | apply rA_ | apply rN_ | apply rD_)); exact HO_357000.out) hb); have n1_ := aS_ (Kd.R_below (by (with_reducible repeat (first | apply rA_ | apply rN_ | apply rD_)); exact HO_363000.out) hb); have n2_ := aS_ (Kd.R_below (by (with_reducible repeat (first | apply rA_ | apply rN_ | apply rD_)); exact HO_370000.out) hb); have n3_ := aS_ (Kd.R_below (by (with_reducible repeat (first | apply rA_ | apply rN_ | apply rD_)); exact HO385.out) hb); have n4_ := aS_ (blk_below (g := gb356) (o := .cells #[.slice Ao19 t352.length co19] 25 (0, 0)) (by (with_reducible repeat (first | refine kN_ ?_ _ | refine kD_ ?_ | refine kA_ ?_ _)); exact BK356.out) hb); have n5_ := aS_ (blk_below (g := gb362) (o := .cells #[.slice Ao24 t357.length co24] 25 (0, 0)) (by (with_reducible repeat (first | refine kN_ ?_ _ | refine kD_ ?_ | refine kA_ ?_ _)); exact BK362.out) hb); have n6_ := aS_ (blk_below (g := gb363) (o := .cells #[.int .i64 t360, .int .i64 t361] 29 (0, 0)) (by (with_reducible repeat (first | refine kN_ ?_ _ | refine kD_ ?_ | refine kA_ ?_ _)); exact BK363.out) hb); have n7_ := aS_ (blk_below (g := gb369) (o := .cells #[.slice Ao34 t364.length co34] 25 (0, 0)) (by (with_reducible repeat (first | refine kN_ ?_ _ | refine kD_ ?_ | refine kA_ ?_ _)); exact BK369.out) hb); have n8_ := aS_ (blk_below (g := gb370) (o := .cells #[.int .i64 t367, .int .i64 t368] 29 (0, 0)) (by (with_reducible repeat (first | refine kN_ ?_ _ | refine kD_ ?_ | refine kA_ ?_ _)); exact BK370.out) hb); have n9_ := aS_ (blk_below (g := gb388) (o := .cells #[.slice none 0 0] 25 (0, 0)) (by (with_reducible repeat (first | refine kN_ ?_ _ | refine kD_ ?_ | refine kA_ ?_ _)); exact BK388.out) hb); have n10_ := aS_ (below_step (by repeat (first | (with_reducible first | exact HB.out | apply bA_ | apply bN_ | apply bD_ | refine below_set ?_ GE356.out | refine below_set ?_ GE362.out | refine below_set ?_ GE363.out | refine below_set ?_ GE369.out | refine below_set ?_ GE370.out | refine below_set ?_ GE388.out) | exact HB.out)) hb); have n11_ := aS_ (hbox); have n12_ := aS_ ((by rw [hg]; exact (below_size (by repeat (first | (with_reducible first | exact HB.out | apply bA_ | apply bN_ | apply bD_ | refine below_set ?_ GE356.out | refine below_set ?_ GE362.out | refine below_set ?_ GE363.out | refine below_set ?_ GE369.out | refine below_set ?_ GE370.out | refine below_set ?_ GE388.out) | exact HB.out))) : w.heap.size ≤ gb389)); have n13_ := aS_ ((by rw [hg]; exact (below_size (by repeat (first | (with_reducible first | exact HB.out | apply bA_ | apply bN_ | apply bD_ | refine below_set ?_ GE356.out | refine below_set ?_ GE362.out | refine below_set ?_ GE363.out | refine below_set ?_ GE369.out | refine below_set ?_ GE370.out | refine below_set ?_ GE388.out) | exact HB.out))) : w.heap.size ≤ gb389)); have n14_ := aS_ ((by rw [hg]; exact Nat.ne_of_lt (blk_lt (g := gb356) (o := .cells #[.slice Ao19 t352.length co19] 25 (0, 0)) (by (with_reducible repeat (first | refine kN_ ?_ _ | refine kD_ ?_ | refine kA_ ?_ _)); exact BK356.out)) : gb356 ≠ gb389)); have n15_ := aS_ ((by rw [hg]; exact Nat.ne_of_gt (blk_lt (g := gb356) (o := .cells #[.slice Ao19 t352.length co19] 25 (0, 0)) (by (with_reducible repeat (first | refine kN_ ?_ _ | refine kD_ ?_ | refine kA_ ?_ _)); exact BK356.out)) : gb389 ≠ gb356)); have n16_ := aS_ ((by rw [hg]; exact Nat.ne_of_lt (blk_lt (g := gb362) (o := .cells #[.slice Ao24 t357.length co24] 25 (0, 0)) (by (with_reducible repeat (first | refine kN_ ?_ _ | refine kD_ ?_ | refine kA_ ?_ _)); exact BK362.out)) : gb362 ≠ gb389)); have n17_ := aS_ ((by rw [hg]; exact Nat.ne_of_gt (blk_lt (g := gb362) (o := .cells #[.slice Ao24 t357.length co24] 25 (0, 0)) (by (with_reducible repeat (first | refine kN_ ?_ _ | refine kD_ ?_ | refine kA_ ?_ _)); exact BK362.out)) : gb389 ≠ gb362)); have n18_ := aS_ ((by rw [hg]; exact Nat.ne_of_lt (blk_lt (g := gb363) (o := .cells #[.int .i64 t360, .int .i64 t361] 29 (0, 0)) (by (with_reducible repeat (first | refine kN_ ?_ _ | refine kD_ ?_ | refine kA_ ?_ _)); exact BK363.out)) : gb363 ≠ gb389)); have n19_ := aS_ ((by rw [hg]; exact Nat.ne_of_gt (blk_lt (g := gb363) (o := .cells #[.int .i64 t360, .int .i64 t361] 29 (0, 0)) (by (with_reducible repeat (first | refine kN_ ?_ _ | refine kD_ ?_ | refine kA_ ?_ _)); exact BK363.out)) : gb389 ≠ gb363)); have n20_ := aS_ ((by rw [hg]; exact Nat.ne_of_lt (blk_lt (g := gb369) (o := .cells #[.slice Ao34 t364.length co34] 25 (0, 0)) (by (with_reducible repeat (first | refine kN_ ?_ _ | refine kD_ ?_ | refine kA_ ?_ _)); exact BK369.out)) : gb369 ≠ gb389)); have n21_ := aS_ ((by rw [hg]; exact Nat.ne_of_gt (blk_lt (g := gb369) (o := .cells #[.slice Ao34 t364.length co34] 25 (0, 0)) (by (with_reducible repeat (first | refine kN_ ?_ _ | refine kD_ ?_ | refine kA_ ?_ _)); exact BK369.out)) : gb389 ≠ gb369)); have n22_ := aS_ ((by rw [hg]; exact Nat.ne_of_lt (blk_lt (g := gb370) (o := .cells #[.int .i64 t367, .int .i64 t368] 29 (0, 0)) (by (with_reducible repeat (first | refine kN_ ?_ _ | refine kD_ ?_ | refine kA_ ?_ _)); exact BK370.out)) : gb370 ≠ gb389)); have n23_ := aS_ ((by rw [hg]; exact Nat.ne_of_gt (blk_lt (g := gb370) (o := .cells #[.int .i64 t367, .int .i64 t368] 29 (0, 0)) (by (with_reducible repeat (first | refine kN_ ?_ _ | refine kD_ ?_ | refine kA_ ?_ _)); exact BK370.out)) : gb389 ≠ gb370)); have n24_ := aS_ ((by rw [hg]; exact Nat.ne_of_lt (blk_lt (g := gb388) (o := .cells #[.slice none 0 0] 25 (0, 0)) (by (with_reducible repeat (first | refine kN_ ?_ _ | refine kD_ ?_ | refine kA_ ?_ _)); exact BK388.out)) : gb388 ≠ gb389)); have n25_ := aS_ ((by rw [hg]; exact Nat.ne_of_gt (blk_lt (g := gb388) (o := .cells #[.slice none 0 0] 25 (0, 0)) (by (with_reducible repeat (first | refine kN_ ?_ _ | refine kD_ ?_ | refine kA_ ?_ _)); exact BK388.out)) : gb389 ≠ gb388)); clear HO_357000; clear HO_363000; clear HO_370000; clear HO385; clear BK356; clear BK362; clear BK363; clear BK369; clear BK370; clear BK388; clear HB; have HO_357000 := n0_; have HO_363000 := n1_; have HO_370000 := n2_; have HO385 := n3_; have BK356 := n4_; have BK362 := n5_; have BK363 := n6_; have BK369 := n7_; have BK370 := n8_; have BK388 := n9_; have HB := n10_; have BK389 := n11_; have GW389 := n12_; have GE389 := n13_; have NB356_389 := n14_; have NB389_356 := n15_; have NB362_389 := n16_; have NB389_362 := n17_; have NB363_389 := n18_; have NB389_363 := n19_; have NB369_389 := n20_; have NB389_369 := n21_; have NB370_389 := n22_; have NB389_370 := n23_; have NB388_389 := n24_; have NB389_388 := n25_; clear n0_ n1_ n2_ n3_ n4_ n5_ n6_ n7_ n8_ n9_ n10_ n11_ n12_ n13_ n14_ n15_ n16_ n17_ n18_ n19_ n20_ n21_ n22_ n23_ n24_ n25_; clear hb hbox hg; obtain ⟨Ao92, co92, eo92⟩ := Kd.R_slice HO385.out; subst eo92; have hnb93 := NB388_356.out; have hnc93 := NB356_388.out; have hnb94 := NB388_362.out; have hnc94 := NB362_388.out; have hnb95 := NB388_363.out; have hnc95 := NB363_388.out; have hnb96 := NB388_369.out; have hnc96 := NB369_388.out; have hnb97 := NB388_370.out; have hnc97 := NB370_388.out; have hnb98 := NB388_389.out; have hnc98 := NB389_388.out; have hcz99_0 : w91.cell? ⟨gb388, 0, none⟩ = some (.slice none 0 0) := (blk_cell BK388.out 0).trans rfl; have hfz99_0 := blk_frozen BK388.out 0; have hnb100 := NB389_356.out; have hnc100 := NB356_389.out; have hnb101 := NB389_362.out; have hnc101 := NB362_389.out; have hnb102 := NB389_363.out; have hnc102 := NB363_389.out; have hnb103 := NB389_369.out; have hnc103 := NB369_389.out; have hnb104 := NB389_370.out; have hnc104 := NB370_389.out; have hcz105_0 : w91.cell? ⟨gb389, 0, none⟩ = some (.int .i64 0) := (blk_cell BK389.out 0).trans rfl; have hcz105_1 : w91.cell? ⟨gb389, 1, none⟩ = some (.int .i64 0) := (blk_cell BK389.out 1).trans rfl; have hfz105_0 := blk_frozen BK389.out 0; have hfz105_1 := blk_frozen BK389.out 1; have hnb106 := NB356_369.out; have hnc106 := NB369_356.out; have hnb107 := NB356_370.out; have hnc107 := NB370_356.out; have hcz108_0 : w91.cell? ⟨gb356, 0, none⟩ = some (.slice Ao19 t352.length co19) := (blk_cell BK356.out 0).trans rfl; have hfz108_0 := blk_frozen BK356.out 0) | ((with_reducible refine gate_callee (f := 14) rfl ?_); refine goesL_ (some 105) rfl rfl Try.func14 (by kernel_rfl) rfl #[.agg #[.slice Ao92 t383.length co92], .agg #[.slice Ao19 t352.length co19]] rfl (by (try simp only [List.map_toArray, List.map_cons, List.map_nil]); first | done | rfl | (simp only [List.length_drop, List.length_take]; rfl)) ?_; (with_reducible refine (laws_tgMap.calls k1 _ _ t383 _ _ t352 t390 _ ?side1 ?side2 ?side3 ?side4 A79.out).mono ?_); (case side1 => refine (Kd.R_reads' (e := 39) (base := w.heap.size) (ok := fun k_ => (((True ∧ some k_ ≠ (.slice Ao19 t352.length co19 : Value).ownBlock) ∧ some k_ ≠ (.slice Ao24 t357.length co24 : Value).ownBlock) ∧ some k_ ≠ (.slice Ao34 t364.length co34 : Value).ownBlock)) (n := t383.length) (c := co92) ?_).2.2; exact (by (with_reducible repeat (first | apply rA_ | apply rN_ | apply rD_)); exact (rM_ (rM_ (rF_ (p := ⟨gb389, 1, none⟩) (rF_ (p := ⟨gb389, 0, none⟩) (rF_ (p := ⟨gb388, 0, none⟩) (rT_ (rT_ HO385.out BK388.out (by decide)) BK389.out (by decide)) (fun _ hk => by first | exact hk.1.2 | trivial | simp [hk]) (.slice Ao92 t383.length co92)) (fun _ hk => by first | exact hk.2 | trivial | simp [hk]) (.int .i64 t386)) (fun _ hk => by first | exact hk.2 | trivial | simp [hk]) (.int .i64 t387)) (fun _ h_ => h_.1)) (fun _ h_ => h_.1)))); (case side2 => exact (Kd.R_reads' HO385.out).2.1); (case side3 => refine (Kd.R_reads' (e := 39) (base := w.heap.size) (ok := fun k_ => ((some k_ ≠ (.slice Ao24 t357.length co24 : Value).ownBlock ∧ some k_ ≠ (.slice Ao34 t364.length co34 : Value).ownBlock) ∧ some k_ ≠ (.slice Ao92 t383.length co92 : Value).ownBlock)) (n := t352.length) (c := co19) ?_).2.2; exact (by (with_reducible repeat (first | apply rA_ | apply rN_ | apply rD_)); exact (rM_ (rM_ (rF_ (p := ⟨gb389, 1, none⟩) (rF_ (p := ⟨gb389, 0, none⟩) (rF_ (p := ⟨gb388, 0, none⟩) (rT_ (rT_ HO_357000.out BK388.out (by decide)) BK389.out (by decide)) (fun _ hk => by first | exact hk.1.2 | trivial | simp [hk]) (.slice Ao92 t383.length co92)) (fun _ hk => by first | exact hk.2 | trivial | simp [hk]) (.int .i64 t386)) (fun _ hk => by first | exact hk.2 | trivial | simp [hk]) (.int .i64 t387)) (fun _ h_ => h_.1)) (fun _ h_ => h_.1)))); (case side4 => exact (Kd.R_reads' HO_357000.out).2.1); rintro e w109 ⟨rfl, hb⟩; refine ⟨_, rfl, ?_⟩; have n0_ := aS_ (Kd.R_below (by (with_reducible repeat (first | apply rA_ | apply rN_ | apply rD_)); exact (rM_ (rM_ (rF_ (p := ⟨gb389, 1, none⟩) (rF_ (p := ⟨gb389, 0, none⟩) (rF_ (p := ⟨gb388, 0, none⟩) (rT_ (rT_ HO_357000.out BK388.out (by decide)) BK389.out (by decide)) (fun _ hk => by first | exact hk.1.2 | trivial | simp [hk]) (.slice Ao92 t383.length co92)) (fun _ hk => by first | exact hk.2 | trivial | simp [hk]) (.int .i64 t386)) (fun _ hk => by first | exact hk.2 | trivial | simp [hk]) (.int .i64 t387)) (fun _ h_ => h_.1)) (fun _ h_ => h_.1))) hb); have n1_ := aS_ (Kd.R_below (by (with_reducible repeat (first | apply rA_ | apply rN_ | apply rD_)); exact (rM_ (rM_ (rF_ (p := ⟨gb389, 1, none⟩) (rF_ (p := ⟨gb389, 0, none⟩) (rF_ (p := ⟨gb388, 0, none⟩) (rT_ (rT_ HO_363000.out BK388.out (by decide)) BK389.out (by decide)) (fun _ hk => by first | exact hk.1.2 | trivial | simp [hk]) (.slice Ao92 t383.length co92)) (fun _ hk => by first | exact hk.2 | trivial | simp [hk]) (.int .i64 t386)) (fun _ hk => by first | exact hk.2 | trivial | simp [hk]) (.int .i64 t387)) (fun _ h_ => h_.1)) (fun _ h_ => h_.1))) hb); have n2_ := aS_ (Kd.R_below (by (with_reducible repeat (first | apply rA_ | apply rN_ | apply rD_)); exact (rM_ (rM_ (rF_ (p := ⟨gb389, 1, none⟩) (rF_ (p := ⟨gb389, 0, none⟩) (rF_ (p := ⟨gb388, 0, none⟩) (rT_ (rT_ HO_370000.out BK388.out (by decide)) BK389.out (by decide)) (fun _ hk => by first | exact hk.1.2 | trivial | simp [hk]) (.slice Ao92 t383.length co92)) (fun _ hk => by first | exact hk.2 | trivial | simp [hk]) (.int .i64 t386)) (fun _ hk => by first | exact hk.2 | trivial | simp [hk]) (.int .i64 t387)) (fun _ h_ => h_.1)) (fun _ h_ => h_.1))) hb); have n3_ := aS_ (Kd.R_below (by (with_reducible repeat (first | apply rA_ | apply rN_ | apply rD_)); exact (rM_ (rM_ (rF_ (p := ⟨gb389, 1, none⟩) (rF_ (p := ⟨gb389, 0, none⟩) (rF_ (p := ⟨gb388, 0, none⟩) (rT_ (rT_ HO385.out BK388.out (by decide)) BK389.out (by decide)) (fun _ hk => by first | exact hk.1.2 | trivial | simp [hk]) (.slice Ao92 t383.length co92)) (fun _ hk => by first | exact hk.2 | trivial | simp [hk]) (.int .i64 t386)) (fun _ hk => by first | exact hk.2 | trivial | simp [hk]) (.int .i64 t387)) (fun _ h_ => h_.1)) (fun _ h_ => h_.1))) hb); have n4_ := aS_ (blk_below (g := gb356) (o := .cells #[.slice Ao19 t352.length co19] 25 (0, 0)) (by (with_reducible repeat (first | refine kN_ ?_ _ | refine kD_ ?_ | refine kA_ ?_ _)); refine blk_far ?_ NB356_389.out _; (with_reducible repeat (first | refine kN_ ?_ _ | refine kD_ ?_ | refine kA_ ?_ _)); refine blk_far ?_ NB356_389.out _; (with_reducible repeat (first | refine kN_ ?_ _ | refine kD_ ?_ | refine kA_ ?_ _)); refine blk_far ?_ NB356_388.out _; (with_reducible repeat (first | refine kN_ ?_ _ | refine kD_ ?_ | refine kA_ ?_ _)); exact BK356.out) hb); have n5_ := aS_ (blk_below (g := gb362) (o := .cells #[.slice Ao24 t357.length co24] 25 (0, 0)) (by (with_reducible repeat (first | refine kN_ ?_ _ | refine kD_ ?_ | refine kA_ ?_ _)); refine blk_far ?_ NB362_389.out _; (with_reducible repeat (first | refine kN_ ?_ _ | refine kD_ ?_ | refine kA_ ?_ _)); refine blk_far ?_ NB362_389.out _; (with_reducible repeat (first | refine kN_ ?_ _ | refine kD_ ?_ | refine kA_ ?_ _)); refine blk_far ?_ NB362_388.out _; (with_reducible repeat (first | refine kN_ ?_ _ | refine kD_ ?_ | refine kA_ ?_ _)); exact BK362.out) hb); have n6_ := aS_ (blk_below (g := gb363) (o := .cells #[.int .i64 t360, .int .i64 t361] 29 (0, 0)) (by (with_reducible repeat (first | refine kN_ ?_ _ | refine kD_ ?_ | refine kA_ ?_ _)); refine blk_far ?_ NB363_389.out _; (with_reducible repeat (first | refine kN_ ?_ _ | refine kD_ ?_ | refine kA_ ?_ _)); refine blk_far ?_ NB363_389.out _; (with_reducible repeat (first | refine kN_ ?_ _ | refine kD_ ?_ | refine kA_ ?_ _)); refine blk_far ?_ NB363_388.out _; (with_reducible repeat (first | refine kN_ ?_ _ | refine kD_ ?_ | refine kA_ ?_ _)); exact BK363.out) hb); have n7_ := aS_ (blk_below (g := gb369) (o := .cells #[.slice Ao34 t364.length co34] 25 (0, 0)) (by (with_reducible repeat (first | refine kN_ ?_ _ | refine kD_ ?_ | refine kA_ ?_ _)); refine blk_far ?_ NB369_389.out _; (with_reducible repeat (first | refine kN_ ?_ _ | refine kD_ ?_ | refine kA_ ?_ _)); refine blk_far ?_ NB369_389.out _; (with_reducible repeat (first | refine kN_ ?_ _ | refine kD_ ?_ | refine kA_ ?_ _)); refine blk_far ?_ NB369_388.out _; (with_reducible repeat (first | refine kN_ ?_ _ | refine kD_ ?_ | refine kA_ ?_ _)); exact BK369.out) hb); have n8_ := aS_ (blk_below (g := gb370) (o := .cells #[.int .i64 t367, .int .i64 t368] 29 (0, 0)) (by (with_reducible repeat (first | refine kN_ ?_ _ | refine kD_ ?_ | refine kA_ ?_ _)); refine blk_far ?_ NB370_389.out _; (with_reducible repeat (first | refine kN_ ?_ _ | refine kD_ ?_ | refine kA_ ?_ _)); refine blk_far ?_ NB370_389.out _; (with_reducible repeat (first | refine kN_ ?_ _ | refine kD_ ?_ | refine kA_ ?_ _)); refine blk_far ?_ NB370_388.out _; (with_reducible repeat (first | refine kN_ ?_ _ | refine kD_ ?_ | refine kA_ ?_ _)); exact BK370.out) hb); have n9_ := aS_ (blk_below (g := gb388) (o := .cells #[.slice Ao92 t383.length co92] 25 (0, 0)) (by (with_reducible repeat (first | refine kN_ ?_ _ | refine kD_ ?_ | refine kA_ ?_ _)); refine blk_far ?_ NB388_389.out _; (with_reducible repeat (first | refine kN_ ?_ _ | refine kD_ ?_ | refine kA_ ?_ _)); refine blk_far ?_ NB388_389.out _; (with_reducible repeat (first | refine kN_ ?_ _ | refine kD_ ?_ | refine kA_ ?_ _)); refine blk_put (cs := #[.slice none 0 0]) ?_ 0 _ rfl; (with_reducible repeat (first | refine kN_ ?_ _ | refine kD_ ?_ | refine kA_ ?_ _)); exact BK388.out) hb); have n10_ := aS_ (blk_below (g := gb389) (o := .cells #[.int .i64 t386, .int .i64 t387] 29 (0, 0)) (by (with_reducible repeat (first | refine kN_ ?_ _ | refine kD_ ?_ | refine kA_ ?_ _)); refine blk_put (cs := #[.int .i64 t386, .int .i64 0]) ?_ 1 _ rfl; (with_reducible repeat (first | refine kN_ ?_ _ | refine kD_ ?_ | refine kA_ ?_ _)); refine blk_put (cs := #[.int .i64 0, .int .i64 0]) ?_ 0 _ rfl; (with_reducible repeat (first | refine kN_ ?_ _ | refine kD_ ?_ | refine kA_ ?_ _)); refine blk_far ?_ NB389_388.out _; (with_reducible repeat (first | refine kN_ ?_ _ | refine kD_ ?_ | refine kA_ ?_ _)); exact BK389.out) hb); have n11_ := aS_ (below_step (by repeat (first | (with_reducible first | exact HB.out | apply bA_ | apply bN_ | apply bD_ | refine below_set ?_ GE356.out | refine below_set ?_ GE362.out | refine below_set ?_ GE363.out | refine below_set ?_ GE369.out | refine below_set ?_ GE370.out | refine below_set ?_ GE388.out | refine below_set ?_ GE389.out) | exact HB.out)) hb); clear HO_357000; clear HO_363000; clear HO_370000; clear HO385; clear BK356; clear BK362; clear BK363; clear BK369; clear BK370; clear BK388; clear BK389; clear HB; have HO_357000 := n0_; have HO_363000 := n1_; have HO_370000 := n2_; have HO385 := n3_; have BK356 := n4_; have BK362 := n5_; have BK363 := n6_; have BK369 := n7_; have BK370 := n8_; have BK388 := n9_; have BK389 := n10_; have HB := n11_; clear n0_ n1_ n2_ n3_ n4_ n5_ n6_ n7_ n8_ n9_ n10_ n11_; (try clear hb); (try clear hb2); (try clear hk); (try clear hi)))
                        go_ret
                        exact ⟨by first | rfl | (simp [errW_none, errW_some] <;> rfl) | (simp [*, errW_none, errW_some] <;> rfl), by repeat (first | (with_reducible first | exact HB.out | apply bA_ | apply bN_ | apply bD_ | refine below_set ?_ GE356.out | refine below_set ?_ GE362.out | refine below_set ?_ GE363.out | refine below_set ?_ GE369.out | refine below_set ?_ GE370.out | refine below_set ?_ GE388.out | refine below_set ?_ GE389.out) | exact HB.out)⟩
              · rw [if_neg c16] at H
                have c16b0 : (t376 == 1) = false := beq_eq_false_iff_ne.mpr c16
                have c16b1 : (t376 != 1) = true := bne_iff_ne.mpr c16
                exact absurd (Option.some.inj H) (by rw [HT.out]; decide)
          · replace c12 := Bool.eq_false_iff.mpr c12
            subst c12
            have H1 : (some false) = some r := by rw [if_neg (show ¬ (false = true) by decide)] at H; exact H
            clear H
            have H := H1
            clear H1
            exact absurd (Option.some.inj H) (by rw [HT.out]; decide)
        · replace c10 := Bool.eq_false_iff.mpr c10
          subst c10
          have H1 : (if t360 = 0 then (if (t357.length : Int) = 0 then ((laws_tgOk.f k).bind fun t391 => (some t391)) else (some false)) else (some false)) = some r := by rw [if_neg (show ¬ (false = true) by decide)] at H; exact H
          clear H
          have H := H1
          clear H1
          by_cases c110 : t360 = 0
          · rw [if_pos c110] at H
            have c110b0 : (t360 == 0) = true := beq_iff_eq.mpr c110
            have c110b1 : (t360 != 0) = false := bne_eq_false_iff_eq.mpr c110
            clear c110
            by_cases c111 : (t357.length : Int) = 0
            · rw [if_pos c111] at H
              have c111b0 : ((t357.length : Int) == 0) = true := beq_iff_eq.mpr c111
              have c111b1 : ((t357.length : Int) != 0) = false := bne_eq_false_iff_eq.mpr c111
              clear c111
              replace H := Option.bind_eq_some_iff.mp H
              obtain ⟨t391, A1120, H⟩ := H
              replace H : (some t391) = some r := H
              have A112 := aS_ A1120
              clear A1120
              obtain rfl := Option.some.inj H
              go_enter Try.func3, Try.ntmps3
              go_wp2_with (first | ((with_reducible refine gate_callee (f := 11) rfl ?_); refine goesL_ (some 17) rfl rfl Try.func11 (by kernel_rfl) rfl #[.slice A0 l0.length c0] rfl (by (try simp only [List.map_toArray, List.map_cons, List.map_nil]); first | done | rfl | (simp only [List.length_drop, List.length_take]; rfl)) ?_; (with_reducible refine (spec_DrawMapDel.calls k _ _ l0 t352 t355 _ ?side1 ?side2 A3.out).mono ?_); (case side1 => repeat (first | exact HR0.out | (with_reducible refine Kd.C_alloc ?_ _) | (with_reducible refine Kd.C_drewN ?_ _) | (with_reducible refine Kd.C_drew ?_))); (case side2 => exact HC0.out); rintro e w113 ⟨v353, rfl, ho0, hb⟩; refine ⟨_, rfl, ?_⟩; have n0_ := aS_ (Kd.R_lower ho0 (below_size (by repeat (first | (with_reducible first | exact HB.out | apply bA_ | apply bN_ | apply bD_) | exact HB.out)))); have n1_ := aS_ (below_step (by repeat (first | (with_reducible first | exact HB.out | apply bA_ | apply bN_ | apply bD_) | exact HB.out)) hb); clear HB; have HO354 := n0_; have HB := n1_; clear n0_ n1_; (try clear hb); (try clear hb2); (try clear hk); (try clear hi); (try clear ho0)) | ((with_reducible refine gate_dst (N := 3) rfl ?_); (try (refine gate_guard (by rfl) ?_; dsimp only)); refine box_event ?hg (N := 3) ?hd (cs := #[.slice none 0 0]) (t := 25) ?hr ?_; (case hd => rfl); (case hg => rfl); (case hr => first | (go_simp; done) | (go_simp; rfl)); intro gb356 hg w114 hbox hb; have n0_ := aS_ (Kd.R_below (by (with_reducible repeat (first | apply rA_ | apply rN_ | apply rD_)); exact HO354.out) hb); have n1_ := aS_ (below_step (by repeat (first | (with_reducible first | exact HB.out | apply bA_ | apply bN_ | apply bD_) | exact HB.out)) hb); have n2_ := aS_ (hbox); have n3_ := aS_ ((by rw [hg]; exact (below_size (by repeat (first | (with_reducible first | exact HB.out | apply bA_ | apply bN_ | apply bD_) | exact HB.out))) : w.heap.size ≤ gb356)); have n4_ := aS_ ((by rw [hg]; exact (below_size (by repeat (first | (with_reducible first | exact HB.out | apply bA_ | apply bN_ | apply bD_) | exact HB.out))) : w.heap.size ≤ gb356)); clear HO354; clear HB; have HO354 := n0_; have HB := n1_; have BK356 := n2_; have GW356 := n3_; have GE356 := n4_; clear n0_ n1_ n2_ n3_ n4_; clear hb hbox hg; obtain ⟨Ao115, co115, eo115⟩ := Kd.R_slice HO354.out; subst eo115; have hcz116_0 : w114.cell? ⟨gb356, 0, none⟩ = some (.slice none 0 0) := (blk_cell BK356.out 0).trans rfl; have hfz116_0 := blk_frozen BK356.out 0) | ((with_reducible refine gate_callee (f := 12) rfl ?_); refine goesL_ (some 23) rfl rfl Try.func12 (by kernel_rfl) rfl #[.agg #[.slice Ao115 t352.length co115], .int .i64 t355] rfl (by (try simp only [List.map_toArray, List.map_cons, List.map_nil]); first | done | rfl | (simp only [List.length_drop, List.length_take]; rfl)) ?_; (with_reducible refine (impl_MapDel.calls k _ _ t352 t355 t357 t360 t361 _ ?side1 ?side2 A4.out).mono ?_); (case side1 => refine (Kd.R_reads' (e := 39) (base := w.heap.size) (ok := fun k_ => True) (n := t352.length) (c := co115) ?_).2.2; exact (by (with_reducible repeat (first | apply rA_ | apply rN_ | apply rD_)); exact (rM_ (rF_ (p := ⟨gb356, 0, none⟩) (rT_ HO354.out BK356.out (by decide)) (fun _ hk => by first | exact hk.2 | trivial | simp [hk]) (.slice Ao115 t352.length co115)) (fun _ h_ => h_.1)))); (case side2 => exact (Kd.R_reads' HO354.out).2.1); rintro e w117 ⟨v358, rfl, ho0, hb⟩; refine ⟨_, rfl, ?_⟩; have n0_ := aS_ (Kd.R_elder' (by (with_reducible repeat (first | apply rA_ | apply rN_ | apply rD_)); exact (rM_ (rF_ (p := ⟨gb356, 0, none⟩) (rT_ HO354.out BK356.out (by decide)) (fun _ hk => by first | exact hk.2 | trivial | simp [hk]) (.slice Ao115 t352.length co115)) (fun _ h_ => h_.1))) (Kd.R_base ho0) hb); have n1_ := aS_ (Kd.R_lower (Kd.R_new' ho0 (Kd.R_lt (by (with_reducible repeat (first | apply rA_ | apply rN_ | apply rD_)); exact (rM_ (rF_ (p := ⟨gb356, 0, none⟩) (rT_ HO354.out BK356.out (by decide)) (fun _ hk => by first | exact hk.2 | trivial | simp [hk]) (.slice Ao115 t352.length co115)) (fun _ h_ => h_.1))))) (below_size (by repeat (first | (with_reducible first | exact HB.out | apply bA_ | apply bN_ | apply bD_ | refine below_set ?_ GE356.out) | exact HB.out)))); have n2_ := aS_ (blk_below (g := gb356) (o := .cells #[.slice Ao115 t352.length co115] 25 (0, 0)) (by (with_reducible repeat (first | refine kN_ ?_ _ | refine kD_ ?_ | refine kA_ ?_ _)); refine blk_put (cs := #[.slice none 0 0]) ?_ 0 _ rfl; (with_reducible repeat (first | refine kN_ ?_ _ | refine kD_ ?_ | refine kA_ ?_ _)); exact BK356.out) hb); have n3_ := aS_ (below_step (by repeat (first | (with_reducible first | exact HB.out | apply bA_ | apply bN_ | apply bD_ | refine below_set ?_ GE356.out) | exact HB.out)) hb); clear HO354; clear BK356; clear HB; have HO354 := n0_; have HO359 := n1_; have BK356 := n2_; have HB := n3_; clear n0_ n1_ n2_ n3_; (try clear hb); (try clear hb2); (try clear hk); (try clear hi); (try clear ho0)) | ((with_reducible refine gate_dst (N := 5) rfl ?_); (try (refine gate_guard (by rfl) ?_; dsimp only)); refine box_event ?hg (N := 5) ?hd (cs := #[.slice none 0 0]) (t := 25) ?hr ?_; (case hd => rfl); (case hg => rfl); (case hr => first | (go_simp; done) | (go_simp; rfl)); intro gb362 hg w118 hbox hb; have n0_ := aS_ (Kd.R_below (by (with_reducible repeat (first | apply rA_ | apply rN_ | apply rD_)); exact HO354.out) hb); have n1_ := aS_ (Kd.R_below (by (with_reducible repeat (first | apply rA_ | apply rN_ | apply rD_)); exact HO359.out) hb); have n2_ := aS_ (blk_below (g := gb356) (o := .cells #[.slice Ao115 t352.length co115] 25 (0, 0)) (by (with_reducible repeat (first | refine kN_ ?_ _ | refine kD_ ?_ | refine kA_ ?_ _)); exact BK356.out) hb); have n3_ := aS_ (below_step (by repeat (first | (with_reducible first | exact HB.out | apply bA_ | apply bN_ | apply bD_ | refine below_set ?_ GE356.out) | exact HB.out)) hb); have n4_ := aS_ (hbox); have n5_ := aS_ ((by rw [hg]; exact (below_size (by repeat (first | (with_reducible first | exact HB.out | apply bA_ | apply bN_ | apply bD_ | refine below_set ?_ GE356.out) | exact HB.out))) : w.heap.size ≤ gb362)); have n6_ := aS_ ((by rw [hg]; exact (below_size (by repeat (first | (with_reducible first | exact HB.out | apply bA_ | apply bN_ | apply bD_ | refine below_set ?_ GE356.out) | exact HB.out))) : w.heap.size ≤ gb362)); have n7_ := aS_ ((by rw [hg]; exact Nat.ne_of_lt (blk_lt (g := gb356) (o := .cells #[.slice Ao115 t352.length co115] 25 (0, 0)) (by (with_reducible repeat (first | refine kN_ ?_ _ | refine kD_ ?_ | refine kA_ ?_ _)); exact BK356.out)) : gb356 ≠ gb362)); have n8_ := aS_ ((by rw [hg]; exact Nat.ne_of_gt (blk_lt (g := gb356) (o := .cells #[.slice Ao115 t352.length co115] 25 (0, 0)) (by (with_reducible repeat (first | refine kN_ ?_ _ | refine kD_ ?_ | refine kA_ ?_ _)); exact BK356.out)) : gb362 ≠ gb356)); clear HO354; clear HO359; clear BK356; clear HB; have HO354 := n0_; have HO359 := n1_; have BK356 := n2_; have HB := n3_; have BK362 := n4_; have GW362 := n5_; have GE362 := n6_; have NB356_362 := n7_; have NB362_356 := n8_; clear n0_ n1_ n2_ n3_ n4_ n5_ n6_ n7_ n8_; clear hb hbox hg) | ((with_reducible refine gate_dst (N := 6) rfl ?_); (try (refine gate_guard (by rfl) ?_; dsimp only)); refine box_event ?hg (N := 6) ?hd (cs := #[.int .i64 0, .int .i64 0]) (t := 29) ?hr ?_; (case hd => rfl); (case hg => rfl); (case hr => first | (go_simp; done) | (go_simp; rfl)); intro gb363 hg w119 hbox hb; have n0_ := aS_ (Kd.R_below (by (with_reducible repeat (first | apply rA_ | apply rN_ | apply rD_)); exact HO354.out) hb); have n1_ := aS_ (Kd.R_below (by (with_reducible repeat (first | apply rA_ | apply rN_ | apply rD_)); exact HO359.out) hb); have n2_ := aS_ (blk_below (g := gb356) (o := .cells #[.slice Ao115 t352.length co115] 25 (0, 0)) (by (with_reducible repeat (first | refine kN_ ?_ _ | refine kD_ ?_ | refine kA_ ?_ _)); exact BK356.out) hb); have n3_ := aS_ (blk_below (g := gb362) (o := .cells #[.slice none 0 0] 25 (0, 0)) (by (with_reducible repeat (first | refine kN_ ?_ _ | refine kD_ ?_ | refine kA_ ?_ _)); exact BK362.out) hb); have n4_ := aS_ (below_step (by repeat (first | (with_reducible first | exact HB.out | apply bA_ | apply bN_ | apply bD_ | refine below_set ?_ GE356.out | refine below_set ?_ GE362.out) | exact HB.out)) hb); have n5_ := aS_ (hbox); have n6_ := aS_ ((by rw [hg]; exact (below_size (by repeat (first | (with_reducible first | exact HB.out | apply bA_ | apply bN_ | apply bD_ | refine below_set ?_ GE356.out | refine below_set ?_ GE362.out) | exact HB.out))) : w.heap.size ≤ gb363)); have n7_ := aS_ ((by rw [hg]; exact (below_size (by repeat (first | (with_reducible first | exact HB.out | apply bA_ | apply bN_ | apply bD_ | refine below_set ?_ GE356.out | refine below_set ?_ GE362.out) | exact HB.out))) : w.heap.size ≤ gb363)); have n8_ := aS_ ((by rw [hg]; exact Nat.ne_of_lt (blk_lt (g := gb356) (o := .cells #[.slice Ao115 t352.length co115] 25 (0, 0)) (by (with_reducible repeat (first | refine kN_ ?_ _ | refine kD_ ?_ | refine kA_ ?_ _)); exact BK356.out)) : gb356 ≠ gb363)); have n9_ := aS_ ((by rw [hg]; exact Nat.ne_of_gt (blk_lt (g := gb356) (o := .cells #[.slice Ao115 t352.length co115] 25 (0, 0)) (by (with_reducible repeat (first | refine kN_ ?_ _ | refine kD_ ?_ | refine kA_ ?_ _)); exact BK356.out)) : gb363 ≠ gb356)); have n10_ := aS_ ((by rw [hg]; exact Nat.ne_of_lt (blk_lt (g := gb362) (o := .cells #[.slice none 0 0] 25 (0, 0)) (by (with_reducible repeat (first | refine kN_ ?_ _ | refine kD_ ?_ | refine kA_ ?_ _)); exact BK362.out)) : gb362 ≠ gb363)); have n11_ := aS_ ((by rw [hg]; exact Nat.ne_of_gt (blk_lt (g := gb362) (o := .cells #[.slice none 0 0] 25 (0, 0)) (by (with_reducible repeat (first | refine kN_ ?_ _ | refine kD_ ?_ | refine kA_ ?_ _)); exact BK362.out)) : gb363 ≠ gb362)); clear HO354; clear HO359; clear BK356; clear BK362; clear HB; have HO354 := n0_; have HO359 := n1_; have BK356 := n2_; have BK362 := n3_; have HB := n4_; have BK363 := n5_; have GW363 := n6_; have GE363 := n7_; have NB356_363 := n8_; have NB363_356 := n9_; have NB362_363 := n10_; have NB363_362 := n11_; clear n0_ n1_ n2_ n3_ n4_ n5_ n6_ n7_ n8_ n9_ n10_ n11_; clear hb hbox hg; obtain ⟨Ao120, co120, eo120⟩ := Kd.R_slice HO359.out; subst eo120; have hnb121 := NB362_356.out; have hnc121 := NB356_362.out; have hnb122 := NB362_363.out; have hnc122 := NB363_362.out; have hcz123_0 : w119.cell? ⟨gb362, 0, none⟩ = some (.slice none 0 0) := (blk_cell BK362.out 0).trans rfl; have hfz123_0 := blk_frozen BK362.out 0; have hnb124 := NB363_356.out; have hnc124 := NB356_363.out; have hcz125_0 : w119.cell? ⟨gb363, 0, none⟩ = some (.int .i64 0) := (blk_cell BK363.out 0).trans rfl; have hcz125_1 : w119.cell? ⟨gb363, 1, none⟩ = some (.int .i64 0) := (blk_cell BK363.out 1).trans rfl; have hfz125_0 := blk_frozen BK363.out 0; have hfz125_1 := blk_frozen BK363.out 1; have hcz126_0 : w119.cell? ⟨gb356, 0, none⟩ = some (.slice Ao115 t352.length co115) := (blk_cell BK356.out 0).trans rfl; have hfz126_0 := blk_frozen BK356.out 0) | ((with_reducible refine gate_callee (f := 13) rfl ?_); refine goesL_ (some 29) rfl rfl Try.func13 (by kernel_rfl) rfl #[.agg #[.slice Ao115 t352.length co115], .int .i64 t355] rfl (by (try simp only [List.map_toArray, List.map_cons, List.map_nil]); first | done | rfl | (simp only [List.length_drop, List.length_take]; rfl)) ?_; (with_reducible refine (spec_MapDel.calls k _ _ t352 t355 t364 t367 t368 _ ?side1 ?side2 A5.out).mono ?_); (case side1 => refine (Kd.R_reads' (e := 39) (base := w.heap.size) (ok := fun k_ => (True ∧ some k_ ≠ (.slice Ao120 t357.length co120 : Value).ownBlock)) (n := t352.length) (c := co115) ?_).2.2; exact (by (with_reducible repeat (first | apply rA_ | apply rN_ | apply rD_)); exact (rM_ (rM_ (rF_ (p := ⟨gb363, 1, none⟩) (rF_ (p := ⟨gb363, 0, none⟩) (rF_ (p := ⟨gb362, 0, none⟩) (rT_ (rT_ HO354.out BK362.out (by decide)) BK363.out (by decide)) (fun _ hk => by first | exact hk.1.2 | trivial | simp [hk]) (.slice Ao120 t357.length co120)) (fun _ hk => by first | exact hk.2 | trivial | simp [hk]) (.int .i64 t360)) (fun _ hk => by first | exact hk.2 | trivial | simp [hk]) (.int .i64 t361)) (fun _ h_ => h_.1)) (fun _ h_ => h_.1)))); (case side2 => exact (Kd.R_reads' HO354.out).2.1); rintro e w127 ⟨v365, rfl, ho0, hb⟩; refine ⟨_, rfl, ?_⟩; have n0_ := aS_ (Kd.R_elder' (by (with_reducible repeat (first | apply rA_ | apply rN_ | apply rD_)); exact (rM_ (rM_ (rF_ (p := ⟨gb363, 1, none⟩) (rF_ (p := ⟨gb363, 0, none⟩) (rF_ (p := ⟨gb362, 0, none⟩) (rT_ (rT_ HO354.out BK362.out (by decide)) BK363.out (by decide)) (fun _ hk => by first | exact hk.1.2 | trivial | simp [hk]) (.slice Ao120 t357.length co120)) (fun _ hk => by first | exact hk.2 | trivial | simp [hk]) (.int .i64 t360)) (fun _ hk => by first | exact hk.2 | trivial | simp [hk]) (.int .i64 t361)) (fun _ h_ => h_.1)) (fun _ h_ => h_.1))) (Kd.R_base ho0) hb); have n1_ := aS_ (Kd.R_elder' (by (with_reducible repeat (first | apply rA_ | apply rN_ | apply rD_)); exact (rM_ (rM_ (rF_ (p := ⟨gb363, 1, none⟩) (rF_ (p := ⟨gb363, 0, none⟩) (rF_ (p := ⟨gb362, 0, none⟩) (rT_ (rT_ HO359.out BK362.out (by decide)) BK363.out (by decide)) (fun _ hk => by first | exact hk.1.2 | trivial | simp [hk]) (.slice Ao120 t357.length co120)) (fun _ hk => by first | exact hk.2 | trivial | simp [hk]) (.int .i64 t360)) (fun _ hk => by first | exact hk.2 | trivial | simp [hk]) (.int .i64 t361)) (fun _ h_ => h_.1)) (fun _ h_ => h_.1))) (Kd.R_base ho0) hb); have n2_ := aS_ (Kd.R_lower (Kd.R_new' (Kd.R_new' ho0 (Kd.R_lt (by (with_reducible repeat (first | apply rA_ | apply rN_ | apply rD_)); exact (rM_ (rM_ (rF_ (p := ⟨gb363, 1, none⟩) (rF_ (p := ⟨gb363, 0, none⟩) (rF_ (p := ⟨gb362, 0, none⟩) (rT_ (rT_ HO354.out BK362.out (by decide)) BK363.out (by decide)) (fun _ hk => by first | exact hk.1.2 | trivial | simp [hk]) (.slice Ao120 t357.length co120)) (fun _ hk => by first | exact hk.2 | trivial | simp [hk]) (.int .i64 t360)) (fun _ hk => by first | exact hk.2 | trivial | simp [hk]) (.int .i64 t361)) (fun _ h_ => h_.1)) (fun _ h_ => h_.1))))) (Kd.R_lt (by (with_reducible repeat (first | apply rA_ | apply rN_ | apply rD_)); exact (rM_ (rM_ (rF_ (p := ⟨gb363, 1, none⟩) (rF_ (p := ⟨gb363, 0, none⟩) (rF_ (p := ⟨gb362, 0, none⟩) (rT_ (rT_ HO359.out BK362.out (by decide)) BK363.out (by decide)) (fun _ hk => by first | exact hk.1.2 | trivial | simp [hk]) (.slice Ao120 t357.length co120)) (fun _ hk => by first | exact hk.2 | trivial | simp [hk]) (.int .i64 t360)) (fun _ hk => by first | exact hk.2 | trivial | simp [hk]) (.int .i64 t361)) (fun _ h_ => h_.1)) (fun _ h_ => h_.1))))) (below_size (by repeat (first | (with_reducible first | exact HB.out | apply bA_ | apply bN_ | apply bD_ | refine below_set ?_ GE356.out | refine below_set ?_ GE362.out | refine below_set ?_ GE363.out) | exact HB.out)))); have n3_ := aS_ (blk_below (g := gb356) (o := .cells #[.slice Ao115 t352.length co115] 25 (0, 0)) (by (with_reducible repeat (first | refine kN_ ?_ _ | refine kD_ ?_ | refine kA_ ?_ _)); refine blk_far ?_ NB356_363.out _; (with_reducible repeat (first | refine kN_ ?_ _ | refine kD_ ?_ | refine kA_ ?_ _)); refine blk_far ?_ NB356_363.out _; (with_reducible repeat (first | refine kN_ ?_ _ | refine kD_ ?_ | refine kA_ ?_ _)); refine blk_far ?_ NB356_362.out _; (with_reducible repeat (first | refine kN_ ?_ _ | refine kD_ ?_ | refine kA_ ?_ _)); exact BK356.out) hb); have n4_ := aS_ (blk_below (g := gb362) (o := .cells #[.slice Ao120 t357.length co120] 25 (0, 0)) (by (with_reducible repeat (first | refine kN_ ?_ _ | refine kD_ ?_ | refine kA_ ?_ _)); refine blk_far ?_ NB362_363.out _; (with_reducible repeat (first | refine kN_ ?_ _ | refine kD_ ?_ | refine kA_ ?_ _)); refine blk_far ?_ NB362_363.out _; (with_reducible repeat (first | refine kN_ ?_ _ | refine kD_ ?_ | refine kA_ ?_ _)); refine blk_put (cs := #[.slice none 0 0]) ?_ 0 _ rfl; (with_reducible repeat (first | refine kN_ ?_ _ | refine kD_ ?_ | refine kA_ ?_ _)); exact BK362.out) hb); have n5_ := aS_ (blk_below (g := gb363) (o := .cells #[.int .i64 t360, .int .i64 t361] 29 (0, 0)) (by (with_reducible repeat (first | refine kN_ ?_ _ | refine kD_ ?_ | refine kA_ ?_ _)); refine blk_put (cs := #[.int .i64 t360, .int .i64 0]) ?_ 1 _ rfl; (with_reducible repeat (first | refine kN_ ?_ _ | refine kD_ ?_ | refine kA_ ?_ _)); refine blk_put (cs := #[.int .i64 0, .int .i64 0]) ?_ 0 _ rfl; (with_reducible repeat (first | refine kN_ ?_ _ | refine kD_ ?_ | refine kA_ ?_ _)); refine blk_far ?_ NB363_362.out _; (with_reducible repeat (first | refine kN_ ?_ _ | refine kD_ ?_ | refine kA_ ?_ _)); exact BK363.out) hb); have n6_ := aS_ (below_step (by repeat (first | (with_reducible first | exact HB.out | apply bA_ | apply bN_ | apply bD_ | refine below_set ?_ GE356.out | refine below_set ?_ GE362.out | refine below_set ?_ GE363.out) | exact HB.out)) hb); clear HO354; clear HO359; clear BK356; clear BK362; clear BK363; clear HB; have HO354 := n0_; have HO359 := n1_; have HO366 := n2_; have BK356 := n3_; have BK362 := n4_; have BK363 := n5_; have HB := n6_; clear n0_ n1_ n2_ n3_ n4_ n5_ n6_; (try clear hb); (try clear hb2); (try clear hk); (try clear hi); (try clear ho0)) | ((with_reducible refine gate_dst (N := 7) rfl ?_); (try (refine gate_guard (by rfl) ?_; dsimp only)); refine box_event ?hg (N := 7) ?hd (cs := #[.slice none 0 0]) (t := 25) ?hr ?_; (case hd => rfl); (case hg => rfl); (case hr => first | (go_simp; done) | (go_simp; rfl)); intro gb369 hg w128 hbox hb; have n0_ := aS_ (Kd.R_below (by (with_reducible repeat (first | apply rA_ | apply rN_ | apply rD_)); exact HO354.out) hb); have n1_ := aS_ (Kd.R_below (by (with_reducible repeat (first | apply rA_ | apply rN_ | apply rD_)); exact HO359.out) hb); have n2_ := aS_ (Kd.R_below (by (with_reducible repeat (first | apply rA_ | apply rN_ | apply rD_)); exact HO366.out) hb); have n3_ := aS_ (blk_below (g := gb356) (o := .cells #[.slice Ao115 t352.length co115] 25 (0, 0)) (by (with_reducible repeat (first | refine kN_ ?_ _ | refine kD_ ?_ | refine kA_ ?_ _)); exact BK356.out) hb); have n4_ := aS_ (blk_below (g := gb362) (o := .cells #[.slice Ao120 t357.length co120] 25 (0, 0)) (by (with_reducible repeat (first | refine kN_ ?_ _ | refine kD_ ?_ | refine kA_ ?_ _)); exact BK362.out) hb); have n5_ := aS_ (blk_below (g := gb363) (o := .cells #[.int .i64 t360, .int .i64 t361] 29 (0, 0)) (by (with_reducible repeat (first | refine kN_ ?_ _ | refine kD_ ?_ | refine kA_ ?_ _)); exact BK363.out) hb); have n6_ := aS_ (below_step (by repeat (first | (with_reducible first | exact HB.out | apply bA_ | apply bN_ | apply bD_ | refine below_set ?_ GE356.out | refine below_set ?_ GE362.out | refine below_set ?_ GE363.out) | exact HB.out)) hb); have n7_ := aS_ (hbox); have n8_ := aS_ ((by rw [hg]; exact (below_size (by repeat (first | (with_reducible first | exact HB.out | apply bA_ | apply bN_ | apply bD_ | refine below_set ?_ GE356.out | refine below_set ?_ GE362.out | refine below_set ?_ GE363.out) | exact HB.out))) : w.heap.size ≤ gb369)); have n9_ := aS_ ((by rw [hg]; exact (below_size (by repeat (first | (with_reducible first | exact HB.out | apply bA_ | apply bN_ | apply bD_ | refine below_set ?_ GE356.out | refine below_set ?_ GE362.out | refine below_set ?_ GE363.out) | exact HB.out))) : w.heap.size ≤ gb369)); have n10_ := aS_ ((by rw [hg]; exact Nat.ne_of_lt (blk_lt (g := gb356) (o := .cells #[.slice Ao115 t352.length co115] 25 (0, 0)) (by (with_reducible repeat (first | refine kN_ ?_ _ | refine kD_ ?_ | refine kA_ ?_ _)); exact BK356.out)) : gb356 ≠ gb369)); have n11_ := aS_ ((by rw [hg]; exact Nat.ne_of_gt (blk_lt (g := gb356) (o := .cells #[.slice Ao115 t352.length co115] 25 (0, 0)) (by (with_reducible repeat (first | refine kN_ ?_ _ | refine kD_ ?_ | refine kA_ ?_ _)); exact BK356.out)) : gb369 ≠ gb356)); have n12_ := aS_ ((by rw [hg]; exact Nat.ne_of_lt (blk_lt (g := gb362) (o := .cells #[.slice Ao120 t357.length co120] 25 (0, 0)) (by (with_reducible repeat (first | refine kN_ ?_ _ | refine kD_ ?_ | refine kA_ ?_ _)); exact BK362.out)) : gb362 ≠ gb369)); have n13_ := aS_ ((by rw [hg]; exact Nat.ne_of_gt (blk_lt (g := gb362) (o := .cells #[.slice Ao120 t357.length co120] 25 (0, 0)) (by (with_reducible repeat (first | refine kN_ ?_ _ | refine kD_ ?_ | refine kA_ ?_ _)); exact BK362.out)) : gb369 ≠ gb362)); have n14_ := aS_ ((by rw [hg]; exact Nat.ne_of_lt (blk_lt (g := gb363) (o := .cells #[.int .i64 t360, .int .i64 t361] 29 (0, 0)) (by (with_reducible repeat (first | refine kN_ ?_ _ | refine kD_ ?_ | refine kA_ ?_ _)); exact BK363.out)) : gb363 ≠ gb369)); have n15_ := aS_ ((by rw [hg]; exact Nat.ne_of_gt (blk_lt (g := gb363) (o := .cells #[.int .i64 t360, .int .i64 t361] 29 (0, 0)) (by (with_reducible repeat (first | refine kN_ ?_ _ | refine kD_ ?_ | refine kA_ ?_ _)); exact BK363.out)) : gb369 ≠ gb363)); clear HO354; clear HO359; clear HO366; clear BK356; clear BK362; clear BK363; clear HB; have HO354 := n0_; have HO359 := n1_; have HO366 := n2_; have BK356 := n3_; have BK362 := n4_; have BK363 := n5_; have HB := n6_; have BK369 := n7_; have GW369 := n8_; have GE369 := n9_; have NB356_369 := n10_; have NB369_356 := n11_; have NB362_369 := n12_; have NB369_362 := n13_; have NB363_369 := n14_; have NB369_363 := n15_; clear n0_ n1_ n2_ n3_ n4_ n5_ n6_ n7_ n8_ n9_ n10_ n11_ n12_ n13_ n14_ n15_; clear hb hbox hg) | ((with_reducible refine gate_dst (N := 8) rfl ?_); (try (refine gate_guard (by rfl) ?_; dsimp only)); refine box_event ?hg (N := 8) ?hd (cs := #[.int .i64 0, .int .i64 0]) (t := 29) ?hr ?_; (case hd => rfl); (case hg => rfl); (case hr => first | (go_simp; done) | (go_simp; rfl)); intro gb370 hg w129 hbox hb; have n0_ := aS_ (Kd.R_below (by (with_reducible repeat (first | apply rA_ | apply rN_ | apply rD_)); exact HO354.out) hb); have n1_ := aS_ (Kd.R_below (by (with_reducible repeat (first | apply rA_ | apply rN_ | apply rD_)); exact HO359.out) hb); have n2_ := aS_ (Kd.R_below (by (with_reducible repeat (first | apply rA_ | apply rN_ | apply rD_)); exact HO366.out) hb); have n3_ := aS_ (blk_below (g := gb356) (o := .cells #[.slice Ao115 t352.length co115] 25 (0, 0)) (by (with_reducible repeat (first | refine kN_ ?_ _ | refine kD_ ?_ | refine kA_ ?_ _)); exact BK356.out) hb); have n4_ := aS_ (blk_below (g := gb362) (o := .cells #[.slice Ao120 t357.length co120] 25 (0, 0)) (by (with_reducible repeat (first | refine kN_ ?_ _ | refine kD_ ?_ | refine kA_ ?_ _)); exact BK362.out) hb); have n5_ := aS_ (blk_below (g := gb363) (o := .cells #[.int .i64 t360, .int .i64 t361] 29 (0, 0)) (by (with_reducible repeat (first | refine kN_ ?_ _ | refine kD_ ?_ | refine kA_ ?_ _)); exact BK363.out) hb); have n6_ := aS_ (blk_below (g := gb369) (o := .cells #[.slice none 0 0] 25 (0, 0)) (by (with_reducible repeat (first | refine kN_ ?_ _ | refine kD_ ?_ | refine kA_ ?_ _)); exact BK369.out) hb); have n7_ := aS_ (below_step (by repeat (first | (with_reducible first | exact HB.out | apply bA_ | apply bN_ | apply bD_ | refine below_set ?_ GE356.out | refine below_set ?_ GE362.out | refine below_set ?_ GE363.out | refine below_set ?_ GE369.out) | exact HB.out)) hb); have n8_ := aS_ (hbox); have n9_ := aS_ ((by rw [hg]; exact (below_size (by repeat (first | (with_reducible first | exact HB.out | apply bA_ | apply bN_ | apply bD_ | refine below_set ?_ GE356.out | refine below_set ?_ GE362.out | refine below_set ?_ GE363.out | refine below_set ?_ GE369.out) | exact HB.out))) : w.heap.size ≤ gb370)); have n10_ := aS_ ((by rw [hg]; exact (below_size (by repeat (first | (with_reducible first | exact HB.out | apply bA_ | apply bN_ | apply bD_ | refine below_set ?_ GE356.out | refine below_set ?_ GE362.out | refine below_set ?_ GE363.out | refine below_set ?_ GE369.out) | exact HB.out))) : w.heap.size ≤ gb370)); have n11_ := aS_ ((by rw [hg]; exact Nat.ne_of_lt (blk_lt (g := gb356) (o := .cells #[.slice Ao115 t352.length co115] 25 (0, 0)) (by (with_reducible repeat (first | refine kN_ ?_ _ | refine kD_ ?_ | refine kA_ ?_ _)); exact BK356.out)) : gb356 ≠ gb370)); have n12_ := aS_ ((by rw [hg]; exact Nat.ne_of_gt (blk_lt (g := gb356) (o := .cells #[.slice Ao115 t352.length co115] 25 (0, 0)) (by (with_reducible repeat (first | refine kN_ ?_ _ | refine kD_ ?_ | refine kA_ ?_ _)); exact BK356.out)) : gb370 ≠ gb356)); have n13_ := aS_ ((by rw [hg]; exact Nat.ne_of_lt (blk_lt (g := gb362) (o := .cells #[.slice Ao120 t357.length co120] 25 (0, 0)) (by (with_reducible repeat (first | refine kN_ ?_ _ | refine kD_ ?_ | refine kA_ ?_ _)); exact BK362.out)) : gb362 ≠ gb370)); have n14_ := aS_ ((by rw [hg]; exact Nat.ne_of_gt (blk_lt (g := gb362) (o := .cells #[.slice Ao120 t357.length co120] 25 (0, 0)) (by (with_reducible repeat (first | refine kN_ ?_ _ | refine kD_ ?_ | refine kA_ ?_ _)); exact BK362.out)) : gb370 ≠ gb362)); have n15_ := aS_ ((by rw [hg]; exact Nat.ne_of_lt (blk_lt (g := gb363) (o := .cells #[.int .i64 t360, .int .i64 t361] 29 (0, 0)) (by (with_reducible repeat (first | refine kN_ ?_ _ | refine kD_ ?_ | refine kA_ ?_ _)); exact BK363.out)) : gb363 ≠ gb370)); have n16_ := aS_ ((by rw [hg]; exact Nat.ne_of_gt (blk_lt (g := gb363) (o := .cells #[.int .i64 t360, .int .i64 t361] 29 (0, 0)) (by (with_reducible repeat (first | refine kN_ ?_ _ | refine kD_ ?_ | refine kA_ ?_ _)); exact BK363.out)) : gb370 ≠ gb363)); have n17_ := aS_ ((by rw [hg]; exact Nat.ne_of_lt (blk_lt (g := gb369) (o := .cells #[.slice none 0 0] 25 (0, 0)) (by (with_reducible repeat (first | refine kN_ ?_ _ | refine kD_ ?_ | refine kA_ ?_ _)); exact BK369.out)) : gb369 ≠ gb370)); have n18_ := aS_ ((by rw [hg]; exact Nat.ne_of_gt (blk_lt (g := gb369) (o := .cells #[.slice none 0 0] 25 (0, 0)) (by (with_reducible repeat (first | refine kN_ ?_ _ | refine kD_ ?_ | refine kA_ ?_ _)); exact BK369.out)) : gb370 ≠ gb369)); clear HO354; clear HO359; clear HO366; clear BK356; clear BK362; clear BK363; clear BK369; clear HB; have HO354 := n0_; have HO359 := n1_; have HO366 := n2_; have BK356 := n3_; have BK362 := n4_; have BK363 := n5_; have BK369 := n6_; have HB := n7_; have BK370 := n8_; have GW370 := n9_; have GE370 := n10_; have NB356_370 := n11_; have NB370_356 := n12_; have NB362_370 := n13_; have NB370_362 := n14_; have NB363_370 := n15_; have NB370_363 := n16_; have NB369_370 := n17_; have NB370_369 := n18_; clear n0_ n1_ n2_ n3_ n4_ n5_ n6_ n7_ n8_ n9_ n10_ n11_ n12_ n13_ n14_ n15_ n16_ n17_ n18_; clear hb hbox hg; obtain ⟨Ao130, co130, eo130⟩ := Kd.R_slice HO366.out; subst eo130; have hnb131 := NB369_356.out; have hnc131 := NB356_369.out; have hnb132 := NB369_362.out; have hnc132 := NB362_369.out; have hnb133 := NB369_363.out; have hnc133 := NB363_369.out; have hnb134 := NB369_370.out; have hnc134 := NB370_369.out; have hcz135_0 : w129.cell? ⟨gb369, 0, none⟩ = some (.slice none 0 0) := (blk_cell BK369.out 0).trans rfl; have hfz135_0 := blk_frozen BK369.out 0; have hnb136 := NB370_356.out; have hnc136 := NB356_370.out; have hnb137 := NB370_362.out; have hnc137 := NB362_370.out; have hnb138 := NB370_363.out; have hnc138 := NB363_370.out; have hcz139_0 : w129.cell? ⟨gb370, 0, none⟩ = some (.int .i64 0) := (blk_cell BK370.out 0).trans rfl; have hcz139_1 : w129.cell? ⟨gb370, 1, none⟩ = some (.int .i64 0) := (blk_cell BK370.out 1).trans rfl; have hfz139_0 := blk_frozen BK370.out 0; have hfz139_1 := blk_frozen BK370.out 1; have hcz140_0 : w129.cell? ⟨gb362, 0, none⟩ = some (.slice Ao120 t357.length co120) := (blk_cell BK362.out 0).trans rfl; have hfz140_0 := blk_frozen BK362.out 0) | ((with_reducible refine gate_callee (f := 14) rfl ?_); refine goesL_ (some 34) rfl rfl Try.func14 (by kernel_rfl) rfl #[.agg #[.slice Ao120 t357.length co120], .agg #[.slice Ao130 t364.length co130]] rfl (by (try simp only [List.map_toArray, List.map_cons, List.map_nil]); first | done | rfl | (simp only [List.length_drop, List.length_take]; rfl)) ?_; (with_reducible refine (laws_tgMap.calls k _ _ t357 _ _ t364 true _ ?side1 ?side2 ?side3 ?side4 A6.out).mono ?_); (case side1 => refine (Kd.R_reads' (e := 39) (base := w.heap.size) (ok := fun k_ => ((True ∧ some k_ ≠ (.slice Ao115 t352.length co115 : Value).ownBlock) ∧ some k_ ≠ (.slice Ao130 t364.length co130 : Value).ownBlock)) (n := t357.length) (c := co120) ?_).2.2; exact (by (with_reducible repeat (first | apply rA_ | apply rN_ | apply rD_)); exact (rM_ (rM_ (rF_ (p := ⟨gb370, 1, none⟩) (rF_ (p := ⟨gb370, 0, none⟩) (rF_ (p := ⟨gb369, 0, none⟩) (rT_ (rT_ HO359.out BK369.out (by decide)) BK370.out (by decide)) (fun _ hk => by first | exact hk.1.2 | trivial | simp [hk]) (.slice Ao130 t364.length co130)) (fun _ hk => by first | exact hk.2 | trivial | simp [hk]) (.int .i64 t367)) (fun _ hk => by first | exact hk.2 | trivial | simp [hk]) (.int .i64 t368)) (fun _ h_ => h_.1)) (fun _ h_ => h_.1)))); (case side2 => exact (Kd.R_reads' HO359.out).2.1); (case side3 => refine (Kd.R_reads' (e := 39) (base := w.heap.size) (ok := fun k_ => ((True ∧ some k_ ≠ (.slice Ao115 t352.length co115 : Value).ownBlock) ∧ some k_ ≠ (.slice Ao120 t357.length co120 : Value).ownBlock)) (n := t364.length) (c := co130) ?_).2.2; exact (by (with_reducible repeat (first | apply rA_ | apply rN_ | apply rD_)); exact (rM_ (rM_ (rF_ (p := ⟨gb370, 1, none⟩) (rF_ (p := ⟨gb370, 0, none⟩) (rF_ (p := ⟨gb369, 0, none⟩) (rT_ (rT_ HO366.out BK369.out (by decide)) BK370.out (by decide)) (fun _ hk => by first | exact hk.1.2 | trivial | simp [hk]) (.slice Ao130 t364.length co130)) (fun _ hk => by first | exact hk.2 | trivial | simp [hk]) (.int .i64 t367)) (fun _ hk => by first | exact hk.2 | trivial | simp [hk]) (.int .i64 t368)) (fun _ h_ => h_.1)) (fun _ h_ => h_.1)))); (case side4 => exact (Kd.R_reads' HO366.out).2.1); rintro e w141 ⟨rfl, hb⟩; refine ⟨_, rfl, ?_⟩; have n0_ := aS_ (Kd.R_below (by (with_reducible repeat (first | apply rA_ | apply rN_ | apply rD_)); exact (rM_ (rM_ (rF_ (p := ⟨gb370, 1, none⟩) (rF_ (p := ⟨gb370, 0, none⟩) (rF_ (p := ⟨gb369, 0, none⟩) (rT_ (rT_ HO354.out BK369.out (by decide)) BK370.out (by decide)) (fun _ hk => by first | exact hk.1.2 | trivial | simp [hk]) (.slice Ao130 t364.length co130)) (fun _ hk => by first | exact hk.2 | trivial | simp [hk]) (.int .i64 t367)) (fun _ hk => by first | exact hk.2 | trivial | simp [hk]) (.int .i64 t368)) (fun _ h_ => h_.1)) (fun _ h_ => h_.1))) hb); have n1_ := aS_ (Kd.R_below (by (with_reducible repeat (first | apply rA_ | apply rN_ | apply rD_)); exact (rM_ (rM_ (rF_ (p := ⟨gb370, 1, none⟩) (rF_ (p := ⟨gb370, 0, none⟩) (rF_ (p := ⟨gb369, 0, none⟩) (rT_ (rT_ HO359.out BK369.out (by decide)) BK370.out (by decide)) (fun _ hk => by first | exact hk.1.2 | trivial | simp [hk]) (.slice Ao130 t364.length co130)) (fun _ hk => by first | exact hk.2 | trivial | simp [hk]) (.int .i64 t367)) (fun _ hk => by first | exact hk.2 | trivial | simp [hk]) (.int .i64 t368)) (fun _ h_ => h_.1)) (fun _ h_ => h_.1))) hb); have n2_ := aS_ (Kd.R_below (by (with_reducible repeat (first | apply rA_ | apply rN_ | apply rD_)); exact (rM_ (rM_ (rF_ (p := ⟨gb370, 1, none⟩) (rF_ (p := ⟨gb370, 0, none⟩) (rF_ (p := ⟨gb369, 0, none⟩) (rT_ (rT_ HO366.out BK369.out (by decide)) BK370.out (by decide)) (fun _ hk => by first | exact hk.1.2 | trivial | simp [hk]) (.slice Ao130 t364.length co130)) (fun _ hk => by first | exact hk.2 | trivial | simp [hk]) (.int .i64 t367)) (fun _ hk => by first | exact hk.2 | trivial | simp [hk]) (.int .i64 t368)) (fun _ h_ => h_.1)) (fun _ h_ => h_.1))) hb); have n3_ := aS_ (blk_below (g := gb356) (o := .cells #[.slice Ao115 t352.length co115] 25 (0, 0)) (by (with_reducible repeat (first | refine kN_ ?_ _ | refine kD_ ?_ | refine kA_ ?_ _)); refine blk_far ?_ NB356_370.out _; (with_reducible repeat (first | refine kN_ ?_ _ | refine kD_ ?_ | refine kA_ ?_ _)); refine blk_far ?_ NB356_370.out _; (with_reducible repeat (first | refine kN_ ?_ _ | refine kD_ ?_ | refine kA_ ?_ _)); refine blk_far ?_ NB356_369.out _; (with_reducible repeat (first | refine kN_ ?_ _ | refine kD_ ?_ | refine kA_ ?_ _)); exact BK356.out) hb); have n4_ := aS_ (blk_below (g := gb362) (o := .cells #[.slice Ao120 t357.length co120] 25 (0, 0)) (by (with_reducible repeat (first | refine kN_ ?_ _ | refine kD_ ?_ | refine kA_ ?_ _)); refine blk_far ?_ NB362_370.out _; (with_reducible repeat (first | refine kN_ ?_ _ | refine kD_ ?_ | refine kA_ ?_ _)); refine blk_far ?_ NB362_370.out _; (with_reducible repeat (first | refine kN_ ?_ _ | refine kD_ ?_ | refine kA_ ?_ _)); refine blk_far ?_ NB362_369.out _; (with_reducible repeat (first | refine kN_ ?_ _ | refine kD_ ?_ | refine kA_ ?_ _)); exact BK362.out) hb); have n5_ := aS_ (blk_below (g := gb363) (o := .cells #[.int .i64 t360, .int .i64 t361] 29 (0, 0)) (by (with_reducible repeat (first | refine kN_ ?_ _ | refine kD_ ?_ | refine kA_ ?_ _)); refine blk_far ?_ NB363_370.out _; (with_reducible repeat (first | refine kN_ ?_ _ | refine kD_ ?_ | refine kA_ ?_ _)); refine blk_far ?_ NB363_370.out _; (with_reducible repeat (first | refine kN_ ?_ _ | refine kD_ ?_ | refine kA_ ?_ _)); refine blk_far ?_ NB363_369.out _; (with_reducible repeat (first | refine kN_ ?_ _ | refine kD_ ?_ | refine kA_ ?_ _)); exact BK363.out) hb); have n6_ := aS_ (blk_below (g := gb369) (o := .cells #[.slice Ao130 t364.length co130] 25 (0, 0)) (by (with_reducible repeat (first | refine kN_ ?_ _ | refine kD_ ?_ | refine kA_ ?_ _)); refine blk_far ?_ NB369_370.out _; (with_reducible repeat (first | refine kN_ ?_ _ | refine kD_ ?_ | refine kA_ ?_ _)); refine blk_far ?_ NB369_370.out _; (with_reducible repeat (first | refine kN_ ?_ _ | refine kD_ ?_ | refine kA_ ?_ _)); refine blk_put (cs := #[.slice none 0 0]) ?_ 0 _ rfl; (with_reducible repeat (first | refine kN_ ?_ _ | refine kD_ ?_ | refine kA_ ?_ _)); exact BK369.out) hb); have n7_ := aS_ (blk_below (g := gb370) (o := .cells #[.int .i64 t367, .int .i64 t368] 29 (0, 0)) (by (with_reducible repeat (first | refine kN_ ?_ _ | refine kD_ ?_ | refine kA_ ?_ _)); refine blk_put (cs := #[.int .i64 t367, .int .i64 0]) ?_ 1 _ rfl; (with_reducible repeat (first | refine kN_ ?_ _ | refine kD_ ?_ | refine kA_ ?_ _)); refine blk_put (cs := #[.int .i64 0, .int .i64 0]) ?_ 0 _ rfl; (with_reducible repeat (first | refine kN_ ?_ _ | refine kD_ ?_ | refine kA_ ?_ _)); refine blk_far ?_ NB370_369.out _; (with_reducible repeat (first | refine kN_ ?_ _ | refine kD_ ?_ | refine kA_ ?_ _)); exact BK370.out) hb); have n8_ := aS_ (below_step (by repeat (first | (with_reducible first | exact HB.out | apply bA_ | apply bN_ | apply bD_ | refine below_set ?_ GE356.out | refine below_set ?_ GE362.out | refine below_set ?_ GE363.out | refine below_set ?_ GE369.out | refine below_set ?_ GE370.out) | exact HB.out)) hb); clear HO354; clear HO359; clear HO366; clear BK356; clear BK362; clear BK363; clear BK369; clear BK370; clear HB; have HO354 := n0_; have HO359 := n1_; have HO366 := n2_; have BK356 := n3_; have BK362 := n4_; have BK363 := n5_; have BK369 := n6_; have BK370 := n7_; have HB := n8_; clear n0_ n1_ n2_ n3_ n4_ n5_ n6_ n7_ n8_; (try clear hb); (try clear hb2); (try clear hk); (try clear hi); have hcz142_0 : w141.cell? ⟨gb363, 0, none⟩ = some (.int .i64 t360) := (blk_cell BK363.out 0).trans rfl; have hcz142_1 : w141.cell? ⟨gb363, 1, none⟩ = some (.int .i64 t361) := (blk_cell BK363.out 1).trans rfl; have hfz142_0 := blk_frozen BK363.out 0; have hfz142_1 := blk_frozen BK363.out 1; have hcz143_0 : w141.cell? ⟨gb370, 0, none⟩ = some (.int .i64 t367) := (blk_cell BK370.out 0).trans rfl; have hcz143_1 : w141.cell? ⟨gb370, 1, none⟩ = some (.int .i64 t368) := (blk_cell BK370.out 1).trans rfl; have hfz143_0 := blk_frozen BK370.out 0; have hfz143_1 := blk_frozen BK370.out 1; have hcz144_0 : w141.cell? ⟨gb356, 0, none⟩ = some (.slice Ao115 t352.length co115) := (blk_cell BK356.out 0).trans rfl; have hfz144_0 := blk_frozen BK356.out 0) | ((with_reducible refine gate_callee (f := 15) rfl ?_); refine goesL_ (some 42) rfl rfl Try.func15 (by kernel_rfl) rfl #[.agg #[.slice Ao115 t352.length co115]] rfl (by (try simp only [List.map_toArray, List.map_cons, List.map_nil]); first | done | rfl | (simp only [List.length_drop, List.length_take]; rfl)) ?_; (with_reducible refine (spec_MapOk.calls k _ _ t352 false _ ?side1 ?side2 A9.out).mono ?_); (case side1 => repeat (first | exact (Kd.R_reads' HO354.out).2.2 | (with_reducible refine Kd.C_alloc ?_ _) | (with_reducible refine Kd.C_drewN ?_ _) | (with_reducible refine Kd.C_drew ?_))); (case side2 => exact (Kd.R_reads' HO354.out).2.1); rintro e w145 ⟨rfl, hb⟩; refine ⟨_, rfl, ?_⟩; have n0_ := aS_ (Kd.R_below (by (with_reducible repeat (first | apply rA_ | apply rN_ | apply rD_)); exact HO354.out) hb); have n1_ := aS_ (Kd.R_below (by (with_reducible repeat (first | apply rA_ | apply rN_ | apply rD_)); exact HO359.out) hb); have n2_ := aS_ (Kd.R_below (by (with_reducible repeat (first | apply rA_ | apply rN_ | apply rD_)); exact HO366.out) hb); have n3_ := aS_ (blk_below (g := gb356) (o := .cells #[.slice Ao115 t352.length co115] 25 (0, 0)) (by (with_reducible repeat (first | refine kN_ ?_ _ | refine kD_ ?_ | refine kA_ ?_ _)); exact BK356.out) hb); have n4_ := aS_ (blk_below (g := gb362) (o := .cells #[.slice Ao120 t357.length co120] 25 (0, 0)) (by (with_reducible repeat (first | refine kN_ ?_ _ | refine kD_ ?_ | refine kA_ ?_ _)); exact BK362.out) hb); have n5_ := aS_ (blk_below (g := gb363) (o := .cells #[.int .i64 t360, .int .i64 t361] 29 (0, 0)) (by (with_reducible repeat (first | refine kN_ ?_ _ | refine kD_ ?_ | refine kA_ ?_ _)); exact BK363.out) hb); have n6_ := aS_ (blk_below (g := gb369) (o := .cells #[.slice Ao130 t364.length co130] 25 (0, 0)) (by (with_reducible repeat (first | refine kN_ ?_ _ | refine kD_ ?_ | refine kA_ ?_ _)); exact BK369.out) hb); have n7_ := aS_ (blk_below (g := gb370) (o := .cells #[.int .i64 t367, .int .i64 t368] 29 (0, 0)) (by (with_reducible repeat (first | refine kN_ ?_ _ | refine kD_ ?_ | refine kA_ ?_ _)); exact BK370.out) hb); have n8_ := aS_ (below_step (by repeat (first | (with_reducible first | exact HB.out | apply bA_ | apply bN_ | apply bD_ | refine below_set ?_ GE356.out | refine below_set ?_ GE362.out | refine below_set ?_ GE363.out | refine below_set ?_ GE369.out | refine below_set ?_ GE370.out) | exact HB.out)) hb); clear HO354; clear HO359; clear HO366; clear BK356; clear BK362; clear BK363; clear BK369; clear BK370; clear HB; have HO354 := n0_; have HO359 := n1_; have HO366 := n2_; have BK356 := n3_; have BK362 := n4_; have BK363 := n5_; have BK369 := n6_; have BK370 := n7_; have HB := n8_; clear n0_ n1_ n2_ n3_ n4_ n5_ n6_ n7_ n8_; (try clear hb); (try clear hb2); (try clear hk); (try clear hi); have hcz146_0 : w145.cell? ⟨gb363, 0, none⟩ = some (.int .i64 t360) := (blk_cell BK363.out 0).trans rfl; have hcz146_1 : w145.cell? ⟨gb363, 1, none⟩ = some (.int .i64 t361) := (blk_cell BK363.out 1).trans rfl; have hfz146_0 := blk_frozen BK363.out 0; have hfz146_1 := blk_frozen BK363.out 1; have hcz147_0 : w145.cell? ⟨gb362, 0, none⟩ = some (.slice Ao120 t357.length co120) := (blk_cell BK362.out 0).trans rfl; have hfz147_0 := blk_frozen BK362.out 0) | (go_at_call 16; (with_reducible refine (laws_tgOk.calls k  t391 _ A112.out).mono ?_); rintro e w148 ⟨rfl, hb⟩; have n0_ := aS_ (Kd.R_below (by (with_reducible repeat (first | apply rA_ | apply rN_ | apply rD_)); exact HO354.out) hb); have n1_ := aS_ (Kd.R_below (by (with_reducible repeat (first | apply rA_ | apply rN_ | apply rD_)); exact HO359.out) hb); have n2_ := aS_ (Kd.R_below (by (with_reducible repeat (first | apply rA_ | apply rN_ | apply rD_)); exact HO366.out) hb); have n3_ := aS_ (blk_below (g := gb356) (o := .cells #[.slice Ao115 t352.length co115] 25 (0, 0)) (by (with_reducible repeat (first | refine kN_ ?_ _ | refine kD_ ?_ | refine kA_ ?_ _)); exact BK356.out) hb); have n4_ := aS_ (blk_below (g := gb362) (o := .cells #[.slice Ao120 t357.length co120] 25 (0, 0)) (by (with_reducible repeat (first | refine kN_ ?_ _ | refine kD_ ?_ | refine kA_ ?_ _)); exact BK362.out) hb); have n5_ := aS_ (blk_below (g := gb363) (o := .cells #[.int .i64 t360, .int .i64 t361] 29 (0, 0)) (by (with_reducible repeat (first | refine kN_ ?_ _ | refine kD_ ?_ | refine kA_ ?_ _)); exact BK363.out) hb); have n6_ := aS_ (blk_below (g := gb369) (o := .cells #[.slice Ao130 t364.length co130] 25 (0, 0)) (by (with_reducible repeat (first | refine kN_ ?_ _ | refine kD_ ?_ | refine kA_ ?_ _)); exact BK369.out) hb); have n7_ := aS_ (blk_below (g := gb370) (o := .cells #[.int .i64 t367, .int .i64 t368] 29 (0, 0)) (by (with_reducible repeat (first | refine kN_ ?_ _ | refine kD_ ?_ | refine kA_ ?_ _)); exact BK370.out) hb); have n8_ := aS_ (below_step (by repeat (first | (with_reducible first | exact HB.out | apply bA_ | apply bN_ | apply bD_ | refine below_set ?_ GE356.out | refine below_set ?_ GE362.out | refine below_set ?_ GE363.out | refine below_set ?_ GE369.out | refine below_set ?_ GE370.out) | exact HB.out)) hb); clear HO354; clear HO359; clear HO366; clear BK356; clear BK362; clear BK363; clear BK369; clear BK370; clear HB; have HO354 := n0_; have HO359 := n1_; have HO366 := n2_; have BK356 := n3_; have BK362 := n4_; have BK363 := n5_; have BK369 := n6_; have BK370 := n7_; have HB := n8_; clear n0_ n1_ n2_ n3_ n4_ n5_ n6_ n7_ n8_; (try clear hb); (try clear hb2); (try clear hk); (try clear hi)))
              go_ret
              exact ⟨by first | rfl | (simp [errW_none, errW_some] <;> rfl) | (simp [*, errW_none, errW_some] <;> rfl), by repeat (first | (with_reducible first | exact HB.out | apply bA_ | apply bN_ | apply bD_ | refine below_set ?_ GE356.out | refine below_set ?_ GE362.out | refine below_set ?_ GE363.out | refine below_set ?_ GE369.out | refine below_set ?_ GE370.out) | exact HB.out)⟩
            · rw [if_neg c111] at H
              have c111b0 : ((t357.length : Int) == 0) = false := beq_eq_false_iff_ne.mpr c111
              have c111b1 : ((t357.length : Int) != 0) = true := bne_iff_ne.mpr c111
              have c111b2 : ¬ (t357 = []) := fun h_ => c111 (by rw [h_]; rfl)
              exact absurd (Option.some.inj H) (by rw [HT.out]; decide)
          · rw [if_neg c110] at H
            have c110b0 : (t360 == 0) = false := beq_eq_false_iff_ne.mpr c110
            have c110b1 : (t360 != 0) = true := bne_iff_ne.mpr c110
            exact absurd (Option.some.inj H) (by rw [HT.out]; decide)
    · replace c7 := Bool.eq_false_iff.mpr c7
      subst c7
      have H1 : (some false) = some r := by rw [if_neg (show ¬ (false = true) by decide)] at H; exact H
      clear H
      have H := H1
      clear H1
      exact absurd (Option.some.inj H) (by rw [HT.out]; decide)

/-- THE ONE PURE STATEMENT of laws_FnMapDel: yours. -/
def laws_FnMapDel.Pure : Prop := ∀ (l0 : List Int), l0.length ≤ maxLen → l0.length * 1 ≤ 140737488351232 → (∀ x ∈ l0, (Lit.int .u8 x).wf = true) → ∃ k, laws_FnMapDel.f k l0 = some true
theorem laws_FnMapDel.walk (P : laws_FnMapDel.Pure) (a0 : Option Addr) (len0 cap0 : Nat) (z0 : List Int) (w : World) (w0 : (a0 = none ∧ len0 = 0 ∧ cap0 = 0 ∧ z0 = []) ∨ ∃ x, a0 = some x ∧ len0 ≤ cap0 ∧ cap0 ≤ maxLen ∧ z0.length = cap0 ∧ (∀ i, i < z0.length → w.cell? (x.add i) = some (.int .u8 (z0.getD i 0))) ∧ ∀ n ∈ z0, (Lit.int .u8 n).wf = true) (y0 : len0 * 1 ≤ 140737488351232) :
    Calls Try.prog 3 #[.slice a0 len0 cap0] w fun e w' => e = .returned (.bool true) ∧ Below w.heap.size w w' := by
  obtain ⟨l0, rfl, hr0, hm0, hw0, hc0⟩ := ReadsInt.ofRowC w0
  obtain ⟨k, h⟩ := P l0 hm0 y0 hw0
  refine (laws_FnMapDel.calls k _ _ l0 true w (Kd.C_of_reads (d := (0 : Int)) (h1 := fun _ => rfl) hr0) hc0 rfl h).mono ?_
  rintro e w' ⟨rfl, hd⟩
  exact ⟨rfl, hd⟩

end Go.Proofs.Ytabihpjgkkmnjaa.GFnMapDel
