/- The functions that the law reaches, as plain Lean functions, and that the machine comes to their answers: laid by a program of this session. Conditions: none. -/
import Derived.Test.YtabihpjgkkmnjaaGFnMapPutx0
import Derived.Test.YtabihpjgkkmnjaaGFnMapPutx1
import Derived.Test.YtabihpjgkkmnjaaGFnMapPutx3
import Derived.Test.YtabihpjgkkmnjaaGFnMapPutx4
import Derived.Test.YtabihpjgkkmnjaaGFnMapPutx5
import Derived.Test.YtabihpjgkkmnjaaGFnMapPutx8
namespace Go.Proofs.Ytabihpjgkkmnjaa.GFnMapPut
open Go.RowKit Go.Proofs.YtabihpjgkkmnjaaW.PrintWords Go.Proofs.YtabihpjgkkmnjaaW.PrintLast Go.Proofs.YtabihpjgkkmnjaaW.PrintMore
attribute [local go_sem] max2_int min2_int max_two min_two max_three min_three max_four min_four   -- for this text's walks alone
set_option linter.unusedVariables false
set_option linter.unusedSimpArgs false
open Go.Proofs.YtabihpjgkkmnjaaW.PrintWords.Kd renaming R_alloc → rA_, R_drewN → rN_, R_drew → rD_, R_types → rT_, R_far → rF_, R_mono → rM_
open Go.Proofs.YtabihpjgkkmnjaaW.PrintWords renaming pw_below_drewN → bN_, below_alloc → bA_, below_drew1 → bD_, blk_alloc → kA_, blk_drewN → kN_, blk_drew → kD_
open Go.Proofs.YtabihpjgkkmnjaaW.PrintWords.Aside0 renaming mk → aS_
theorem field_29_0 (a b : Int) (w : World) : (Instr.field 29 (.agg #[.int .i64 a, .int .i64 b]) 0).run Try.prog w = .ok (.int .i64 a) w := by simp [Instr.field, run_underlying Try.underlying29, part, asAgg, sizeOf, typeInfo]
theorem field_29_1 (a b : Int) (w : World) : (Instr.field 29 (.agg #[.int .i64 a, .int .i64 b]) 1).run Try.prog w = .ok (.int .i64 b) w := by simp [Instr.field, run_underlying Try.underlying29, part, asAgg, sizeOf, typeInfo]
attribute [local go_sem] field_29_0 field_29_1

attribute [local go_sem high] eqA29
/-! ### laws_FnMapPut: function 9 -/
mutual
def laws_FnMapPut.j0 : Nat → Int → Int → Bool → List (S39) → List (S39) → Int → Int → Option (Bool)
  | 0, _, _, _, _, _, _, _ => none
  | k + 1, x4, x5, x51, x326000, x332000, x333000, x333001 => if x51 = true then (some false) else ((spec_MapOk.f k x326000).bind fun t343 => (if t343 = true then (if x4 < 0 then (laws_FnMapPut.j1 k x4 x5 true x326000 x332000 x333000 x333001) else (if x4 > 99 then (laws_FnMapPut.j1 k x4 x5 true x326000 x332000 x333000 x333001) else (if x5 < 0 then (laws_FnMapPut.j1 k x4 x5 true x326000 x332000 x333000 x333001) else (laws_FnMapPut.j1 k x4 x5 (decide (x5 > 999)) x326000 x332000 x333000 x333001)))) else (laws_FnMapPut.j1 k x4 x5 true x326000 x332000 x333000 x333001)))
def laws_FnMapPut.j1 : Nat → Int → Int → Bool → List (S39) → List (S39) → Int → Int → Option (Bool)
  | 0, _, _, _, _, _, _, _ => none
  | k + 1, x4, x5, x70, x326000, x332000, x333000, x333001 => if x70 = true then (if x333000 = 0 then (if (x332000.length : Int) = 0 then ((laws_tgOk.f k).bind fun t344 => (some t344)) else (some false)) else (some false)) else ((impl_MapOk.f k x332000).bind fun t345 => (if t345 = true then ((impl_MapGet.f k x326000 x4).bind fun bt346 => (if x333000 = 2 then (laws_FnMapPut.l0 k x4 x5 (bt346.1 == 2) 0 x326000 x332000) else ((laws_tgMap.f k x332000 x326000).bind fun t348 => (if t348 = true then (if ((x333000 == 1) == (bt346.1 == 2)) = true then (if bt346.1 = 2 then (some ((x333000 == 3) == false)) else (some ((x333000 == 3) == ((x326000.length : Int) == 8)))) else (some false)) else (some false))))) else (some false)))
def laws_FnMapPut.l0 : Nat → Int → Int → Bool → Int → List (S39) → List (S39) → Option (Bool)
  | 0, _, _, _, _, _, _ => none
  | k + 1, x4, x5, x10, x11, x326000, x332000 => if x11 ≤ 99 then ((impl_MapGet.f k x326000 x11).bind fun bt349 => (if x11 = x4 then ((impl_MapGet.f k x332000 x11).bind fun bt352 => (if (!(bt352.1 == 2) || (!(bt352.2 == x5))) = true then (some false) else (laws_FnMapPut.l0 k x4 x5 x10 (wrap64 (x11 + 1)) x326000 x332000))) else ((impl_MapGet.f k x332000 x11).bind fun bt354 => (if (!(bt354.1 == bt349.1) || (!(bt354.2 == bt349.2))) = true then (some false) else (laws_FnMapPut.l0 k x4 x5 x10 (wrap64 (x11 + 1)) x326000 x332000))))) else (some (!x10))
end
def laws_FnMapPut.f (k : Nat) (l0 : List Int) : Option (Bool) := if (l0.length : Int) > 1048576 then (some true) else ((spec_DrawMapPut.f k l0).bind fun bt320 => ((impl_MapPut.f k bt320.1 bt320.2.1 bt320.2.2).bind fun bt326 => ((spec_MapPut.f k bt320.1 bt320.2.1 bt320.2.2).bind fun bt333 => ((laws_tgMap.f k bt326.1 bt333.1).bind fun t340 => (if t340 = true then (if (!(bt326.2.1 == bt333.2.1) || (!(bt326.2.2 == bt333.2.2))) = true then (laws_FnMapPut.j0 k bt320.2.1 bt320.2.2 true bt320.1 bt326.1 bt326.2.1 bt326.2.2) else ((impl_MapOk.f k bt320.1).bind fun t341 => ((spec_MapOk.f k bt320.1).bind fun t342 => (laws_FnMapPut.j0 k bt320.2.1 bt320.2.2 (t341 != t342) bt320.1 bt326.1 bt326.2.1 bt326.2.2)))) else (laws_FnMapPut.j0 k bt320.2.1 bt320.2.2 true bt320.1 bt326.1 bt326.2.1 bt326.2.2))))))
theorem laws_FnMapPut.mono_l : ∀ k, (∀ y0 y1 y2 y3 y4 y5 y6, LeO (laws_FnMapPut.j0 k y0 y1 y2 y3 y4 y5 y6) (laws_FnMapPut.j0 (k + 1) y0 y1 y2 y3 y4 y5 y6)) ∧ (∀ y0 y1 y2 y3 y4 y5 y6, LeO (laws_FnMapPut.j1 k y0 y1 y2 y3 y4 y5 y6) (laws_FnMapPut.j1 (k + 1) y0 y1 y2 y3 y4 y5 y6)) ∧ (∀ y0 y1 y2 y3 y4 y5, LeO (laws_FnMapPut.l0 k y0 y1 y2 y3 y4 y5) (laws_FnMapPut.l0 (k + 1) y0 y1 y2 y3 y4 y5))
  | 0 => ⟨fun _ _ _ _ _ _ _ r h => by simp [laws_FnMapPut.j0] at h, fun _ _ _ _ _ _ _ r h => by simp [laws_FnMapPut.j1] at h, fun _ _ _ _ _ _ r h => by simp [laws_FnMapPut.l0] at h⟩
  | k + 1 => by
    obtain ⟨ih0, ih1, ih2⟩ := laws_FnMapPut.mono_l k
    refine ⟨?_, ?_, ?_⟩
    · intro y0 y1 y2 y3 y4 y5 y6
      unfold laws_FnMapPut.j0
      repeat' first
      | (with_reducible exact ih0 _ _ _ _ _ _ _)
      | (with_reducible exact ih1 _ _ _ _ _ _ _)
      | (with_reducible exact ih2 _ _ _ _ _ _)
      | (with_reducible exact impl_MapGet.mono _ _ _)
      | (with_reducible exact impl_MapOk.mono _ _)
      | (with_reducible exact impl_MapPut.mono _ _ _ _)
      | (with_reducible exact laws_tgMap.mono _ _ _)
      | (with_reducible exact laws_tgOk.mono _)
      | (with_reducible exact spec_DrawMapPut.mono _ _)
      | (with_reducible exact spec_MapOk.mono _ _)
      | (with_reducible exact spec_MapPut.mono _ _ _ _)
      | (with_reducible exact LeO.refl _)
      | (with_reducible exact LeO.none _)
      | (with_reducible refine LeO.ite ?_ ?_)
      | (with_reducible refine LeO.bind ?_ (fun _ => ?_))
      | exact ih0 _ _ _ _ _ _ _
      | exact ih1 _ _ _ _ _ _ _
      | exact ih2 _ _ _ _ _ _
      | exact impl_MapGet.mono _ _ _
      | exact impl_MapOk.mono _ _
      | exact impl_MapPut.mono _ _ _ _
      | exact laws_tgMap.mono _ _ _
      | exact laws_tgOk.mono _
      | exact spec_DrawMapPut.mono _ _
      | exact spec_MapOk.mono _ _
      | exact spec_MapPut.mono _ _ _ _
      | exact LeO.none _
      | refine LeO.ite ?_ ?_
      | refine LeO.bind ?_ (fun _ => ?_)
    · intro y0 y1 y2 y3 y4 y5 y6
      unfold laws_FnMapPut.j1
      repeat' first
      | (with_reducible exact ih0 _ _ _ _ _ _ _)
      | (with_reducible exact ih1 _ _ _ _ _ _ _)
      | (with_reducible exact ih2 _ _ _ _ _ _)
      | (with_reducible exact impl_MapGet.mono _ _ _)
      | (with_reducible exact impl_MapOk.mono _ _)
      | (with_reducible exact impl_MapPut.mono _ _ _ _)
      | (with_reducible exact laws_tgMap.mono _ _ _)
      | (with_reducible exact laws_tgOk.mono _)
      | (with_reducible exact spec_DrawMapPut.mono _ _)
      | (with_reducible exact spec_MapOk.mono _ _)
      | (with_reducible exact spec_MapPut.mono _ _ _ _)
      | (with_reducible exact LeO.refl _)
      | (with_reducible exact LeO.none _)
      | (with_reducible refine LeO.ite ?_ ?_)
      | (with_reducible refine LeO.bind ?_ (fun _ => ?_))
      | exact ih0 _ _ _ _ _ _ _
      | exact ih1 _ _ _ _ _ _ _
      | exact ih2 _ _ _ _ _ _
      | exact impl_MapGet.mono _ _ _
      | exact impl_MapOk.mono _ _
      | exact impl_MapPut.mono _ _ _ _
      | exact laws_tgMap.mono _ _ _
      | exact laws_tgOk.mono _
      | exact spec_DrawMapPut.mono _ _
      | exact spec_MapOk.mono _ _
      | exact spec_MapPut.mono _ _ _ _
      | exact LeO.none _
      | refine LeO.ite ?_ ?_
      | refine LeO.bind ?_ (fun _ => ?_)
    · intro y0 y1 y2 y3 y4 y5
      unfold laws_FnMapPut.l0
      repeat' first
      | (with_reducible exact ih0 _ _ _ _ _ _ _)
      | (with_reducible exact ih1 _ _ _ _ _ _ _)
      | (with_reducible exact ih2 _ _ _ _ _ _)
      | (with_reducible exact impl_MapGet.mono _ _ _)
      | (with_reducible exact impl_MapOk.mono _ _)
      | (with_reducible exact impl_MapPut.mono _ _ _ _)
      | (with_reducible exact laws_tgMap.mono _ _ _)
      | (with_reducible exact laws_tgOk.mono _)
      | (with_reducible exact spec_DrawMapPut.mono _ _)
      | (with_reducible exact spec_MapOk.mono _ _)
      | (with_reducible exact spec_MapPut.mono _ _ _ _)
      | (with_reducible exact LeO.refl _)
      | (with_reducible exact LeO.none _)
      | (with_reducible refine LeO.ite ?_ ?_)
      | (with_reducible refine LeO.bind ?_ (fun _ => ?_))
      | exact ih0 _ _ _ _ _ _ _
      | exact ih1 _ _ _ _ _ _ _
      | exact ih2 _ _ _ _ _ _
      | exact impl_MapGet.mono _ _ _
      | exact impl_MapOk.mono _ _
      | exact impl_MapPut.mono _ _ _ _
      | exact laws_tgMap.mono _ _ _
      | exact laws_tgOk.mono _
      | exact spec_DrawMapPut.mono _ _
      | exact spec_MapOk.mono _ _
      | exact spec_MapPut.mono _ _ _ _
      | exact LeO.none _
      | refine LeO.ite ?_ ?_
      | refine LeO.bind ?_ (fun _ => ?_)
theorem laws_FnMapPut.mono : ∀ a0 k, LeO (laws_FnMapPut.f k a0) (laws_FnMapPut.f (k + 1) a0) := by
  intro a0 k
  obtain ⟨ih0, ih1, ih2⟩ := laws_FnMapPut.mono_l k
  unfold laws_FnMapPut.f
  repeat' first
      | (with_reducible exact ih0 _ _ _ _ _ _ _)
      | (with_reducible exact ih1 _ _ _ _ _ _ _)
      | (with_reducible exact ih2 _ _ _ _ _ _)
      | (with_reducible exact impl_MapGet.mono _ _ _)
      | (with_reducible exact impl_MapOk.mono _ _)
      | (with_reducible exact impl_MapPut.mono _ _ _ _)
      | (with_reducible exact laws_tgMap.mono _ _ _)
      | (with_reducible exact laws_tgOk.mono _)
      | (with_reducible exact spec_DrawMapPut.mono _ _)
      | (with_reducible exact spec_MapOk.mono _ _)
      | (with_reducible exact spec_MapPut.mono _ _ _ _)
      | (with_reducible exact LeO.refl _)
      | (with_reducible exact LeO.none _)
      | (with_reducible refine LeO.ite ?_ ?_)
      | (with_reducible refine LeO.bind ?_ (fun _ => ?_))
      | exact ih0 _ _ _ _ _ _ _
      | exact ih1 _ _ _ _ _ _ _
      | exact ih2 _ _ _ _ _ _
      | exact impl_MapGet.mono _ _ _
      | exact impl_MapOk.mono _ _
      | exact impl_MapPut.mono _ _ _ _
      | exact laws_tgMap.mono _ _ _
      | exact laws_tgOk.mono _
      | exact spec_DrawMapPut.mono _ _
      | exact spec_MapOk.mono _ _
      | exact spec_MapPut.mono _ _ _ _
      | exact LeO.none _
      | refine LeO.ite ?_ ?_
      | refine LeO.bind ?_ (fun _ => ?_)
def laws_FnMapPut.T6 : Bool × List (List Nat × List Nat) := (true, [([], []), ([], []), ([0, 1], [0, 1]), ([2], [2]), ([3, 2], [3]), ([4], [4]), ([4], [4]), ([5, 6, 4], [4, 5, 6]), ([4, 7], [4, 7]), ([8, 4], [8]), ([9], [9]), ([10, 9, 9], [9, 10]), ([9], [9]), ([12, 11, 9], [9, 12]), ([11, 13, 9], [9, 11, 13]), ([9, 14], [9, 14])])
def laws_FnMapPut.B6 : List Nat := [0, 0, 3, 7, 15, 31, 31, 127, 255, 511, 1023, 2047, 1023, 8191, 16383, 32767]
theorem laws_FnMapPut.tab6 : rtab .any (opsOf Try.f9 6) = laws_FnMapPut.T6 := by kernel_rfl
theorem laws_FnMapPut.bits6 : waitsOk laws_FnMapPut.T6.2 laws_FnMapPut.B6 = true := by kernel_rfl
set_option maxHeartbeats 8000000 in
set_option maxRecDepth 100000 in
theorem laws_FnMapPut.calls (k : Nat) (A0 : Option Addr) (c0 : Nat) (l0 : List Int) (r : Bool) (w : World) (hr0 : Kd.C (Kd.int .u8) w A0 l0.length l0) (hc0 : l0.length ≤ c0) (ht_ : r = true) (h : laws_FnMapPut.f k l0 = some r) :
    Calls Try.prog 9 #[.slice A0 l0.length c0] w fun e w' => e = .returned (.bool r) ∧ Below w.heap.size w w' := by
  have hu25 := Try.underlying25
  have hu29 := Try.underlying29
  have HR0 := aS_ hr0
  have HC0 := aS_ hc0
  clear hr0 hc0
  have HB := aS_ (Below.refl w.heap.size w)
  have HT := aS_ ht_
  clear ht_
  have H : (if (l0.length : Int) > 1048576 then (some true) else ((spec_DrawMapPut.f k l0).bind fun bt320 => ((impl_MapPut.f k bt320.1 bt320.2.1 bt320.2.2).bind fun bt326 => ((spec_MapPut.f k bt320.1 bt320.2.1 bt320.2.2).bind fun bt333 => ((laws_tgMap.f k bt326.1 bt333.1).bind fun t340 => (if t340 = true then (if (!(bt326.2.1 == bt333.2.1) || (!(bt326.2.2 == bt333.2.2))) = true then (laws_FnMapPut.j0 k bt320.2.1 bt320.2.2 true bt320.1 bt326.1 bt326.2.1 bt326.2.2) else ((impl_MapOk.f k bt320.1).bind fun t341 => ((spec_MapOk.f k bt320.1).bind fun t342 => (laws_FnMapPut.j0 k bt320.2.1 bt320.2.2 (t341 != t342) bt320.1 bt326.1 bt326.2.1 bt326.2.2)))) else (laws_FnMapPut.j0 k bt320.2.1 bt320.2.2 true bt320.1 bt326.1 bt326.2.1 bt326.2.2))))))) = some r := h
  clear h
  by_cases c2 : (l0.length : Int) > 1048576
  · rw [if_pos c2] at H
    have c2b0 : decide (1048576 < (l0.length : Int)) = true := decide_eq_true c2
    have c2b1 : decide (1048576 < l0.length) = true := decide_eq_true (by omega)
    clear c2
    obtain rfl := Option.some.inj H
    go_enter Try.func9, Try.ntmps9
    go_wp2
    go_ret
    exact ⟨by first | rfl | (simp [errW_none, errW_some] <;> rfl) | (simp [*, errW_none, errW_some] <;> rfl), by repeat (first | (with_reducible first | exact HB.out | apply bA_ | apply bN_ | apply bD_) | exact HB.out)⟩
  · rw [if_neg c2] at H
    have c2b0 : decide (1048576 < (l0.length : Int)) = false := decide_eq_false c2
    have c2b1 : decide (1048576 < l0.length) = false := decide_eq_false (by omega)
    clear c2
    replace H := Option.bind_eq_some_iff.mp H
    obtain ⟨⟨t320, t323, t324⟩, A30, H⟩ := H
    replace H : ((impl_MapPut.f k t320 t323 t324).bind fun bt326 => ((spec_MapPut.f k t320 t323 t324).bind fun bt333 => ((laws_tgMap.f k bt326.1 bt333.1).bind fun t340 => (if t340 = true then (if (!(bt326.2.1 == bt333.2.1) || (!(bt326.2.2 == bt333.2.2))) = true then (laws_FnMapPut.j0 k t323 t324 true t320 bt326.1 bt326.2.1 bt326.2.2) else ((impl_MapOk.f k t320).bind fun t341 => ((spec_MapOk.f k t320).bind fun t342 => (laws_FnMapPut.j0 k t323 t324 (t341 != t342) t320 bt326.1 bt326.2.1 bt326.2.2)))) else (laws_FnMapPut.j0 k t323 t324 true t320 bt326.1 bt326.2.1 bt326.2.2))))) = some r := H
    have A3 := aS_ A30
    clear A30
    replace H := Option.bind_eq_some_iff.mp H
    obtain ⟨⟨t326, t329, t330⟩, A40, H⟩ := H
    replace H : ((spec_MapPut.f k t320 t323 t324).bind fun bt333 => ((laws_tgMap.f k t326 bt333.1).bind fun t340 => (if t340 = true then (if (!(t329 == bt333.2.1) || (!(t330 == bt333.2.2))) = true then (laws_FnMapPut.j0 k t323 t324 true t320 t326 t329 t330) else ((impl_MapOk.f k t320).bind fun t341 => ((spec_MapOk.f k t320).bind fun t342 => (laws_FnMapPut.j0 k t323 t324 (t341 != t342) t320 t326 t329 t330)))) else (laws_FnMapPut.j0 k t323 t324 true t320 t326 t329 t330)))) = some r := H
    have A4 := aS_ A40
    clear A40
    replace H := Option.bind_eq_some_iff.mp H
    obtain ⟨⟨t333, t336, t337⟩, A50, H⟩ := H
    replace H : ((laws_tgMap.f k t326 t333).bind fun t340 => (if t340 = true then (if (!(t329 == t336) || (!(t330 == t337))) = true then (laws_FnMapPut.j0 k t323 t324 true t320 t326 t329 t330) else ((impl_MapOk.f k t320).bind fun t341 => ((spec_MapOk.f k t320).bind fun t342 => (laws_FnMapPut.j0 k t323 t324 (t341 != t342) t320 t326 t329 t330)))) else (laws_FnMapPut.j0 k t323 t324 true t320 t326 t329 t330))) = some r := H
    have A5 := aS_ A50
    clear A50
    have HC6 := aS_ H
    clear H
    go_enter Try.func9, Try.ntmps9
    go_upto_region 6 with (first | ((with_reducible refine gate_callee (f := 35) rfl ?_); refine goesL_ (some 18) rfl rfl Try.func35 (by kernel_rfl) rfl #[.slice A0 l0.length c0] rfl (by (try simp only [List.map_toArray, List.map_cons, List.map_nil]); first | done | rfl | (simp only [List.length_drop, List.length_take]; rfl)) ?_; (with_reducible refine (spec_DrawMapPut.calls k _ _ l0 t320 t323 t324 _ ?side1 ?side2 A3.out).mono ?_); (case side1 => repeat (first | exact HR0.out | (with_reducible refine Kd.C_alloc ?_ _) | (with_reducible refine Kd.C_drewN ?_ _) | (with_reducible refine Kd.C_drew ?_))); (case side2 => exact HC0.out); rintro e w7 ⟨v321, rfl, ho0, hb⟩; refine ⟨_, rfl, ?_⟩; have n0_ := aS_ (Kd.R_lower ho0 (below_size (by repeat (first | (with_reducible first | exact HB.out | apply bA_ | apply bN_ | apply bD_) | exact HB.out)))); have n1_ := aS_ (below_step (by repeat (first | (with_reducible first | exact HB.out | apply bA_ | apply bN_ | apply bD_) | exact HB.out)) hb); clear HB; have HO322 := n0_; have HB := n1_; clear n0_ n1_; (try clear hb); (try clear hb2); (try clear hk); (try clear hi); (try clear ho0)) | ((with_reducible refine gate_dst (N := 3) rfl ?_); (try (refine gate_guard (by rfl) ?_; dsimp only)); refine box_event ?hg (N := 3) ?hd (cs := #[.slice none 0 0]) (t := 25) ?hr ?_; (case hd => rfl); (case hg => rfl); (case hr => first | (go_simp; done) | (go_simp; rfl)); intro gb325 hg w8 hbox hb; have n0_ := aS_ (Kd.R_below (by (with_reducible repeat (first | apply rA_ | apply rN_ | apply rD_)); exact HO322.out) hb); have n1_ := aS_ (below_step (by repeat (first | (with_reducible first | exact HB.out | apply bA_ | apply bN_ | apply bD_) | exact HB.out)) hb); have n2_ := aS_ (hbox); have n3_ := aS_ ((by rw [hg]; exact (below_size (by repeat (first | (with_reducible first | exact HB.out | apply bA_ | apply bN_ | apply bD_) | exact HB.out))) : w.heap.size ≤ gb325)); have n4_ := aS_ ((by rw [hg]; exact (below_size (by repeat (first | (with_reducible first | exact HB.out | apply bA_ | apply bN_ | apply bD_) | exact HB.out))) : w.heap.size ≤ gb325)); clear HO322; clear HB; have HO322 := n0_; have HB := n1_; have BK325 := n2_; have GW325 := n3_; have GE325 := n4_; clear n0_ n1_ n2_ n3_ n4_; clear hb hbox hg; obtain ⟨Ao9, co9, eo9⟩ := Kd.R_slice HO322.out; subst eo9; have hcz10_0 : w8.cell? ⟨gb325, 0, none⟩ = some (.slice none 0 0) := (blk_cell BK325.out 0).trans rfl; have hfz10_0 := blk_frozen BK325.out 0) | ((with_reducible refine gate_callee (f := 19) rfl ?_); refine goesL_ (some 26) rfl rfl Try.func19 (by kernel_rfl) rfl #[.agg #[.slice Ao9 t320.length co9], .int .i64 t323, .int .i64 t324] rfl (by (try simp only [List.map_toArray, List.map_cons, List.map_nil]); first | done | rfl | (simp only [List.length_drop, List.length_take]; rfl)) ?_; (with_reducible refine (impl_MapPut.calls k _ _ t320 t323 t324 t326 t329 t330 _ ?side1 ?side2 A4.out).mono ?_); (case side1 => refine (Kd.R_reads' (e := 39) (base := w.heap.size) (ok := fun k_ => True) (n := t320.length) (c := co9) ?_).2.2; exact (by (with_reducible repeat (first | apply rA_ | apply rN_ | apply rD_)); exact (rM_ (rF_ (p := ⟨gb325, 0, none⟩) (rT_ HO322.out BK325.out (by decide)) (fun _ hk => by first | exact hk.2 | trivial | simp [hk]) (.slice Ao9 t320.length co9)) (fun _ h_ => h_.1)))); (case side2 => exact (Kd.R_reads' HO322.out).2.1); rintro e w11 ⟨v327, rfl, ho0, hb⟩; refine ⟨_, rfl, ?_⟩; have n0_ := aS_ (Kd.R_elder' (by (with_reducible repeat (first | apply rA_ | apply rN_ | apply rD_)); exact (rM_ (rF_ (p := ⟨gb325, 0, none⟩) (rT_ HO322.out BK325.out (by decide)) (fun _ hk => by first | exact hk.2 | trivial | simp [hk]) (.slice Ao9 t320.length co9)) (fun _ h_ => h_.1))) (Kd.R_base ho0) hb); have n1_ := aS_ (Kd.R_lower (Kd.R_new' ho0 (Kd.R_lt (by (with_reducible repeat (first | apply rA_ | apply rN_ | apply rD_)); exact (rM_ (rF_ (p := ⟨gb325, 0, none⟩) (rT_ HO322.out BK325.out (by decide)) (fun _ hk => by first | exact hk.2 | trivial | simp [hk]) (.slice Ao9 t320.length co9)) (fun _ h_ => h_.1))))) (below_size (by repeat (first | (with_reducible first | exact HB.out | apply bA_ | apply bN_ | apply bD_ | refine below_set ?_ GE325.out) | exact HB.out)))); have n2_ := aS_ (blk_below (g := gb325) (o := .cells #[.slice Ao9 t320.length co9] 25 (0, 0)) (by (with_reducible repeat (first | refine kN_ ?_ _ | refine kD_ ?_ | refine kA_ ?_ _)); refine blk_put (cs := #[.slice none 0 0]) ?_ 0 _ rfl; (with_reducible repeat (first | refine kN_ ?_ _ | refine kD_ ?_ | refine kA_ ?_ _)); exact BK325.out) hb); have n3_ := aS_ (below_step (by repeat (first | (with_reducible first | exact HB.out | apply bA_ | apply bN_ | apply bD_ | refine below_set ?_ GE325.out) | exact HB.out)) hb); clear HO322; clear BK325; clear HB; have HO322 := n0_; have HO328 := n1_; have BK325 := n2_; have HB := n3_; clear n0_ n1_ n2_ n3_; (try clear hb); (try clear hb2); (try clear hk); (try clear hi); (try clear ho0)) | ((with_reducible refine gate_dst (N := 6) rfl ?_); (try (refine gate_guard (by rfl) ?_; dsimp only)); refine box_event ?hg (N := 6) ?hd (cs := #[.slice none 0 0]) (t := 25) ?hr ?_; (case hd => rfl); (case hg => rfl); (case hr => first | (go_simp; done) | (go_simp; rfl)); intro gb331 hg w12 hbox hb; have n0_ := aS_ (Kd.R_below (by (with_reducible repeat (first | apply rA_ | apply rN_ | apply rD_)); exact HO322.out) hb); have n1_ := aS_ (Kd.R_below (by (with_reducible repeat (first | apply rA_ | apply rN_ | apply rD_)); exact HO328.out) hb); have n2_ := aS_ (blk_below (g := gb325) (o := .cells #[.slice Ao9 t320.length co9] 25 (0, 0)) (by (with_reducible repeat (first | refine kN_ ?_ _ | refine kD_ ?_ | refine kA_ ?_ _)); exact BK325.out) hb); have n3_ := aS_ (below_step (by repeat (first | (with_reducible first | exact HB.out | apply bA_ | apply bN_ | apply bD_ | refine below_set ?_ GE325.out) | exact HB.out)) hb); have n4_ := aS_ (hbox); have n5_ := aS_ ((by rw [hg]; exact (below_size (by repeat (first | (with_reducible first | exact HB.out | apply bA_ | apply bN_ | apply bD_ | refine below_set ?_ GE325.out) | exact HB.out))) : w.heap.size ≤ gb331)); have n6_ := aS_ ((by rw [hg]; exact (below_size (by repeat (first | (with_reducible first | exact HB.out | apply bA_ | apply bN_ | apply bD_ | refine below_set ?_ GE325.out) | exact HB.out))) : w.heap.size ≤ gb331)); have n7_ := aS_ ((by rw [hg]; exact Nat.ne_of_lt (blk_lt (g := gb325) (o := .cells #[.slice Ao9 t320.length co9] 25 (0, 0)) (by (with_reducible repeat (first | refine kN_ ?_ _ | refine kD_ ?_ | refine kA_ ?_ _)); exact BK325.out)) : gb325 ≠ gb331)); have n8_ := aS_ ((by rw [hg]; exact Nat.ne_of_gt (blk_lt (g := gb325) (o := .cells #[.slice Ao9 t320.length co9] 25 (0, 0)) (by (with_reducible repeat (first | refine kN_ ?_ _ | refine kD_ ?_ | refine kA_ ?_ _)); exact BK325.out)) : gb331 ≠ gb325)); clear HO322; clear HO328; clear BK325; clear HB; have HO322 := n0_; have HO328 := n1_; have BK325 := n2_; have HB := n3_; have BK331 := n4_; have GW331 := n5_; have GE331 := n6_; have NB325_331 := n7_; have NB331_325 := n8_; clear n0_ n1_ n2_ n3_ n4_ n5_ n6_ n7_ n8_; clear hb hbox hg) | ((with_reducible refine gate_dst (N := 7) rfl ?_); (try (refine gate_guard (by rfl) ?_; dsimp only)); refine box_event ?hg (N := 7) ?hd (cs := #[.int .i64 0, .int .i64 0]) (t := 29) ?hr ?_; (case hd => rfl); (case hg => rfl); (case hr => first | (go_simp; done) | (go_simp; rfl)); intro gb332 hg w13 hbox hb; have n0_ := aS_ (Kd.R_below (by (with_reducible repeat (first | apply rA_ | apply rN_ | apply rD_)); exact HO322.out) hb); have n1_ := aS_ (Kd.R_below (by (with_reducible repeat (first | apply rA_ | apply rN_ | apply rD_)); exact HO328.out) hb); have n2_ := aS_ (blk_below (g := gb325) (o := .cells #[.slice Ao9 t320.length co9] 25 (0, 0)) (by (with_reducible repeat (first | refine kN_ ?_ _ | refine kD_ ?_ | refine kA_ ?_ _)); exact BK325.out) hb); have n3_ := aS_ (blk_below (g := gb331) (o := .cells #[.slice none 0 0] 25 (0, 0)) (by (with_reducible repeat (first | refine kN_ ?_ _ | refine kD_ ?_ | refine kA_ ?_ _)); exact BK331.out) hb); have n4_ := aS_ (below_step (by repeat (first | (with_reducible first | exact HB.out | apply bA_ | apply bN_ | apply bD_ | refine below_set ?_ GE325.out | refine below_set ?_ GE331.out) | exact HB.out)) hb); have n5_ := aS_ (hbox); have n6_ := aS_ ((by rw [hg]; exact (below_size (by repeat (first | (with_reducible first | exact HB.out | apply bA_ | apply bN_ | apply bD_ | refine below_set ?_ GE325.out | refine below_set ?_ GE331.out) | exact HB.out))) : w.heap.size ≤ gb332)); have n7_ := aS_ ((by rw [hg]; exact (below_size (by repeat (first | (with_reducible first | exact HB.out | apply bA_ | apply bN_ | apply bD_ | refine below_set ?_ GE325.out | refine below_set ?_ GE331.out) | exact HB.out))) : w.heap.size ≤ gb332)); have n8_ := aS_ ((by rw [hg]; exact Nat.ne_of_lt (blk_lt (g := gb325) (o := .cells #[.slice Ao9 t320.length co9] 25 (0, 0)) (by (with_reducible repeat (first | refine kN_ ?_ _ | refine kD_ ?_ | refine kA_ ?_ _)); exact BK325.out)) : gb325 ≠ gb332)); have n9_ := aS_ ((by rw [hg]; exact Nat.ne_of_gt (blk_lt (g := gb325) (o := .cells #[.slice Ao9 t320.length co9] 25 (0, 0)) (by (with_reducible repeat (first | refine kN_ ?_ _ | refine kD_ ?_ | refine kA_ ?_ _)); exact BK325.out)) : gb332 ≠ gb325)); have n10_ := aS_ ((by rw [hg]; exact Nat.ne_of_lt (blk_lt (g := gb331) (o := .cells #[.slice none 0 0] 25 (0, 0)) (by (with_reducible repeat (first | refine kN_ ?_ _ | refine kD_ ?_ | refine kA_ ?_ _)); exact BK331.out)) : gb331 ≠ gb332)); have n11_ := aS_ ((by rw [hg]; exact Nat.ne_of_gt (blk_lt (g := gb331) (o := .cells #[.slice none 0 0] 25 (0, 0)) (by (with_reducible repeat (first | refine kN_ ?_ _ | refine kD_ ?_ | refine kA_ ?_ _)); exact BK331.out)) : gb332 ≠ gb331)); clear HO322; clear HO328; clear BK325; clear BK331; clear HB; have HO322 := n0_; have HO328 := n1_; have BK325 := n2_; have BK331 := n3_; have HB := n4_; have BK332 := n5_; have GW332 := n6_; have GE332 := n7_; have NB325_332 := n8_; have NB332_325 := n9_; have NB331_332 := n10_; have NB332_331 := n11_; clear n0_ n1_ n2_ n3_ n4_ n5_ n6_ n7_ n8_ n9_ n10_ n11_; clear hb hbox hg; obtain ⟨Ao14, co14, eo14⟩ := Kd.R_slice HO328.out; subst eo14; have hnb15 := NB331_325.out; have hnc15 := NB325_331.out; have hnb16 := NB331_332.out; have hnc16 := NB332_331.out; have hcz17_0 : w13.cell? ⟨gb331, 0, none⟩ = some (.slice none 0 0) := (blk_cell BK331.out 0).trans rfl; have hfz17_0 := blk_frozen BK331.out 0; have hnb18 := NB332_325.out; have hnc18 := NB325_332.out; have hcz19_0 : w13.cell? ⟨gb332, 0, none⟩ = some (.int .i64 0) := (blk_cell BK332.out 0).trans rfl; have hcz19_1 : w13.cell? ⟨gb332, 1, none⟩ = some (.int .i64 0) := (blk_cell BK332.out 1).trans rfl; have hfz19_0 := blk_frozen BK332.out 0; have hfz19_1 := blk_frozen BK332.out 1; have hcz20_0 : w13.cell? ⟨gb325, 0, none⟩ = some (.slice Ao9 t320.length co9) := (blk_cell BK325.out 0).trans rfl; have hfz20_0 := blk_frozen BK325.out 0) | ((with_reducible refine gate_callee (f := 36) rfl ?_); refine goesL_ (some 33) rfl rfl Try.func36 (by kernel_rfl) rfl #[.agg #[.slice Ao9 t320.length co9], .int .i64 t323, .int .i64 t324] rfl (by (try simp only [List.map_toArray, List.map_cons, List.map_nil]); first | done | rfl | (simp only [List.length_drop, List.length_take]; rfl)) ?_; (with_reducible refine (spec_MapPut.calls k _ _ t320 t323 t324 t333 t336 t337 _ ?side1 ?side2 A5.out).mono ?_); (case side1 => refine (Kd.R_reads' (e := 39) (base := w.heap.size) (ok := fun k_ => (True ∧ some k_ ≠ (.slice Ao14 t326.length co14 : Value).ownBlock)) (n := t320.length) (c := co9) ?_).2.2; exact (by (with_reducible repeat (first | apply rA_ | apply rN_ | apply rD_)); exact (rM_ (rM_ (rF_ (p := ⟨gb332, 1, none⟩) (rF_ (p := ⟨gb332, 0, none⟩) (rF_ (p := ⟨gb331, 0, none⟩) (rT_ (rT_ HO322.out BK331.out (by decide)) BK332.out (by decide)) (fun _ hk => by first | exact hk.1.2 | trivial | simp [hk]) (.slice Ao14 t326.length co14)) (fun _ hk => by first | exact hk.2 | trivial | simp [hk]) (.int .i64 t329)) (fun _ hk => by first | exact hk.2 | trivial | simp [hk]) (.int .i64 t330)) (fun _ h_ => h_.1)) (fun _ h_ => h_.1)))); (case side2 => exact (Kd.R_reads' HO322.out).2.1); rintro e w21 ⟨v334, rfl, ho0, hb⟩; refine ⟨_, rfl, ?_⟩; have n0_ := aS_ (Kd.R_elder' (by (with_reducible repeat (first | apply rA_ | apply rN_ | apply rD_)); exact (rM_ (rM_ (rF_ (p := ⟨gb332, 1, none⟩) (rF_ (p := ⟨gb332, 0, none⟩) (rF_ (p := ⟨gb331, 0, none⟩) (rT_ (rT_ HO322.out BK331.out (by decide)) BK332.out (by decide)) (fun _ hk => by first | exact hk.1.2 | trivial | simp [hk]) (.slice Ao14 t326.length co14)) (fun _ hk => by first | exact hk.2 | trivial | simp [hk]) (.int .i64 t329)) (fun _ hk => by first | exact hk.2 | trivial | simp [hk]) (.int .i64 t330)) (fun _ h_ => h_.1)) (fun _ h_ => h_.1))) (Kd.R_base ho0) hb); have n1_ := aS_ (Kd.R_elder' (by (with_reducible repeat (first | apply rA_ | apply rN_ | apply rD_)); exact (rM_ (rM_ (rF_ (p := ⟨gb332, 1, none⟩) (rF_ (p := ⟨gb332, 0, none⟩) (rF_ (p := ⟨gb331, 0, none⟩) (rT_ (rT_ HO328.out BK331.out (by decide)) BK332.out (by decide)) (fun _ hk => by first | exact hk.1.2 | trivial | simp [hk]) (.slice Ao14 t326.length co14)) (fun _ hk => by first | exact hk.2 | trivial | simp [hk]) (.int .i64 t329)) (fun _ hk => by first | exact hk.2 | trivial | simp [hk]) (.int .i64 t330)) (fun _ h_ => h_.1)) (fun _ h_ => h_.1))) (Kd.R_base ho0) hb); have n2_ := aS_ (Kd.R_lower (Kd.R_new' (Kd.R_new' ho0 (Kd.R_lt (by (with_reducible repeat (first | apply rA_ | apply rN_ | apply rD_)); exact (rM_ (rM_ (rF_ (p := ⟨gb332, 1, none⟩) (rF_ (p := ⟨gb332, 0, none⟩) (rF_ (p := ⟨gb331, 0, none⟩) (rT_ (rT_ HO322.out BK331.out (by decide)) BK332.out (by decide)) (fun _ hk => by first | exact hk.1.2 | trivial | simp [hk]) (.slice Ao14 t326.length co14)) (fun _ hk => by first | exact hk.2 | trivial | simp [hk]) (.int .i64 t329)) (fun _ hk => by first | exact hk.2 | trivial | simp [hk]) (.int .i64 t330)) (fun _ h_ => h_.1)) (fun _ h_ => h_.1))))) (Kd.R_lt (by (with_reducible repeat (first | apply rA_ | apply rN_ | apply rD_)); exact (rM_ (rM_ (rF_ (p := ⟨gb332, 1, none⟩) (rF_ (p := ⟨gb332, 0, none⟩) (rF_ (p := ⟨gb331, 0, none⟩) (rT_ (rT_ HO328.out BK331.out (by decide)) BK332.out (by decide)) (fun _ hk => by first | exact hk.1.2 | trivial | simp [hk]) (.slice Ao14 t326.length co14)) (fun _ hk => by first | exact hk.2 | trivial | simp [hk]) (.int .i64 t329)) (fun _ hk => by first | exact hk.2 | trivial | simp [hk]) (.int .i64 t330)) (fun _ h_ => h_.1)) (fun _ h_ => h_.1))))) (below_size (by repeat (first | (with_reducible first | exact HB.out | apply bA_ | apply bN_ | apply bD_ | refine below_set ?_ GE325.out | refine below_set ?_ GE331.out | refine below_set ?_ GE332.out) | exact HB.out)))); have n3_ := aS_ (blk_below (g := gb325) (o := .cells #[.slice Ao9 t320.length co9] 25 (0, 0)) (by (with_reducible repeat (first | refine kN_ ?_ _ | refine kD_ ?_ | refine kA_ ?_ _)); refine blk_far ?_ NB325_332.out _; (with_reducible repeat (first | refine kN_ ?_ _ | refine kD_ ?_ | refine kA_ ?_ _)); refine blk_far ?_ NB325_332.out _; (with_reducible repeat (first | refine kN_ ?_ _ | refine kD_ ?_ | refine kA_ ?_ _)); refine blk_far ?_ NB325_331.out _; (with_reducible repeat (first | refine kN_ ?_ _ | refine kD_ ?_ | refine kA_ ?_ _)); exact BK325.out) hb); have n4_ := aS_ (blk_below (g := gb331) (o := .cells #[.slice Ao14 t326.length co14] 25 (0, 0)) (by (with_reducible repeat (first | refine kN_ ?_ _ | refine kD_ ?_ | refine kA_ ?_ _)); refine blk_far ?_ NB331_332.out _; (with_reducible repeat (first | refine kN_ ?_ _ | refine kD_ ?_ | refine kA_ ?_ _)); refine blk_far ?_ NB331_332.out _; (with_reducible repeat (first | refine kN_ ?_ _ | refine kD_ ?_ | refine kA_ ?_ _)); refine blk_put (cs := #[.slice none 0 0]) ?_ 0 _ rfl; (with_reducible repeat (first | refine kN_ ?_ _ | refine kD_ ?_ | refine kA_ ?_ _)); exact BK331.out) hb); have n5_ := aS_ (blk_below (g := gb332) (o := .cells #[.int .i64 t329, .int .i64 t330] 29 (0, 0)) (by (with_reducible repeat (first | refine kN_ ?_ _ | refine kD_ ?_ | refine kA_ ?_ _)); refine blk_put (cs := #[.int .i64 t329, .int .i64 0]) ?_ 1 _ rfl; (with_reducible repeat (first | refine kN_ ?_ _ | refine kD_ ?_ | refine kA_ ?_ _)); refine blk_put (cs := #[.int .i64 0, .int .i64 0]) ?_ 0 _ rfl; (with_reducible repeat (first | refine kN_ ?_ _ | refine kD_ ?_ | refine kA_ ?_ _)); refine blk_far ?_ NB332_331.out _; (with_reducible repeat (first | refine kN_ ?_ _ | refine kD_ ?_ | refine kA_ ?_ _)); exact BK332.out) hb); have n6_ := aS_ (below_step (by repeat (first | (with_reducible first | exact HB.out | apply bA_ | apply bN_ | apply bD_ | refine below_set ?_ GE325.out | refine below_set ?_ GE331.out | refine below_set ?_ GE332.out) | exact HB.out)) hb); clear HO322; clear HO328; clear BK325; clear BK331; clear BK332; clear HB; have HO322 := n0_; have HO328 := n1_; have HO335 := n2_; have BK325 := n3_; have BK331 := n4_; have BK332 := n5_; have HB := n6_; clear n0_ n1_ n2_ n3_ n4_ n5_ n6_; (try clear hb); (try clear hb2); (try clear hk); (try clear hi); (try clear ho0)) | ((with_reducible refine gate_dst (N := 8) rfl ?_); (try (refine gate_guard (by rfl) ?_; dsimp only)); refine box_event ?hg (N := 8) ?hd (cs := #[.slice none 0 0]) (t := 25) ?hr ?_; (case hd => rfl); (case hg => rfl); (case hr => first | (go_simp; done) | (go_simp; rfl)); intro gb338 hg w22 hbox hb; have n0_ := aS_ (Kd.R_below (by (with_reducible repeat (first | apply rA_ | apply rN_ | apply rD_)); exact HO322.out) hb); have n1_ := aS_ (Kd.R_below (by (with_reducible repeat (first | apply rA_ | apply rN_ | apply rD_)); exact HO328.out) hb); have n2_ := aS_ (Kd.R_below (by (with_reducible repeat (first | apply rA_ | apply rN_ | apply rD_)); exact HO335.out) hb); have n3_ := aS_ (blk_below (g := gb325) (o := .cells #[.slice Ao9 t320.length co9] 25 (0, 0)) (by (with_reducible repeat (first | refine kN_ ?_ _ | refine kD_ ?_ | refine kA_ ?_ _)); exact BK325.out) hb); have n4_ := aS_ (blk_below (g := gb331) (o := .cells #[.slice Ao14 t326.length co14] 25 (0, 0)) (by (with_reducible repeat (first | refine kN_ ?_ _ | refine kD_ ?_ | refine kA_ ?_ _)); exact BK331.out) hb); have n5_ := aS_ (blk_below (g := gb332) (o := .cells #[.int .i64 t329, .int .i64 t330] 29 (0, 0)) (by (with_reducible repeat (first | refine kN_ ?_ _ | refine kD_ ?_ | refine kA_ ?_ _)); exact BK332.out) hb); have n6_ := aS_ (below_step (by repeat (first | (with_reducible first | exact HB.out | apply bA_ | apply bN_ | apply bD_ | refine below_set ?_ GE325.out | refine below_set ?_ GE331.out | refine below_set ?_ GE332.out) | exact HB.out)) hb); have n7_ := aS_ (hbox); have n8_ := aS_ ((by rw [hg]; exact (below_size (by repeat (first | (with_reducible first | exact HB.out | apply bA_ | apply bN_ | apply bD_ | refine below_set ?_ GE325.out | refine below_set ?_ GE331.out | refine below_set ?_ GE332.out) | exact HB.out))) : w.heap.size ≤ gb338)); have n9_ := aS_ ((by rw [hg]; exact (below_size (by repeat (first | (with_reducible first | exact HB.out | apply bA_ | apply bN_ | apply bD_ | refine below_set ?_ GE325.out | refine below_set ?_ GE331.out | refine below_set ?_ GE332.out) | exact HB.out))) : w.heap.size ≤ gb338)); have n10_ := aS_ ((by rw [hg]; exact Nat.ne_of_lt (blk_lt (g := gb325) (o := .cells #[.slice Ao9 t320.length co9] 25 (0, 0)) (by (with_reducible repeat (first | refine kN_ ?_ _ | refine kD_ ?_ | refine kA_ ?_ _)); exact BK325.out)) : gb325 ≠ gb338)); have n11_ := aS_ ((by rw [hg]; exact Nat.ne_of_gt (blk_lt (g := gb325) (o := .cells #[.slice Ao9 t320.length co9] 25 (0, 0)) (by (with_reducible repeat (first | refine kN_ ?_ _ | refine kD_ ?_ | refine kA_ ?_ _)); exact BK325.out)) : gb338 ≠ gb325)); have n12_ := aS_ ((by rw [hg]; exact Nat.ne_of_lt (blk_lt (g := gb331) (o := .cells #[.slice Ao14 t326.length co14] 25 (0, 0)) (by (with_reducible repeat (first | refine kN_ ?_ _ | refine kD_ ?_ | refine kA_ ?_ _)); exact BK331.out)) : gb331 ≠ gb338)); have n13_ := aS_ ((by rw [hg]; exact Nat.ne_of_gt (blk_lt (g := gb331) (o := .cells #[.slice Ao14 t326.length co14] 25 (0, 0)) (by (with_reducible repeat (first | refine kN_ ?_ _ | refine kD_ ?_ | refine kA_ ?_ _)); exact BK331.out)) : gb338 ≠ gb331)); have n14_ := aS_ ((by rw [hg]; exact Nat.ne_of_lt (blk_lt (g := gb332) (o := .cells #[.int .i64 t329, .int .i64 t330] 29 (0, 0)) (by (with_reducible repeat (first | refine kN_ ?_ _ | refine kD_ ?_ | refine kA_ ?_ _)); exact BK332.out)) : gb332 ≠ gb338)); have n15_ := aS_ ((by rw [hg]; exact Nat.ne_of_gt (blk_lt (g := gb332) (o := .cells #[.int .i64 t329, .int .i64 t330] 29 (0, 0)) (by (with_reducible repeat (first | refine kN_ ?_ _ | refine kD_ ?_ | refine kA_ ?_ _)); exact BK332.out)) : gb338 ≠ gb332)); clear HO322; clear HO328; clear HO335; clear BK325; clear BK331; clear BK332; clear HB; have HO322 := n0_; have HO328 := n1_; have HO335 := n2_; have BK325 := n3_; have BK331 := n4_; have BK332 := n5_; have HB := n6_; have BK338 := n7_; have GW338 := n8_; have GE338 := n9_; have NB325_338 := n10_; have NB338_325 := n11_; have NB331_338 := n12_; have NB338_331 := n13_; have NB332_338 := n14_; have NB338_332 := n15_; clear n0_ n1_ n2_ n3_ n4_ n5_ n6_ n7_ n8_ n9_ n10_ n11_ n12_ n13_ n14_ n15_; clear hb hbox hg) | ((with_reducible refine gate_dst (N := 9) rfl ?_); (try (refine gate_guard (by rfl) ?_; dsimp only)); refine box_event ?hg (N := 9) ?hd (cs := #[.int .i64 0, .int .i64 0]) (t := 29) ?hr ?_; (case hd => rfl); (case hg => rfl); (case hr => first | (go_simp; done) | (go_simp; rfl)); intro gb339 hg w23 hbox hb; have n0_ := aS_ (Kd.R_below (by (with_reducible repeat (first | apply rA_ | apply rN_ | apply rD_)); exact HO322.out) hb); have n1_ := aS_ (Kd.R_below (by (with_reducible repeat (first | apply rA_ | apply rN_ | apply rD_)); exact HO328.out) hb); have n2_ := aS_ (Kd.R_below (by (with_reducible repeat (first | apply rA_ | apply rN_ | apply rD_)); exact HO335.out) hb); have n3_ := aS_ (blk_below (g := gb325) (o := .cells #[.slice Ao9 t320.length co9] 25 (0, 0)) (by (with_reducible repeat (first | refine kN_ ?_ _ | refine kD_ ?_ | refine kA_ ?_ _)); exact BK325.out) hb); have n4_ := aS_ (blk_below (g := gb331) (o := .cells #[.slice Ao14 t326.length co14] 25 (0, 0)) (by (with_reducible repeat (first | refine kN_ ?_ _ | refine kD_ ?_ | refine kA_ ?_ _)); exact BK331.out) hb); have n5_ := aS_ (blk_below (g := gb332) (o := .cells #[.int .i64 t329, .int .i64 t330] 29 (0, 0)) (by (with_reducible repeat (first | refine kN_ ?_ _ | refine kD_ ?_ | refine kA_ ?_ _)); exact BK332.out) hb); have n6_ := aS_ (blk_below (g := gb338) (o := .cells #[.slice none 0 0] 25 (0, 0)) (by (with_reducible repeat (first | refine kN_ ?_ _ | refine kD_ ?_ | refine kA_ ?_ _)); exact BK338.out) hb); have n7_ := aS_ (below_step (by repeat (first | (with_reducible first | exact HB.out | apply bA_ | apply bN_ | apply bD_ | refine below_set ?_ GE325.out | refine below_set ?_ GE331.out | refine below_set ?_ GE332.out | refine below_set ?_ GE338.out) | exact HB.out)) hb); have n8_ := aS_ (hbox); have n9_ := aS_ ((by rw [hg]; exact (below_size (by repeat (first | (with_reducible first | exact HB.out | apply bA_ | apply bN_ | apply bD_ | refine below_set ?_ GE325.out | refine below_set ?_ GE331.out | refine below_set ?_ GE332.out | refine below_set ?_ GE338.out) | exact HB.out))) : w.heap.size ≤ gb339)); have n10_ := aS_ ((by rw [hg]; exact (below_size (by repeat (first | (with_reducible first | exact HB.out | apply bA_ | apply bN_ | apply bD_ | refine below_set ?_ GE325.out | refine below_set ?_ GE331.out | refine below_set ?_ GE332.out | refine below_set ?_ GE338.out) | exact HB.out))) : w.heap.size ≤ gb339)); have n11_ := aS_ ((by rw [hg]; exact Nat.ne_of_lt (blk_lt (g := gb325) (o := .cells #[.slice Ao9 t320.length co9] 25 (0, 0)) (by (with_reducible repeat (first | refine kN_ ?_ _ | refine kD_ ?_ | refine kA_ ?_ _)); exact BK325.out)) : gb325 ≠ gb339)); have n12_ := aS_ ((by rw [hg]; exact Nat.ne_of_gt (blk_lt (g := gb325) (o := .cells #[.slice Ao9 t320.length co9] 25 (0, 0)) (by (with_reducible repeat (first | refine kN_ ?_ _ | refine kD_ ?_ | refine kA_ ?_ _)); exact BK325.out)) : gb339 ≠ gb325)); have n13_ := aS_ ((by rw [hg]; exact Nat.ne_of_lt (blk_lt (g := gb331) (o := .cells #[.slice Ao14 t326.length co14] 25 (0, 0)) (by (with_reducible repeat (first | refine kN_ ?_ _ | refine kD_ ?_ | refine kA_ ?_ _)); exact BK331.out)) : gb331 ≠ gb339)); have n14_ := aS_ ((by rw [hg]; exact Nat.ne_of_gt (blk_lt (g := gb331) (o := .cells #[.slice Ao14 t326.length co14] 25 (0, 0)) (by (with_reducible repeat (first | refine kN_ ?_ _ | refine kD_ ?_ | refine kA_ ?_ _)); exact BK331.out)) : gb339 ≠ gb331)); have n15_ := aS_ ((by rw [hg]; exact Nat.ne_of_lt (blk_lt (g := gb332) (o := .cells #[.int .i64 t329, .int .i64 t330] 29 (0, 0)) (by (with_reducible repeat (first | refine kN_ ?_ _ | refine kD_ ?_ | refine kA_ ?_ _)); exact BK332.out)) : gb332 ≠ gb339)); have n16_ := aS_ ((by rw [hg]; exact Nat.ne_of_gt (blk_lt (g := gb332) (o := .cells #[.int .i64 t329, .int .i64 t330] 29 (0, 0)) (by (with_reducible repeat (first | refine kN_ ?_ _ | refine kD_ ?_ | refine kA_ ?_ _)); exact BK332.out)) : gb339 ≠ gb332)); have n17_ := aS_ ((by rw [hg]; exact Nat.ne_of_lt (blk_lt (g := gb338) (o := .cells #[.slice none 0 0] 25 (0, 0)) (by (with_reducible repeat (first | refine kN_ ?_ _ | refine kD_ ?_ | refine kA_ ?_ _)); exact BK338.out)) : gb338 ≠ gb339)); have n18_ := aS_ ((by rw [hg]; exact Nat.ne_of_gt (blk_lt (g := gb338) (o := .cells #[.slice none 0 0] 25 (0, 0)) (by (with_reducible repeat (first | refine kN_ ?_ _ | refine kD_ ?_ | refine kA_ ?_ _)); exact BK338.out)) : gb339 ≠ gb338)); clear HO322; clear HO328; clear HO335; clear BK325; clear BK331; clear BK332; clear BK338; clear HB; have HO322 := n0_; have HO328 := n1_; have HO335 := n2_; have BK325 := n3_; have BK331 := n4_; have BK332 := n5_; have BK338 := n6_; have HB := n7_; have BK339 := n8_; have GW339 := n9_; have GE339 := n10_; have NB325_339 := n11_; have NB339_325 := n12_; have NB331_339 := n13_; have NB339_331 := n14_; have NB332_339 := n15_; have NB339_332 := n16_; have NB338_339 := n17_; have NB339_338 := n18_; clear n0_ n1_ n2_ n3_ n4_ n5_ n6_ n7_ n8_ n9_ n10_ n11_ n12_ n13_ n14_ n15_ n16_ n17_ n18_; clear hb hbox hg; obtain ⟨Ao24, co24, eo24⟩ := Kd.R_slice HO335.out; subst eo24; have hnb25 := NB338_325.out; have hnc25 := NB325_338.out; have hnb26 := NB338_331.out; have hnc26 := NB331_338.out; have hnb27 := NB338_332.out; have hnc27 := NB332_338.out; have hnb28 := NB338_339.out; have hnc28 := NB339_338.out; have hcz29_0 : w23.cell? ⟨gb338, 0, none⟩ = some (.slice none 0 0) := (blk_cell BK338.out 0).trans rfl; have hfz29_0 := blk_frozen BK338.out 0; have hnb30 := NB339_325.out; have hnc30 := NB325_339.out; have hnb31 := NB339_331.out; have hnc31 := NB331_339.out; have hnb32 := NB339_332.out; have hnc32 := NB332_339.out; have hcz33_0 : w23.cell? ⟨gb339, 0, none⟩ = some (.int .i64 0) := (blk_cell BK339.out 0).trans rfl; have hcz33_1 : w23.cell? ⟨gb339, 1, none⟩ = some (.int .i64 0) := (blk_cell BK339.out 1).trans rfl; have hfz33_0 := blk_frozen BK339.out 0; have hfz33_1 := blk_frozen BK339.out 1))
    (try simp only [Act.put, List.setIfInBounds_toArray, List.set_cons_zero, List.set_cons_succ])
    go_cut [51] (fun v51 wc => ∃ (kq : Nat) (x51_5 : Bool), v51 = .bool x51_5 ∧ Aside0 (laws_FnMapPut.j0 kq t323 t324 x51_5 t320 t326 t329 t330 = some r) ∧ Aside0 (kq ≤ k) ∧ Aside0 (Kd.R k39 39 wc w.heap.size (fun k_ => some k_ ≠ ((.slice Ao14 t326.length co14) : Value).ownBlock ∧ some k_ ≠ ((.slice Ao24 t333.length co24) : Value).ownBlock) (.slice Ao9 t320.length co9) t320) ∧ Aside0 (Kd.R k39 39 wc w.heap.size (fun k_ => some k_ ≠ ((.slice Ao9 t320.length co9) : Value).ownBlock ∧ some k_ ≠ ((.slice Ao24 t333.length co24) : Value).ownBlock) (.slice Ao14 t326.length co14) t326) ∧ Aside0 (Kd.R k39 39 wc w.heap.size (fun k_ => some k_ ≠ ((.slice Ao9 t320.length co9) : Value).ownBlock ∧ some k_ ≠ ((.slice Ao14 t326.length co14) : Value).ownBlock) (.slice Ao24 t333.length co24) t333) ∧ Aside0 (wc.heap[gb325]? = some (.cells #[(.slice Ao9 t320.length co9)] 25 (0, 0))) ∧ Aside0 (wc.heap[gb331]? = some (.cells #[(.slice Ao14 t326.length co14)] 25 (0, 0))) ∧ Aside0 (wc.heap[gb332]? = some (.cells #[.int .i64 t329, .int .i64 t330] 29 (0, 0))) ∧ Aside0 (wc.heap[gb338]? = some (.cells #[(.slice Ao24 t333.length co24)] 25 (0, 0))) ∧ Aside0 (wc.heap[gb339]? = some (.cells #[.int .i64 t336, .int .i64 t337] 29 (0, 0))) ∧ Aside0 (Below w.heap.size w wc))
    case first =>
      have H := HC6.out
      clear HC6
      replace H := Option.bind_eq_some_iff.mp H
      obtain ⟨t340, A340, H⟩ := H
      replace H : (if t340 = true then (if (!(t329 == t336) || (!(t330 == t337))) = true then (laws_FnMapPut.j0 k t323 t324 true t320 t326 t329 t330) else ((impl_MapOk.f k t320).bind fun t341 => ((spec_MapOk.f k t320).bind fun t342 => (laws_FnMapPut.j0 k t323 t324 (t341 != t342) t320 t326 t329 t330)))) else (laws_FnMapPut.j0 k t323 t324 true t320 t326 t329 t330)) = some r := H
      have A34 := aS_ A340
      clear A340
      by_cases c35 : t340 = true
      · subst c35
        have H1 : (if (!(t329 == t336) || (!(t330 == t337))) = true then (laws_FnMapPut.j0 k t323 t324 true t320 t326 t329 t330) else ((impl_MapOk.f k t320).bind fun t341 => ((spec_MapOk.f k t320).bind fun t342 => (laws_FnMapPut.j0 k t323 t324 (t341 != t342) t320 t326 t329 t330)))) = some r := by rw [if_pos rfl] at H; exact H
        clear H
        have H := H1
        clear H1
        by_cases c36 : (!(t329 == t336) || (!(t330 == t337))) = true
        · rw [if_pos c36] at H
          have c36b0 : (!(t329 == t336) || (!(t330 == t337))) = true := c36
          clear c36
          (first | rw [c36b0] | (simp only [i64_w, i32_w]; rw [c36b0]) | skip)
          have H' := aS_ H
          clear H
          try go_wp2
          have n0_ : Aside0 (Kd.R k39 39 (((w23.setCell ⟨gb338, 0, none⟩ (.slice Ao24 t333.length co24)).setCell ⟨gb339, 0, none⟩ (.int .i64 t336)).setCell ⟨gb339, 1, none⟩ (.int .i64 t337)) w.heap.size (fun k_ => some k_ ≠ (.slice Ao14 t326.length co14 : Value).ownBlock ∧ some k_ ≠ (.slice Ao24 t333.length co24 : Value).ownBlock) (.slice Ao9 t320.length co9) t320) := ⟨by (with_reducible repeat (first | apply rA_ | apply rN_ | apply rD_)); exact rM_ (rF_ (p := ⟨gb339, 1, none⟩) (rF_ (p := ⟨gb339, 0, none⟩) (rF_ (p := ⟨gb338, 0, none⟩) (rT_ (rT_ HO322.out BK338.out (by decide)) BK339.out (by decide)) (fun _ hk => by first | exact hk.1.2 | trivial | simp [hk]) (.slice Ao24 t333.length co24)) (fun _ hk => by first | exact hk.2 | trivial | simp [hk]) (.int .i64 t336)) (fun _ hk => by first | exact hk.2 | trivial | simp [hk]) (.int .i64 t337)) (fun _ hk => ⟨hk.1.1.1.2, hk.1.1.2⟩)⟩
          have n1_ : Aside0 (Kd.R k39 39 (((w23.setCell ⟨gb338, 0, none⟩ (.slice Ao24 t333.length co24)).setCell ⟨gb339, 0, none⟩ (.int .i64 t336)).setCell ⟨gb339, 1, none⟩ (.int .i64 t337)) w.heap.size (fun k_ => some k_ ≠ (.slice Ao9 t320.length co9 : Value).ownBlock ∧ some k_ ≠ (.slice Ao24 t333.length co24 : Value).ownBlock) (.slice Ao14 t326.length co14) t326) := ⟨by (with_reducible repeat (first | apply rA_ | apply rN_ | apply rD_)); exact rM_ (rF_ (p := ⟨gb339, 1, none⟩) (rF_ (p := ⟨gb339, 0, none⟩) (rF_ (p := ⟨gb338, 0, none⟩) (rT_ (rT_ HO328.out BK338.out (by decide)) BK339.out (by decide)) (fun _ hk => by first | exact hk.1.2 | trivial | simp [hk]) (.slice Ao24 t333.length co24)) (fun _ hk => by first | exact hk.2 | trivial | simp [hk]) (.int .i64 t336)) (fun _ hk => by first | exact hk.2 | trivial | simp [hk]) (.int .i64 t337)) (fun _ hk => ⟨hk.1.1.1.2, hk.1.1.2⟩)⟩
          have n2_ : Aside0 (Kd.R k39 39 (((w23.setCell ⟨gb338, 0, none⟩ (.slice Ao24 t333.length co24)).setCell ⟨gb339, 0, none⟩ (.int .i64 t336)).setCell ⟨gb339, 1, none⟩ (.int .i64 t337)) w.heap.size (fun k_ => some k_ ≠ (.slice Ao9 t320.length co9 : Value).ownBlock ∧ some k_ ≠ (.slice Ao14 t326.length co14 : Value).ownBlock) (.slice Ao24 t333.length co24) t333) := ⟨by (with_reducible repeat (first | apply rA_ | apply rN_ | apply rD_)); exact rM_ (rF_ (p := ⟨gb339, 1, none⟩) (rF_ (p := ⟨gb339, 0, none⟩) (rF_ (p := ⟨gb338, 0, none⟩) (rT_ (rT_ HO335.out BK338.out (by decide)) BK339.out (by decide)) (fun _ hk => by first | exact hk.1.2 | trivial | simp [hk]) (.slice Ao24 t333.length co24)) (fun _ hk => by first | exact hk.2 | trivial | simp [hk]) (.int .i64 t336)) (fun _ hk => by first | exact hk.2 | trivial | simp [hk]) (.int .i64 t337)) (fun _ hk => ⟨hk.1.1.1.2, hk.1.1.2⟩)⟩
          have n3_ : Aside0 ((((w23.setCell ⟨gb338, 0, none⟩ (.slice Ao24 t333.length co24)).setCell ⟨gb339, 0, none⟩ (.int .i64 t336)).setCell ⟨gb339, 1, none⟩ (.int .i64 t337)).heap[gb325]? = some (.cells #[.slice Ao9 t320.length co9] 25 (0, 0))) := ⟨by (with_reducible repeat (first | refine kN_ ?_ _ | refine kD_ ?_ | refine kA_ ?_ _)); refine blk_far ?_ NB325_339.out _; (with_reducible repeat (first | refine kN_ ?_ _ | refine kD_ ?_ | refine kA_ ?_ _)); refine blk_far ?_ NB325_339.out _; (with_reducible repeat (first | refine kN_ ?_ _ | refine kD_ ?_ | refine kA_ ?_ _)); refine blk_far ?_ NB325_338.out _; (with_reducible repeat (first | refine kN_ ?_ _ | refine kD_ ?_ | refine kA_ ?_ _)); exact BK325.out⟩
          have n4_ : Aside0 ((((w23.setCell ⟨gb338, 0, none⟩ (.slice Ao24 t333.length co24)).setCell ⟨gb339, 0, none⟩ (.int .i64 t336)).setCell ⟨gb339, 1, none⟩ (.int .i64 t337)).heap[gb331]? = some (.cells #[.slice Ao14 t326.length co14] 25 (0, 0))) := ⟨by (with_reducible repeat (first | refine kN_ ?_ _ | refine kD_ ?_ | refine kA_ ?_ _)); refine blk_far ?_ NB331_339.out _; (with_reducible repeat (first | refine kN_ ?_ _ | refine kD_ ?_ | refine kA_ ?_ _)); refine blk_far ?_ NB331_339.out _; (with_reducible repeat (first | refine kN_ ?_ _ | refine kD_ ?_ | refine kA_ ?_ _)); refine blk_far ?_ NB331_338.out _; (with_reducible repeat (first | refine kN_ ?_ _ | refine kD_ ?_ | refine kA_ ?_ _)); exact BK331.out⟩
          have n5_ : Aside0 ((((w23.setCell ⟨gb338, 0, none⟩ (.slice Ao24 t333.length co24)).setCell ⟨gb339, 0, none⟩ (.int .i64 t336)).setCell ⟨gb339, 1, none⟩ (.int .i64 t337)).heap[gb332]? = some (.cells #[.int .i64 t329, .int .i64 t330] 29 (0, 0))) := ⟨by (with_reducible repeat (first | refine kN_ ?_ _ | refine kD_ ?_ | refine kA_ ?_ _)); refine blk_far ?_ NB332_339.out _; (with_reducible repeat (first | refine kN_ ?_ _ | refine kD_ ?_ | refine kA_ ?_ _)); refine blk_far ?_ NB332_339.out _; (with_reducible repeat (first | refine kN_ ?_ _ | refine kD_ ?_ | refine kA_ ?_ _)); refine blk_far ?_ NB332_338.out _; (with_reducible repeat (first | refine kN_ ?_ _ | refine kD_ ?_ | refine kA_ ?_ _)); exact BK332.out⟩
          have n6_ : Aside0 ((((w23.setCell ⟨gb338, 0, none⟩ (.slice Ao24 t333.length co24)).setCell ⟨gb339, 0, none⟩ (.int .i64 t336)).setCell ⟨gb339, 1, none⟩ (.int .i64 t337)).heap[gb338]? = some (.cells #[.slice Ao24 t333.length co24] 25 (0, 0))) := ⟨by (with_reducible repeat (first | refine kN_ ?_ _ | refine kD_ ?_ | refine kA_ ?_ _)); refine blk_far ?_ NB338_339.out _; (with_reducible repeat (first | refine kN_ ?_ _ | refine kD_ ?_ | refine kA_ ?_ _)); refine blk_far ?_ NB338_339.out _; (with_reducible repeat (first | refine kN_ ?_ _ | refine kD_ ?_ | refine kA_ ?_ _)); refine blk_put (cs := #[.slice none 0 0]) ?_ 0 _ rfl; (with_reducible repeat (first | refine kN_ ?_ _ | refine kD_ ?_ | refine kA_ ?_ _)); exact BK338.out⟩
          have n7_ : Aside0 ((((w23.setCell ⟨gb338, 0, none⟩ (.slice Ao24 t333.length co24)).setCell ⟨gb339, 0, none⟩ (.int .i64 t336)).setCell ⟨gb339, 1, none⟩ (.int .i64 t337)).heap[gb339]? = some (.cells #[.int .i64 t336, .int .i64 t337] 29 (0, 0))) := ⟨by (with_reducible repeat (first | refine kN_ ?_ _ | refine kD_ ?_ | refine kA_ ?_ _)); refine blk_put (cs := #[.int .i64 t336, .int .i64 0]) ?_ 1 _ rfl; (with_reducible repeat (first | refine kN_ ?_ _ | refine kD_ ?_ | refine kA_ ?_ _)); refine blk_put (cs := #[.int .i64 0, .int .i64 0]) ?_ 0 _ rfl; (with_reducible repeat (first | refine kN_ ?_ _ | refine kD_ ?_ | refine kA_ ?_ _)); refine blk_far ?_ NB339_338.out _; (with_reducible repeat (first | refine kN_ ?_ _ | refine kD_ ?_ | refine kA_ ?_ _)); exact BK339.out⟩
          have n8_ : Aside0 (Below w.heap.size w (((w23.setCell ⟨gb338, 0, none⟩ (.slice Ao24 t333.length co24)).setCell ⟨gb339, 0, none⟩ (.int .i64 t336)).setCell ⟨gb339, 1, none⟩ (.int .i64 t337))) := ⟨by repeat (first | (with_reducible first | exact HB.out | apply bA_ | apply bN_ | apply bD_ | refine below_set ?_ GE325.out | refine below_set ?_ GE331.out | refine below_set ?_ GE332.out | refine below_set ?_ GE338.out | refine below_set ?_ GE339.out) | exact HB.out)⟩
          (try clear HO322)
          (try clear HO328)
          (try clear HO335)
          (try clear BK325)
          (try clear BK331)
          (try clear BK332)
          (try clear BK338)
          (try clear BK339)
          (try clear HB)
          generalize (((w23.setCell ⟨gb338, 0, none⟩ (.slice Ao24 t333.length co24)).setCell ⟨gb339, 0, none⟩ (.int .i64 t336)).setCell ⟨gb339, 1, none⟩ (.int .i64 t337)) = w37 at n0_ n1_ n2_ n3_ n4_ n5_ n6_ n7_ n8_ ⊢
          have HO322 := n0_
          have HO328 := n1_
          have HO335 := n2_
          have BK325 := n3_
          have BK331 := n4_
          have BK332 := n5_
          have BK338 := n6_
          have BK339 := n7_
          have HB := n8_
          clear n0_ n1_ n2_ n3_ n4_ n5_ n6_ n7_ n8_
          have n0_ := aS_ (rD_ HO322.out)
          have n1_ := aS_ (rD_ HO328.out)
          have n2_ := aS_ (rD_ HO335.out)
          have n3_ := aS_ (kD_ BK325.out)
          have n4_ := aS_ (kD_ BK331.out)
          have n5_ := aS_ (kD_ BK332.out)
          have n6_ := aS_ (kD_ BK338.out)
          have n7_ := aS_ (kD_ BK339.out)
          have n8_ := aS_ (bD_ HB.out)
          clear HO322
          clear HO328
          clear HO335
          clear BK325
          clear BK331
          clear BK332
          clear BK338
          clear BK339
          clear HB
          have HO322 := n0_
          have HO328 := n1_
          have HO335 := n2_
          have BK325 := n3_
          have BK331 := n4_
          have BK332 := n5_
          have BK338 := n6_
          have BK339 := n7_
          have HB := n8_
          clear n0_ n1_ n2_ n3_ n4_ n5_ n6_ n7_ n8_
          refine start_ (n := 16) (S := fun w' => w'.cell? ⟨gb331, 0, none⟩ = some (.slice Ao14 t326.length co14) ∧ w'.cell? ⟨gb338, 0, none⟩ = some (.slice Ao24 t333.length co24) ∧ w'.cell? ⟨gb332, 0, none⟩ = some (.int .i64 t329) ∧ w'.cell? ⟨gb332, 1, none⟩ = some (.int .i64 t330) ∧ w'.cell? ⟨gb339, 0, none⟩ = some (.int .i64 t336) ∧ w'.cell? ⟨gb339, 1, none⟩ = some (.int .i64 t337)) (ds := []) #[false, false, false, false, false, false, false, false, false, false, false, false, false, false, false, false] (by kernel_rfl) rfl rfl ⟨(blk_cell BK331.out 0).trans rfl, (blk_cell BK338.out 0).trans rfl, (blk_cell BK332.out 0).trans rfl, (blk_cell BK332.out 1).trans rfl, (blk_cell BK339.out 0).trans rfl, (blk_cell BK339.out 1).trans rfl⟩ (fun hHeld => ?_); refine with_tabW laws_FnMapPut.tab6 laws_FnMapPut.bits6 (fun HT_ HW_ => ?_)
          generalize w37.drew = w38 at HO322 HO328 HO335 BK325 BK331 BK332 BK338 BK339 HB hHeld ⊢
          refine take_ (i := 0) (N := some 36) (v := ?_) (a' := ?_) #[true, false, false, false, false, false, false, false, false, false, false, false, false, false, false, false] rfl rfl (take_ofW HT_.out HW_.out (by kernel_rfl)) (fun _ _ _ h => h) (Or.inl ⟨by rfl, ?_⟩) hHeld ?_ ?_
          rotate_left
          · rintro w' ⟨s0, s1, s2, s3, s4, s5⟩
            go_simp
            with_reducible rfl
          rotate_left
          · simp only [Act.put, List.setIfInBounds_toArray, List.set_cons_zero, List.set_cons_succ, i64_w, i32_w]
            rfl
          refine take_ (i := 1) (N := some 37) (v := ?_) (a' := ?_) #[true, true, false, false, false, false, false, false, false, false, false, false, false, false, false, false] rfl rfl (take_ofW HT_.out HW_.out (by kernel_rfl)) (fun _ _ _ h => h) (Or.inl ⟨by rfl, ?_⟩) hHeld ?_ ?_
          rotate_left
          · rintro w' ⟨s0, s1, s2, s3, s4, s5⟩
            go_simp
            with_reducible rfl
          rotate_left
          · simp only [Act.put, List.setIfInBounds_toArray, List.set_cons_zero, List.set_cons_succ, i64_w, i32_w]
            rfl
          refine one_ (i := 2) (N := some 38) #[true, true, true, false, false, false, false, false, false, false, false, false, false, false, false, false] rfl rfl (one_of HT_.out (by kernel_rfl)) (by decide) (fun K hK => ?_)
          refine goes_ Try.func14 (by kernel_rfl) rfl #[.agg #[.slice Ao14 t326.length co14], .agg #[.slice Ao24 t333.length co24]] (by rfl) rfl rfl (by (try simp only [List.map_toArray, List.map_cons, List.map_nil]); first | done | rfl | (simp only [List.length_drop, List.length_take]; rfl)) ?_
          with_reducible refine (laws_tgMap.calls k _ _ t326 _ _ t333 true _ ?side1 ?side2 ?side3 ?side4 A34.out).mono ?_
          (case side1 => repeat (first | exact (Kd.R_reads' HO328.out).2.2 | (with_reducible refine Kd.C_alloc ?_ _) | (with_reducible refine Kd.C_drewN ?_ _) | (with_reducible refine Kd.C_drew ?_)))
          (case side2 => exact (Kd.R_reads' HO328.out).2.1)
          (case side3 => repeat (first | exact (Kd.R_reads' HO335.out).2.2 | (with_reducible refine Kd.C_alloc ?_ _) | (with_reducible refine Kd.C_drewN ?_ _) | (with_reducible refine Kd.C_drew ?_)))
          (case side4 => exact (Kd.R_reads' HO335.out).2.1)
          rintro e w39 ⟨rfl, hb⟩
          refine ⟨_, rfl, ?_⟩
          have n0_ := aS_ (Kd.R_below (by (with_reducible repeat (first | apply rA_ | apply rN_ | apply rD_)); exact HO322.out) hb)
          have n1_ := aS_ (Kd.R_below (by (with_reducible repeat (first | apply rA_ | apply rN_ | apply rD_)); exact HO328.out) hb)
          have n2_ := aS_ (Kd.R_below (by (with_reducible repeat (first | apply rA_ | apply rN_ | apply rD_)); exact HO335.out) hb)
          have n3_ := aS_ (blk_below (g := gb325) (o := .cells #[.slice Ao9 t320.length co9] 25 (0, 0)) (by (with_reducible repeat (first | refine kN_ ?_ _ | refine kD_ ?_ | refine kA_ ?_ _)); exact BK325.out) hb)
          have n4_ := aS_ (blk_below (g := gb331) (o := .cells #[.slice Ao14 t326.length co14] 25 (0, 0)) (by (with_reducible repeat (first | refine kN_ ?_ _ | refine kD_ ?_ | refine kA_ ?_ _)); exact BK331.out) hb)
          have n5_ := aS_ (blk_below (g := gb332) (o := .cells #[.int .i64 t329, .int .i64 t330] 29 (0, 0)) (by (with_reducible repeat (first | refine kN_ ?_ _ | refine kD_ ?_ | refine kA_ ?_ _)); exact BK332.out) hb)
          have n6_ := aS_ (blk_below (g := gb338) (o := .cells #[.slice Ao24 t333.length co24] 25 (0, 0)) (by (with_reducible repeat (first | refine kN_ ?_ _ | refine kD_ ?_ | refine kA_ ?_ _)); exact BK338.out) hb)
          have n7_ := aS_ (blk_below (g := gb339) (o := .cells #[.int .i64 t336, .int .i64 t337] 29 (0, 0)) (by (with_reducible repeat (first | refine kN_ ?_ _ | refine kD_ ?_ | refine kA_ ?_ _)); exact BK339.out) hb)
          have n8_ := aS_ (below_step (by repeat (first | (with_reducible first | exact HB.out | apply bA_ | apply bN_ | apply bD_ | refine below_set ?_ GE325.out | refine below_set ?_ GE331.out | refine below_set ?_ GE332.out | refine below_set ?_ GE338.out | refine below_set ?_ GE339.out) | exact HB.out)) hb)
          clear HO322
          clear HO328
          clear HO335
          clear BK325
          clear BK331
          clear BK332
          clear BK338
          clear BK339
          clear HB
          have HO322 := n0_
          have HO328 := n1_
          have HO335 := n2_
          have BK325 := n3_
          have BK331 := n4_
          have BK332 := n5_
          have BK338 := n6_
          have BK339 := n7_
          have HB := n8_
          clear n0_ n1_ n2_ n3_ n4_ n5_ n6_ n7_ n8_
          (try clear hb)
          (try clear hb2)
          (try clear hk)
          (try clear hi)
          refine hK.out _ _ ⟨(blk_cell BK331.out 0).trans rfl, (blk_cell BK338.out 0).trans rfl, (blk_cell BK332.out 0).trans rfl, (blk_cell BK332.out 1).trans rfl, (blk_cell BK339.out 0).trans rfl, (blk_cell BK339.out 1).trans rfl⟩ (fun hHeld => ?_)
          clear hK K
          refine norm_ (a' := ?_) ?_ ?_
          rotate_left
          · show Act.put _ (some 38) _ = _
            simp only [Act.put, List.setIfInBounds_toArray, List.set_cons_zero, List.set_cons_succ, i64_w, i32_w]
            rfl
          refine pure_ (i := 3) (N := some 39) (v := ?_) (a' := ?_) #[true, true, true, true, false, false, false, false, false, false, false, false, false, false, false, false] rfl rfl (any_of HT_.out (by kernel_rfl)) (fun _ _ _ h => h) (Or.inl ⟨by rfl, ?_⟩) ?_ ?_
          rotate_left
          · intro w'
            go_simp
            with_reducible rfl
          rotate_left
          · simp only [Act.put, List.setIfInBounds_toArray, List.set_cons_zero, List.set_cons_succ, i64_w, i32_w]
            rfl
          refine pure_ (i := 4) (N := some 40) (v := ?_) (a' := ?_) #[true, true, true, true, true, false, false, false, false, false, false, false, false, false, false, false] rfl rfl (any_of HT_.out (by kernel_rfl)) (fun _ _ _ h => h) (Or.inl ⟨by rfl, ?_⟩) ?_ ?_
          rotate_left
          · intro w'
            go_simp
            with_reducible rfl
          rotate_left
          · simp only [Act.put, List.setIfInBounds_toArray, List.set_cons_zero, List.set_cons_succ, i64_w, i32_w]
            rfl
          refine take_ (i := 5) (N := some 41) (v := ?_) (a' := ?_) #[true, true, true, true, true, true, false, false, false, false, false, false, false, false, false, false] rfl rfl (take_ofW HT_.out HW_.out (by kernel_rfl)) (fun _ _ _ h => h) (Or.inl ⟨by rfl, ?_⟩) hHeld ?_ ?_
          rotate_left
          · rintro w' ⟨s0, s1, s2, s3, s4, s5⟩
            go_simp
            with_reducible rfl
          rotate_left
          · simp only [Act.put, List.setIfInBounds_toArray, List.set_cons_zero, List.set_cons_succ, i64_w, i32_w]
            rfl
          refine take_ (i := 6) (N := some 42) (v := ?_) (a' := ?_) #[true, true, true, true, true, true, true, false, false, false, false, false, false, false, false, false] rfl rfl (take_ofW HT_.out HW_.out (by kernel_rfl)) (fun _ _ _ h => h) (Or.inl ⟨by rfl, ?_⟩) hHeld ?_ ?_
          rotate_left
          · rintro w' ⟨s0, s1, s2, s3, s4, s5⟩
            go_simp
            with_reducible rfl
          rotate_left
          · simp only [Act.put, List.setIfInBounds_toArray, List.set_cons_zero, List.set_cons_succ, i64_w, i32_w]
            rfl
          refine pure_ (i := 7) (N := some 43) (v := ?_) (a' := ?_) #[true, true, true, true, true, true, true, true, false, false, false, false, false, false, false, false] rfl rfl (any_of HT_.out (by kernel_rfl)) (fun _ _ _ h => h) (Or.inl ⟨by rfl, ?_⟩) ?_ ?_
          rotate_left
          · intro w'
            go_simp
            with_reducible rfl
          rotate_left
          · simp only [Act.put, List.setIfInBounds_toArray, List.set_cons_zero, List.set_cons_succ, i64_w, i32_w]
            rfl
          refine pure_ (i := 8) (N := some 44) (v := ?_) (a' := ?_) #[true, true, true, true, true, true, true, true, true, false, false, false, false, false, false, false] rfl rfl (any_of HT_.out (by kernel_rfl)) (fun _ _ _ h => h) (Or.inl ⟨by rfl, ?_⟩) ?_ ?_
          rotate_left
          · intro w'
            go_simp
            with_reducible rfl
          rotate_left
          · simp only [Act.put, List.setIfInBounds_toArray, List.set_cons_zero, List.set_cons_succ, i64_w, i32_w]
            rfl
          refine pure_ (i := 9) (N := some 45) (v := ?_) (a' := ?_) #[true, true, true, true, true, true, true, true, true, true, false, false, false, false, false, false] rfl rfl (any_of HT_.out (by kernel_rfl)) (fun _ _ _ h => h) (Or.inl ⟨by rfl, ?_⟩) ?_ ?_
          rotate_left
          · intro w'
            go_simp
            with_reducible rfl
          rotate_left
          · simp only [Act.put, List.setIfInBounds_toArray, List.set_cons_zero, List.set_cons_succ, i64_w, i32_w]
            rfl
          refine pure_ (i := 10) (N := some 46) (v := undef) (a' := ?_) #[true, true, true, true, true, true, true, true, true, true, true, false, false, false, false, false] rfl rfl (any_of HT_.out (by kernel_rfl)) (fun _ _ _ h => h) (Or.inr ⟨by rfl, rfl⟩) ?_ ?_
          rotate_left
          · simp only [Act.put, List.setIfInBounds_toArray, List.set_cons_zero, List.set_cons_succ, i64_w, i32_w]
            rfl
          refine pure_ (i := 11) (N := some 47) (v := undef) (a' := ?_) #[true, true, true, true, true, true, true, true, true, true, true, true, false, false, false, false] rfl rfl (any_of HT_.out (by kernel_rfl)) (fun _ _ _ h => h) (Or.inr ⟨by rfl, rfl⟩) ?_ ?_
          rotate_left
          · simp only [Act.put, List.setIfInBounds_toArray, List.set_cons_zero, List.set_cons_succ, i64_w, i32_w]
            rfl
          refine pure_ (i := 12) (N := some 48) (v := undef) (a' := ?_) #[true, true, true, true, true, true, true, true, true, true, true, true, true, false, false, false] rfl rfl (any_of HT_.out (by kernel_rfl)) (fun _ _ _ h => h) (Or.inr ⟨by rfl, rfl⟩) ?_ ?_
          rotate_left
          · simp only [Act.put, List.setIfInBounds_toArray, List.set_cons_zero, List.set_cons_succ, i64_w, i32_w]
            rfl
          refine pure_ (i := 13) (N := some 49) (v := undef) (a' := ?_) #[true, true, true, true, true, true, true, true, true, true, true, true, true, true, false, false] rfl rfl (any_of HT_.out (by kernel_rfl)) (fun _ _ _ h => h) (Or.inr ⟨by rfl, rfl⟩) ?_ ?_
          rotate_left
          · simp only [Act.put, List.setIfInBounds_toArray, List.set_cons_zero, List.set_cons_succ, i64_w, i32_w]
            rfl
          refine pure_ (i := 14) (N := some 50) (v := undef) (a' := ?_) #[true, true, true, true, true, true, true, true, true, true, true, true, true, true, true, false] rfl rfl (any_of HT_.out (by kernel_rfl)) (fun _ _ _ h => h) (Or.inr ⟨by rfl, rfl⟩) ?_ ?_
          rotate_left
          · simp only [Act.put, List.setIfInBounds_toArray, List.set_cons_zero, List.set_cons_succ, i64_w, i32_w]
            rfl
          refine pure_ (i := 15) (N := some 51) (v := ?_) (a' := ?_) #[true, true, true, true, true, true, true, true, true, true, true, true, true, true, true, true] rfl rfl (any_of HT_.out (by kernel_rfl)) (fun _ _ _ h => h) (Or.inl ⟨by rfl, ?_⟩) ?_ ?_
          rotate_left
          · intro w'
            go_simp
            with_reducible rfl
          rotate_left
          · simp only [Act.put, List.setIfInBounds_toArray, List.set_cons_zero, List.set_cons_succ, i64_w, i32_w]
            rfl
          refine done_ (done_of HT_.out (by kernel_rfl)) ?_
          try go_wp2
          go_meet
          case rel => exact ⟨_, (true), (by first | rfl | (simp; done) | (simp [*]; done)), H', ⟨by first | omega | exact Nat.le_refl _⟩, ⟨by (with_reducible repeat (first | apply rA_ | apply rN_ | apply rD_)); exact HO322.out⟩, ⟨by (with_reducible repeat (first | apply rA_ | apply rN_ | apply rD_)); exact HO328.out⟩, ⟨by (with_reducible repeat (first | apply rA_ | apply rN_ | apply rD_)); exact HO335.out⟩, ⟨by (with_reducible repeat (first | refine kN_ ?_ _ | refine kD_ ?_ | refine kA_ ?_ _)); exact BK325.out⟩, ⟨by (with_reducible repeat (first | refine kN_ ?_ _ | refine kD_ ?_ | refine kA_ ?_ _)); exact BK331.out⟩, ⟨by (with_reducible repeat (first | refine kN_ ?_ _ | refine kD_ ?_ | refine kA_ ?_ _)); exact BK332.out⟩, ⟨by (with_reducible repeat (first | refine kN_ ?_ _ | refine kD_ ?_ | refine kA_ ?_ _)); exact BK338.out⟩, ⟨by (with_reducible repeat (first | refine kN_ ?_ _ | refine kD_ ?_ | refine kA_ ?_ _)); exact BK339.out⟩, ⟨by repeat (first | (with_reducible first | exact HB.out | apply bA_ | apply bN_ | apply bD_ | refine below_set ?_ GE325.out | refine below_set ?_ GE331.out | refine below_set ?_ GE332.out | refine below_set ?_ GE338.out | refine below_set ?_ GE339.out) | exact HB.out)⟩⟩
        · rw [if_neg c36] at H
          have c36b0 : (!(t329 == t336) || (!(t330 == t337))) = false := by simpa using c36
          clear c36
          (first | rw [c36b0] | (simp only [i64_w, i32_w]; rw [c36b0]) | skip)
          replace H := Option.bind_eq_some_iff.mp H
          obtain ⟨t341, A400, H⟩ := H
          replace H : ((spec_MapOk.f k t320).bind fun t342 => (laws_FnMapPut.j0 k t323 t324 (t341 != t342) t320 t326 t329 t330)) = some r := H
          have A40 := aS_ A400
          clear A400
          replace H := Option.bind_eq_some_iff.mp H
          obtain ⟨t342, A410, H⟩ := H
          replace H : (laws_FnMapPut.j0 k t323 t324 (t341 != t342) t320 t326 t329 t330) = some r := H
          have A41 := aS_ A410
          clear A410
          have H' := aS_ H
          clear H
          try go_wp2
          have n0_ : Aside0 (Kd.R k39 39 (((w23.setCell ⟨gb338, 0, none⟩ (.slice Ao24 t333.length co24)).setCell ⟨gb339, 0, none⟩ (.int .i64 t336)).setCell ⟨gb339, 1, none⟩ (.int .i64 t337)) w.heap.size (fun k_ => some k_ ≠ (.slice Ao14 t326.length co14 : Value).ownBlock ∧ some k_ ≠ (.slice Ao24 t333.length co24 : Value).ownBlock) (.slice Ao9 t320.length co9) t320) := ⟨by (with_reducible repeat (first | apply rA_ | apply rN_ | apply rD_)); exact rM_ (rF_ (p := ⟨gb339, 1, none⟩) (rF_ (p := ⟨gb339, 0, none⟩) (rF_ (p := ⟨gb338, 0, none⟩) (rT_ (rT_ HO322.out BK338.out (by decide)) BK339.out (by decide)) (fun _ hk => by first | exact hk.1.2 | trivial | simp [hk]) (.slice Ao24 t333.length co24)) (fun _ hk => by first | exact hk.2 | trivial | simp [hk]) (.int .i64 t336)) (fun _ hk => by first | exact hk.2 | trivial | simp [hk]) (.int .i64 t337)) (fun _ hk => ⟨hk.1.1.1.2, hk.1.1.2⟩)⟩
          have n1_ : Aside0 (Kd.R k39 39 (((w23.setCell ⟨gb338, 0, none⟩ (.slice Ao24 t333.length co24)).setCell ⟨gb339, 0, none⟩ (.int .i64 t336)).setCell ⟨gb339, 1, none⟩ (.int .i64 t337)) w.heap.size (fun k_ => some k_ ≠ (.slice Ao9 t320.length co9 : Value).ownBlock ∧ some k_ ≠ (.slice Ao24 t333.length co24 : Value).ownBlock) (.slice Ao14 t326.length co14) t326) := ⟨by (with_reducible repeat (first | apply rA_ | apply rN_ | apply rD_)); exact rM_ (rF_ (p := ⟨gb339, 1, none⟩) (rF_ (p := ⟨gb339, 0, none⟩) (rF_ (p := ⟨gb338, 0, none⟩) (rT_ (rT_ HO328.out BK338.out (by decide)) BK339.out (by decide)) (fun _ hk => by first | exact hk.1.2 | trivial | simp [hk]) (.slice Ao24 t333.length co24)) (fun _ hk => by first | exact hk.2 | trivial | simp [hk]) (.int .i64 t336)) (fun _ hk => by first | exact hk.2 | trivial | simp [hk]) (.int .i64 t337)) (fun _ hk => ⟨hk.1.1.1.2, hk.1.1.2⟩)⟩
          have n2_ : Aside0 (Kd.R k39 39 (((w23.setCell ⟨gb338, 0, none⟩ (.slice Ao24 t333.length co24)).setCell ⟨gb339, 0, none⟩ (.int .i64 t336)).setCell ⟨gb339, 1, none⟩ (.int .i64 t337)) w.heap.size (fun k_ => some k_ ≠ (.slice Ao9 t320.length co9 : Value).ownBlock ∧ some k_ ≠ (.slice Ao14 t326.length co14 : Value).ownBlock) (.slice Ao24 t333.length co24) t333) := ⟨by (with_reducible repeat (first | apply rA_ | apply rN_ | apply rD_)); exact rM_ (rF_ (p := ⟨gb339, 1, none⟩) (rF_ (p := ⟨gb339, 0, none⟩) (rF_ (p := ⟨gb338, 0, none⟩) (rT_ (rT_ HO335.out BK338.out (by decide)) BK339.out (by decide)) (fun _ hk => by first | exact hk.1.2 | trivial | simp [hk]) (.slice Ao24 t333.length co24)) (fun _ hk => by first | exact hk.2 | trivial | simp [hk]) (.int .i64 t336)) (fun _ hk => by first | exact hk.2 | trivial | simp [hk]) (.int .i64 t337)) (fun _ hk => ⟨hk.1.1.1.2, hk.1.1.2⟩)⟩
          have n3_ : Aside0 ((((w23.setCell ⟨gb338, 0, none⟩ (.slice Ao24 t333.length co24)).setCell ⟨gb339, 0, none⟩ (.int .i64 t336)).setCell ⟨gb339, 1, none⟩ (.int .i64 t337)).heap[gb325]? = some (.cells #[.slice Ao9 t320.length co9] 25 (0, 0))) := ⟨by (with_reducible repeat (first | refine kN_ ?_ _ | refine kD_ ?_ | refine kA_ ?_ _)); refine blk_far ?_ NB325_339.out _; (with_reducible repeat (first | refine kN_ ?_ _ | refine kD_ ?_ | refine kA_ ?_ _)); refine blk_far ?_ NB325_339.out _; (with_reducible repeat (first | refine kN_ ?_ _ | refine kD_ ?_ | refine kA_ ?_ _)); refine blk_far ?_ NB325_338.out _; (with_reducible repeat (first | refine kN_ ?_ _ | refine kD_ ?_ | refine kA_ ?_ _)); exact BK325.out⟩
          have n4_ : Aside0 ((((w23.setCell ⟨gb338, 0, none⟩ (.slice Ao24 t333.length co24)).setCell ⟨gb339, 0, none⟩ (.int .i64 t336)).setCell ⟨gb339, 1, none⟩ (.int .i64 t337)).heap[gb331]? = some (.cells #[.slice Ao14 t326.length co14] 25 (0, 0))) := ⟨by (with_reducible repeat (first | refine kN_ ?_ _ | refine kD_ ?_ | refine kA_ ?_ _)); refine blk_far ?_ NB331_339.out _; (with_reducible repeat (first | refine kN_ ?_ _ | refine kD_ ?_ | refine kA_ ?_ _)); refine blk_far ?_ NB331_339.out _; (with_reducible repeat (first | refine kN_ ?_ _ | refine kD_ ?_ | refine kA_ ?_ _)); refine blk_far ?_ NB331_338.out _; (with_reducible repeat (first | refine kN_ ?_ _ | refine kD_ ?_ | refine kA_ ?_ _)); exact BK331.out⟩
          have n5_ : Aside0 ((((w23.setCell ⟨gb338, 0, none⟩ (.slice Ao24 t333.length co24)).setCell ⟨gb339, 0, none⟩ (.int .i64 t336)).setCell ⟨gb339, 1, none⟩ (.int .i64 t337)).heap[gb332]? = some (.cells #[.int .i64 t329, .int .i64 t330] 29 (0, 0))) := ⟨by (with_reducible repeat (first | refine kN_ ?_ _ | refine kD_ ?_ | refine kA_ ?_ _)); refine blk_far ?_ NB332_339.out _; (with_reducible repeat (first | refine kN_ ?_ _ | refine kD_ ?_ | refine kA_ ?_ _)); refine blk_far ?_ NB332_339.out _; (with_reducible repeat (first | refine kN_ ?_ _ | refine kD_ ?_ | refine kA_ ?_ _)); refine blk_far ?_ NB332_338.out _; (with_reducible repeat (first | refine kN_ ?_ _ | refine kD_ ?_ | refine kA_ ?_ _)); exact BK332.out⟩
          have n6_ : Aside0 ((((w23.setCell ⟨gb338, 0, none⟩ (.slice Ao24 t333.length co24)).setCell ⟨gb339, 0, none⟩ (.int .i64 t336)).setCell ⟨gb339, 1, none⟩ (.int .i64 t337)).heap[gb338]? = some (.cells #[.slice Ao24 t333.length co24] 25 (0, 0))) := ⟨by (with_reducible repeat (first | refine kN_ ?_ _ | refine kD_ ?_ | refine kA_ ?_ _)); refine blk_far ?_ NB338_339.out _; (with_reducible repeat (first | refine kN_ ?_ _ | refine kD_ ?_ | refine kA_ ?_ _)); refine blk_far ?_ NB338_339.out _; (with_reducible repeat (first | refine kN_ ?_ _ | refine kD_ ?_ | refine kA_ ?_ _)); refine blk_put (cs := #[.slice none 0 0]) ?_ 0 _ rfl; (with_reducible repeat (first | refine kN_ ?_ _ | refine kD_ ?_ | refine kA_ ?_ _)); exact BK338.out⟩
          have n7_ : Aside0 ((((w23.setCell ⟨gb338, 0, none⟩ (.slice Ao24 t333.length co24)).setCell ⟨gb339, 0, none⟩ (.int .i64 t336)).setCell ⟨gb339, 1, none⟩ (.int .i64 t337)).heap[gb339]? = some (.cells #[.int .i64 t336, .int .i64 t337] 29 (0, 0))) := ⟨by (with_reducible repeat (first | refine kN_ ?_ _ | refine kD_ ?_ | refine kA_ ?_ _)); refine blk_put (cs := #[.int .i64 t336, .int .i64 0]) ?_ 1 _ rfl; (with_reducible repeat (first | refine kN_ ?_ _ | refine kD_ ?_ | refine kA_ ?_ _)); refine blk_put (cs := #[.int .i64 0, .int .i64 0]) ?_ 0 _ rfl; (with_reducible repeat (first | refine kN_ ?_ _ | refine kD_ ?_ | refine kA_ ?_ _)); refine blk_far ?_ NB339_338.out _; (with_reducible repeat (first | refine kN_ ?_ _ | refine kD_ ?_ | refine kA_ ?_ _)); exact BK339.out⟩
          have n8_ : Aside0 (Below w.heap.size w (((w23.setCell ⟨gb338, 0, none⟩ (.slice Ao24 t333.length co24)).setCell ⟨gb339, 0, none⟩ (.int .i64 t336)).setCell ⟨gb339, 1, none⟩ (.int .i64 t337))) := ⟨by repeat (first | (with_reducible first | exact HB.out | apply bA_ | apply bN_ | apply bD_ | refine below_set ?_ GE325.out | refine below_set ?_ GE331.out | refine below_set ?_ GE332.out | refine below_set ?_ GE338.out | refine below_set ?_ GE339.out) | exact HB.out)⟩
          (try clear HO322)
          (try clear HO328)
          (try clear HO335)
          (try clear BK325)
          (try clear BK331)
          (try clear BK332)
          (try clear BK338)
          (try clear BK339)
          (try clear HB)
          generalize (((w23.setCell ⟨gb338, 0, none⟩ (.slice Ao24 t333.length co24)).setCell ⟨gb339, 0, none⟩ (.int .i64 t336)).setCell ⟨gb339, 1, none⟩ (.int .i64 t337)) = w42 at n0_ n1_ n2_ n3_ n4_ n5_ n6_ n7_ n8_ ⊢
          have HO322 := n0_
          have HO328 := n1_
          have HO335 := n2_
          have BK325 := n3_
          have BK331 := n4_
          have BK332 := n5_
          have BK338 := n6_
          have BK339 := n7_
          have HB := n8_
          clear n0_ n1_ n2_ n3_ n4_ n5_ n6_ n7_ n8_
          have n0_ := aS_ (rD_ HO322.out)
          have n1_ := aS_ (rD_ HO328.out)
          have n2_ := aS_ (rD_ HO335.out)
          have n3_ := aS_ (kD_ BK325.out)
          have n4_ := aS_ (kD_ BK331.out)
          have n5_ := aS_ (kD_ BK332.out)
          have n6_ := aS_ (kD_ BK338.out)
          have n7_ := aS_ (kD_ BK339.out)
          have n8_ := aS_ (bD_ HB.out)
          clear HO322
          clear HO328
          clear HO335
          clear BK325
          clear BK331
          clear BK332
          clear BK338
          clear BK339
          clear HB
          have HO322 := n0_
          have HO328 := n1_
          have HO335 := n2_
          have BK325 := n3_
          have BK331 := n4_
          have BK332 := n5_
          have BK338 := n6_
          have BK339 := n7_
          have HB := n8_
          clear n0_ n1_ n2_ n3_ n4_ n5_ n6_ n7_ n8_
          refine start_ (n := 16) (S := fun w' => w'.cell? ⟨gb331, 0, none⟩ = some (.slice Ao14 t326.length co14) ∧ w'.cell? ⟨gb338, 0, none⟩ = some (.slice Ao24 t333.length co24) ∧ w'.cell? ⟨gb332, 0, none⟩ = some (.int .i64 t329) ∧ w'.cell? ⟨gb332, 1, none⟩ = some (.int .i64 t330) ∧ w'.cell? ⟨gb339, 0, none⟩ = some (.int .i64 t336) ∧ w'.cell? ⟨gb339, 1, none⟩ = some (.int .i64 t337) ∧ w'.cell? ⟨gb325, 0, none⟩ = some (.slice Ao9 t320.length co9)) (ds := []) #[false, false, false, false, false, false, false, false, false, false, false, false, false, false, false, false] (by kernel_rfl) rfl rfl ⟨(blk_cell BK331.out 0).trans rfl, (blk_cell BK338.out 0).trans rfl, (blk_cell BK332.out 0).trans rfl, (blk_cell BK332.out 1).trans rfl, (blk_cell BK339.out 0).trans rfl, (blk_cell BK339.out 1).trans rfl, (blk_cell BK325.out 0).trans rfl⟩ (fun hHeld => ?_); refine with_tabW laws_FnMapPut.tab6 laws_FnMapPut.bits6 (fun HT_ HW_ => ?_)
          generalize w42.drew = w43 at HO322 HO328 HO335 BK325 BK331 BK332 BK338 BK339 HB hHeld ⊢
          refine take_ (i := 0) (N := some 36) (v := ?_) (a' := ?_) #[true, false, false, false, false, false, false, false, false, false, false, false, false, false, false, false] rfl rfl (take_ofW HT_.out HW_.out (by kernel_rfl)) (fun _ _ _ h => h) (Or.inl ⟨by rfl, ?_⟩) hHeld ?_ ?_
          rotate_left
          · rintro w' ⟨s0, s1, s2, s3, s4, s5, s6⟩
            go_simp
            with_reducible rfl
          rotate_left
          · simp only [Act.put, List.setIfInBounds_toArray, List.set_cons_zero, List.set_cons_succ, i64_w, i32_w]
            rfl
          refine take_ (i := 1) (N := some 37) (v := ?_) (a' := ?_) #[true, true, false, false, false, false, false, false, false, false, false, false, false, false, false, false] rfl rfl (take_ofW HT_.out HW_.out (by kernel_rfl)) (fun _ _ _ h => h) (Or.inl ⟨by rfl, ?_⟩) hHeld ?_ ?_
          rotate_left
          · rintro w' ⟨s0, s1, s2, s3, s4, s5, s6⟩
            go_simp
            with_reducible rfl
          rotate_left
          · simp only [Act.put, List.setIfInBounds_toArray, List.set_cons_zero, List.set_cons_succ, i64_w, i32_w]
            rfl
          refine one_ (i := 2) (N := some 38) #[true, true, true, false, false, false, false, false, false, false, false, false, false, false, false, false] rfl rfl (one_of HT_.out (by kernel_rfl)) (by decide) (fun K hK => ?_)
          refine goes_ Try.func14 (by kernel_rfl) rfl #[.agg #[.slice Ao14 t326.length co14], .agg #[.slice Ao24 t333.length co24]] (by rfl) rfl rfl (by (try simp only [List.map_toArray, List.map_cons, List.map_nil]); first | done | rfl | (simp only [List.length_drop, List.length_take]; rfl)) ?_
          with_reducible refine (laws_tgMap.calls k _ _ t326 _ _ t333 true _ ?side1 ?side2 ?side3 ?side4 A34.out).mono ?_
          (case side1 => repeat (first | exact (Kd.R_reads' HO328.out).2.2 | (with_reducible refine Kd.C_alloc ?_ _) | (with_reducible refine Kd.C_drewN ?_ _) | (with_reducible refine Kd.C_drew ?_)))
          (case side2 => exact (Kd.R_reads' HO328.out).2.1)
          (case side3 => repeat (first | exact (Kd.R_reads' HO335.out).2.2 | (with_reducible refine Kd.C_alloc ?_ _) | (with_reducible refine Kd.C_drewN ?_ _) | (with_reducible refine Kd.C_drew ?_)))
          (case side4 => exact (Kd.R_reads' HO335.out).2.1)
          rintro e w44 ⟨rfl, hb⟩
          refine ⟨_, rfl, ?_⟩
          have n0_ := aS_ (Kd.R_below (by (with_reducible repeat (first | apply rA_ | apply rN_ | apply rD_)); exact HO322.out) hb)
          have n1_ := aS_ (Kd.R_below (by (with_reducible repeat (first | apply rA_ | apply rN_ | apply rD_)); exact HO328.out) hb)
          have n2_ := aS_ (Kd.R_below (by (with_reducible repeat (first | apply rA_ | apply rN_ | apply rD_)); exact HO335.out) hb)
          have n3_ := aS_ (blk_below (g := gb325) (o := .cells #[.slice Ao9 t320.length co9] 25 (0, 0)) (by (with_reducible repeat (first | refine kN_ ?_ _ | refine kD_ ?_ | refine kA_ ?_ _)); exact BK325.out) hb)
          have n4_ := aS_ (blk_below (g := gb331) (o := .cells #[.slice Ao14 t326.length co14] 25 (0, 0)) (by (with_reducible repeat (first | refine kN_ ?_ _ | refine kD_ ?_ | refine kA_ ?_ _)); exact BK331.out) hb)
          have n5_ := aS_ (blk_below (g := gb332) (o := .cells #[.int .i64 t329, .int .i64 t330] 29 (0, 0)) (by (with_reducible repeat (first | refine kN_ ?_ _ | refine kD_ ?_ | refine kA_ ?_ _)); exact BK332.out) hb)
          have n6_ := aS_ (blk_below (g := gb338) (o := .cells #[.slice Ao24 t333.length co24] 25 (0, 0)) (by (with_reducible repeat (first | refine kN_ ?_ _ | refine kD_ ?_ | refine kA_ ?_ _)); exact BK338.out) hb)
          have n7_ := aS_ (blk_below (g := gb339) (o := .cells #[.int .i64 t336, .int .i64 t337] 29 (0, 0)) (by (with_reducible repeat (first | refine kN_ ?_ _ | refine kD_ ?_ | refine kA_ ?_ _)); exact BK339.out) hb)
          have n8_ := aS_ (below_step (by repeat (first | (with_reducible first | exact HB.out | apply bA_ | apply bN_ | apply bD_ | refine below_set ?_ GE325.out | refine below_set ?_ GE331.out | refine below_set ?_ GE332.out | refine below_set ?_ GE338.out | refine below_set ?_ GE339.out) | exact HB.out)) hb)
          clear HO322
          clear HO328
          clear HO335
          clear BK325
          clear BK331
          clear BK332
          clear BK338
          clear BK339
          clear HB
          have HO322 := n0_
          have HO328 := n1_
          have HO335 := n2_
          have BK325 := n3_
          have BK331 := n4_
          have BK332 := n5_
          have BK338 := n6_
          have BK339 := n7_
          have HB := n8_
          clear n0_ n1_ n2_ n3_ n4_ n5_ n6_ n7_ n8_
          (try clear hb)
          (try clear hb2)
          (try clear hk)
          (try clear hi)
          refine hK.out _ _ ⟨(blk_cell BK331.out 0).trans rfl, (blk_cell BK338.out 0).trans rfl, (blk_cell BK332.out 0).trans rfl, (blk_cell BK332.out 1).trans rfl, (blk_cell BK339.out 0).trans rfl, (blk_cell BK339.out 1).trans rfl, (blk_cell BK325.out 0).trans rfl⟩ (fun hHeld => ?_)
          clear hK K
          refine norm_ (a' := ?_) ?_ ?_
          rotate_left
          · show Act.put _ (some 38) _ = _
            simp only [Act.put, List.setIfInBounds_toArray, List.set_cons_zero, List.set_cons_succ, i64_w, i32_w]
            rfl
          refine pure_ (i := 3) (N := some 39) (v := ?_) (a' := ?_) #[true, true, true, true, false, false, false, false, false, false, false, false, false, false, false, false] rfl rfl (any_of HT_.out (by kernel_rfl)) (fun _ _ _ h => h) (Or.inl ⟨by rfl, ?_⟩) ?_ ?_
          rotate_left
          · intro w'
            go_simp
            with_reducible rfl
          rotate_left
          · simp only [Act.put, List.setIfInBounds_toArray, List.set_cons_zero, List.set_cons_succ, i64_w, i32_w]
            rfl
          refine pure_ (i := 4) (N := some 40) (v := ?_) (a' := ?_) #[true, true, true, true, true, false, false, false, false, false, false, false, false, false, false, false] rfl rfl (any_of HT_.out (by kernel_rfl)) (fun _ _ _ h => h) (Or.inl ⟨by rfl, ?_⟩) ?_ ?_
          rotate_left
          · intro w'
            go_simp
            with_reducible rfl
          rotate_left
          · simp only [Act.put, List.setIfInBounds_toArray, List.set_cons_zero, List.set_cons_succ, i64_w, i32_w]
            rfl
          refine take_ (i := 5) (N := some 41) (v := ?_) (a' := ?_) #[true, true, true, true, true, true, false, false, false, false, false, false, false, false, false, false] rfl rfl (take_ofW HT_.out HW_.out (by kernel_rfl)) (fun _ _ _ h => h) (Or.inl ⟨by rfl, ?_⟩) hHeld ?_ ?_
          rotate_left
          · rintro w' ⟨s0, s1, s2, s3, s4, s5, s6⟩
            go_simp
            with_reducible rfl
          rotate_left
          · simp only [Act.put, List.setIfInBounds_toArray, List.set_cons_zero, List.set_cons_succ, i64_w, i32_w]
            rfl
          refine take_ (i := 6) (N := some 42) (v := ?_) (a' := ?_) #[true, true, true, true, true, true, true, false, false, false, false, false, false, false, false, false] rfl rfl (take_ofW HT_.out HW_.out (by kernel_rfl)) (fun _ _ _ h => h) (Or.inl ⟨by rfl, ?_⟩) hHeld ?_ ?_
          rotate_left
          · rintro w' ⟨s0, s1, s2, s3, s4, s5, s6⟩
            go_simp
            with_reducible rfl
          rotate_left
          · simp only [Act.put, List.setIfInBounds_toArray, List.set_cons_zero, List.set_cons_succ, i64_w, i32_w]
            rfl
          refine pure_ (i := 7) (N := some 43) (v := ?_) (a' := ?_) #[true, true, true, true, true, true, true, true, false, false, false, false, false, false, false, false] rfl rfl (any_of HT_.out (by kernel_rfl)) (fun _ _ _ h => h) (Or.inl ⟨by rfl, ?_⟩) ?_ ?_
          rotate_left
          · intro w'
            go_simp
            with_reducible rfl
          rotate_left
          · simp only [Act.put, List.setIfInBounds_toArray, List.set_cons_zero, List.set_cons_succ, i64_w, i32_w]
            rfl
          refine pure_ (i := 8) (N := some 44) (v := ?_) (a' := ?_) #[true, true, true, true, true, true, true, true, true, false, false, false, false, false, false, false] rfl rfl (any_of HT_.out (by kernel_rfl)) (fun _ _ _ h => h) (Or.inl ⟨by rfl, ?_⟩) ?_ ?_
          rotate_left
          · intro w'
            go_simp
            with_reducible rfl
          rotate_left
          · simp only [Act.put, List.setIfInBounds_toArray, List.set_cons_zero, List.set_cons_succ, i64_w, i32_w]
            rfl
          refine pure_ (i := 9) (N := some 45) (v := ?_) (a' := ?_) #[true, true, true, true, true, true, true, true, true, true, false, false, false, false, false, false] rfl rfl (any_of HT_.out (by kernel_rfl)) (fun _ _ _ h => h) (Or.inl ⟨by rfl, ?_⟩) ?_ ?_
          rotate_left
          · intro w'
            go_simp
            with_reducible rfl
          rotate_left
          · simp only [Act.put, List.setIfInBounds_toArray, List.set_cons_zero, List.set_cons_succ, i64_w, i32_w]
            rfl
          refine take_ (i := 10) (N := some 46) (v := ?_) (a' := ?_) #[true, true, true, true, true, true, true, true, true, true, true, false, false, false, false, false] rfl rfl (take_ofW HT_.out HW_.out (by kernel_rfl)) (fun _ _ _ h => h) (Or.inl ⟨by rfl, ?_⟩) hHeld ?_ ?_
          rotate_left
          · rintro w' ⟨s0, s1, s2, s3, s4, s5, s6⟩
            go_simp
            with_reducible rfl
          rotate_left
          · simp only [Act.put, List.setIfInBounds_toArray, List.set_cons_zero, List.set_cons_succ, i64_w, i32_w]
            rfl
          refine take_ (i := 12) (N := some 48) (v := ?_) (a' := ?_) #[true, true, true, true, true, true, true, true, true, true, true, false, true, false, false, false] rfl rfl (take_ofW HT_.out HW_.out (by kernel_rfl)) (fun _ _ _ h => h) (Or.inl ⟨by rfl, ?_⟩) hHeld ?_ ?_
          rotate_left
          · rintro w' ⟨s0, s1, s2, s3, s4, s5, s6⟩
            go_simp
            with_reducible rfl
          rotate_left
          · simp only [Act.put, List.setIfInBounds_toArray, List.set_cons_zero, List.set_cons_succ, i64_w, i32_w]
            rfl
          refine one_ (i := 11) (N := some 47) #[true, true, true, true, true, true, true, true, true, true, true, true, true, false, false, false] rfl rfl (one_of HT_.out (by kernel_rfl)) (by decide) (fun K hK => ?_)
          refine goes_ Try.func17 (by kernel_rfl) rfl #[.agg #[.slice Ao9 t320.length co9]] (by rfl) rfl rfl (by (try simp only [List.map_toArray, List.map_cons, List.map_nil]); first | done | rfl | (simp only [List.length_drop, List.length_take]; rfl)) ?_
          with_reducible refine (impl_MapOk.calls k _ _ t320 t341 _ ?side1 ?side2 A40.out).mono ?_
          (case side1 => repeat (first | exact (Kd.R_reads' HO322.out).2.2 | (with_reducible refine Kd.C_alloc ?_ _) | (with_reducible refine Kd.C_drewN ?_ _) | (with_reducible refine Kd.C_drew ?_)))
          (case side2 => exact (Kd.R_reads' HO322.out).2.1)
          rintro e w45 ⟨rfl, hb⟩
          refine ⟨_, rfl, ?_⟩
          have n0_ := aS_ (Kd.R_below (by (with_reducible repeat (first | apply rA_ | apply rN_ | apply rD_)); exact HO322.out) hb)
          have n1_ := aS_ (Kd.R_below (by (with_reducible repeat (first | apply rA_ | apply rN_ | apply rD_)); exact HO328.out) hb)
          have n2_ := aS_ (Kd.R_below (by (with_reducible repeat (first | apply rA_ | apply rN_ | apply rD_)); exact HO335.out) hb)
          have n3_ := aS_ (blk_below (g := gb325) (o := .cells #[.slice Ao9 t320.length co9] 25 (0, 0)) (by (with_reducible repeat (first | refine kN_ ?_ _ | refine kD_ ?_ | refine kA_ ?_ _)); exact BK325.out) hb)
          have n4_ := aS_ (blk_below (g := gb331) (o := .cells #[.slice Ao14 t326.length co14] 25 (0, 0)) (by (with_reducible repeat (first | refine kN_ ?_ _ | refine kD_ ?_ | refine kA_ ?_ _)); exact BK331.out) hb)
          have n5_ := aS_ (blk_below (g := gb332) (o := .cells #[.int .i64 t329, .int .i64 t330] 29 (0, 0)) (by (with_reducible repeat (first | refine kN_ ?_ _ | refine kD_ ?_ | refine kA_ ?_ _)); exact BK332.out) hb)
          have n6_ := aS_ (blk_below (g := gb338) (o := .cells #[.slice Ao24 t333.length co24] 25 (0, 0)) (by (with_reducible repeat (first | refine kN_ ?_ _ | refine kD_ ?_ | refine kA_ ?_ _)); exact BK338.out) hb)
          have n7_ := aS_ (blk_below (g := gb339) (o := .cells #[.int .i64 t336, .int .i64 t337] 29 (0, 0)) (by (with_reducible repeat (first | refine kN_ ?_ _ | refine kD_ ?_ | refine kA_ ?_ _)); exact BK339.out) hb)
          have n8_ := aS_ (below_step (by repeat (first | (with_reducible first | exact HB.out | apply bA_ | apply bN_ | apply bD_ | refine below_set ?_ GE325.out | refine below_set ?_ GE331.out | refine below_set ?_ GE332.out | refine below_set ?_ GE338.out | refine below_set ?_ GE339.out) | exact HB.out)) hb)
          clear HO322
          clear HO328
          clear HO335
          clear BK325
          clear BK331
          clear BK332
          clear BK338
          clear BK339
          clear HB
          have HO322 := n0_
          have HO328 := n1_
          have HO335 := n2_
          have BK325 := n3_
          have BK331 := n4_
          have BK332 := n5_
          have BK338 := n6_
          have BK339 := n7_
          have HB := n8_
          clear n0_ n1_ n2_ n3_ n4_ n5_ n6_ n7_ n8_
          (try clear hb)
          (try clear hb2)
          (try clear hk)
          (try clear hi)
          refine hK.out _ _ ⟨(blk_cell BK331.out 0).trans rfl, (blk_cell BK338.out 0).trans rfl, (blk_cell BK332.out 0).trans rfl, (blk_cell BK332.out 1).trans rfl, (blk_cell BK339.out 0).trans rfl, (blk_cell BK339.out 1).trans rfl, (blk_cell BK325.out 0).trans rfl⟩ (fun hHeld => ?_)
          clear hK K
          refine norm_ (a' := ?_) ?_ ?_
          rotate_left
          · show Act.put _ (some 47) _ = _
            simp only [Act.put, List.setIfInBounds_toArray, List.set_cons_zero, List.set_cons_succ, i64_w, i32_w]
            rfl
          refine one_ (i := 13) (N := some 49) #[true, true, true, true, true, true, true, true, true, true, true, true, true, true, false, false] rfl rfl (one_of HT_.out (by kernel_rfl)) (by decide) (fun K hK => ?_)
          refine goes_ Try.func15 (by kernel_rfl) rfl #[.agg #[.slice Ao9 t320.length co9]] (by rfl) rfl rfl (by (try simp only [List.map_toArray, List.map_cons, List.map_nil]); first | done | rfl | (simp only [List.length_drop, List.length_take]; rfl)) ?_
          with_reducible refine (spec_MapOk.calls k _ _ t320 t342 _ ?side1 ?side2 A41.out).mono ?_
          (case side1 => repeat (first | exact (Kd.R_reads' HO322.out).2.2 | (with_reducible refine Kd.C_alloc ?_ _) | (with_reducible refine Kd.C_drewN ?_ _) | (with_reducible refine Kd.C_drew ?_)))
          (case side2 => exact (Kd.R_reads' HO322.out).2.1)
          rintro e w46 ⟨rfl, hb⟩
          refine ⟨_, rfl, ?_⟩
          have n0_ := aS_ (Kd.R_below (by (with_reducible repeat (first | apply rA_ | apply rN_ | apply rD_)); exact HO322.out) hb)
          have n1_ := aS_ (Kd.R_below (by (with_reducible repeat (first | apply rA_ | apply rN_ | apply rD_)); exact HO328.out) hb)
          have n2_ := aS_ (Kd.R_below (by (with_reducible repeat (first | apply rA_ | apply rN_ | apply rD_)); exact HO335.out) hb)
          have n3_ := aS_ (blk_below (g := gb325) (o := .cells #[.slice Ao9 t320.length co9] 25 (0, 0)) (by (with_reducible repeat (first | refine kN_ ?_ _ | refine kD_ ?_ | refine kA_ ?_ _)); exact BK325.out) hb)
          have n4_ := aS_ (blk_below (g := gb331) (o := .cells #[.slice Ao14 t326.length co14] 25 (0, 0)) (by (with_reducible repeat (first | refine kN_ ?_ _ | refine kD_ ?_ | refine kA_ ?_ _)); exact BK331.out) hb)
          have n5_ := aS_ (blk_below (g := gb332) (o := .cells #[.int .i64 t329, .int .i64 t330] 29 (0, 0)) (by (with_reducible repeat (first | refine kN_ ?_ _ | refine kD_ ?_ | refine kA_ ?_ _)); exact BK332.out) hb)
          have n6_ := aS_ (blk_below (g := gb338) (o := .cells #[.slice Ao24 t333.length co24] 25 (0, 0)) (by (with_reducible repeat (first | refine kN_ ?_ _ | refine kD_ ?_ | refine kA_ ?_ _)); exact BK338.out) hb)
          have n7_ := aS_ (blk_below (g := gb339) (o := .cells #[.int .i64 t336, .int .i64 t337] 29 (0, 0)) (by (with_reducible repeat (first | refine kN_ ?_ _ | refine kD_ ?_ | refine kA_ ?_ _)); exact BK339.out) hb)
          have n8_ := aS_ (below_step (by repeat (first | (with_reducible first | exact HB.out | apply bA_ | apply bN_ | apply bD_ | refine below_set ?_ GE325.out | refine below_set ?_ GE331.out | refine below_set ?_ GE332.out | refine below_set ?_ GE338.out | refine below_set ?_ GE339.out) | exact HB.out)) hb)
          clear HO322
          clear HO328
          clear HO335
          clear BK325
          clear BK331
          clear BK332
          clear BK338
          clear BK339
          clear HB
          have HO322 := n0_
          have HO328 := n1_
          have HO335 := n2_
          have BK325 := n3_
          have BK331 := n4_
          have BK332 := n5_
          have BK338 := n6_
          have BK339 := n7_
          have HB := n8_
          clear n0_ n1_ n2_ n3_ n4_ n5_ n6_ n7_ n8_
          (try clear hb)
          (try clear hb2)
          (try clear hk)
          (try clear hi)
          refine hK.out _ _ ⟨(blk_cell BK331.out 0).trans rfl, (blk_cell BK338.out 0).trans rfl, (blk_cell BK332.out 0).trans rfl, (blk_cell BK332.out 1).trans rfl, (blk_cell BK339.out 0).trans rfl, (blk_cell BK339.out 1).trans rfl, (blk_cell BK325.out 0).trans rfl⟩ (fun hHeld => ?_)
          clear hK K
          refine norm_ (a' := ?_) ?_ ?_
          rotate_left
          · show Act.put _ (some 49) _ = _
            simp only [Act.put, List.setIfInBounds_toArray, List.set_cons_zero, List.set_cons_succ, i64_w, i32_w]
            rfl
          refine pure_ (i := 14) (N := some 50) (v := ?_) (a' := ?_) #[true, true, true, true, true, true, true, true, true, true, true, true, true, true, true, false] rfl rfl (any_of HT_.out (by kernel_rfl)) (fun _ _ _ h => h) (Or.inl ⟨by rfl, ?_⟩) ?_ ?_
          rotate_left
          · intro w'
            go_simp
            with_reducible rfl
          rotate_left
          · simp only [Act.put, List.setIfInBounds_toArray, List.set_cons_zero, List.set_cons_succ, i64_w, i32_w]
            rfl
          refine pure_ (i := 15) (N := some 51) (v := ?_) (a' := ?_) #[true, true, true, true, true, true, true, true, true, true, true, true, true, true, true, true] rfl rfl (any_of HT_.out (by kernel_rfl)) (fun _ _ _ h => h) (Or.inl ⟨by rfl, ?_⟩) ?_ ?_
          rotate_left
          · intro w'
            go_simp
            with_reducible rfl
          rotate_left
          · simp only [Act.put, List.setIfInBounds_toArray, List.set_cons_zero, List.set_cons_succ, i64_w, i32_w]
            rfl
          refine done_ (done_of HT_.out (by kernel_rfl)) ?_
          try go_wp2
          go_meet
          case rel => exact ⟨_, ((t341 != t342)), (by first | rfl | (simp; done) | (simp [*]; done)), H', ⟨by first | omega | exact Nat.le_refl _⟩, ⟨by (with_reducible repeat (first | apply rA_ | apply rN_ | apply rD_)); exact HO322.out⟩, ⟨by (with_reducible repeat (first | apply rA_ | apply rN_ | apply rD_)); exact HO328.out⟩, ⟨by (with_reducible repeat (first | apply rA_ | apply rN_ | apply rD_)); exact HO335.out⟩, ⟨by (with_reducible repeat (first | refine kN_ ?_ _ | refine kD_ ?_ | refine kA_ ?_ _)); exact BK325.out⟩, ⟨by (with_reducible repeat (first | refine kN_ ?_ _ | refine kD_ ?_ | refine kA_ ?_ _)); exact BK331.out⟩, ⟨by (with_reducible repeat (first | refine kN_ ?_ _ | refine kD_ ?_ | refine kA_ ?_ _)); exact BK332.out⟩, ⟨by (with_reducible repeat (first | refine kN_ ?_ _ | refine kD_ ?_ | refine kA_ ?_ _)); exact BK338.out⟩, ⟨by (with_reducible repeat (first | refine kN_ ?_ _ | refine kD_ ?_ | refine kA_ ?_ _)); exact BK339.out⟩, ⟨by repeat (first | (with_reducible first | exact HB.out | apply bA_ | apply bN_ | apply bD_ | refine below_set ?_ GE325.out | refine below_set ?_ GE331.out | refine below_set ?_ GE332.out | refine below_set ?_ GE338.out | refine below_set ?_ GE339.out) | exact HB.out)⟩⟩
      · replace c35 := Bool.eq_false_iff.mpr c35
        subst c35
        have H1 : (laws_FnMapPut.j0 k t323 t324 true t320 t326 t329 t330) = some r := by rw [if_neg (show ¬ (false = true) by decide)] at H; exact H
        clear H
        have H := H1
        clear H1
        have H' := aS_ H
        clear H
        try go_wp2
        have n0_ : Aside0 (Kd.R k39 39 (((w23.setCell ⟨gb338, 0, none⟩ (.slice Ao24 t333.length co24)).setCell ⟨gb339, 0, none⟩ (.int .i64 t336)).setCell ⟨gb339, 1, none⟩ (.int .i64 t337)) w.heap.size (fun k_ => some k_ ≠ (.slice Ao14 t326.length co14 : Value).ownBlock ∧ some k_ ≠ (.slice Ao24 t333.length co24 : Value).ownBlock) (.slice Ao9 t320.length co9) t320) := ⟨by (with_reducible repeat (first | apply rA_ | apply rN_ | apply rD_)); exact rM_ (rF_ (p := ⟨gb339, 1, none⟩) (rF_ (p := ⟨gb339, 0, none⟩) (rF_ (p := ⟨gb338, 0, none⟩) (rT_ (rT_ HO322.out BK338.out (by decide)) BK339.out (by decide)) (fun _ hk => by first | exact hk.1.2 | trivial | simp [hk]) (.slice Ao24 t333.length co24)) (fun _ hk => by first | exact hk.2 | trivial | simp [hk]) (.int .i64 t336)) (fun _ hk => by first | exact hk.2 | trivial | simp [hk]) (.int .i64 t337)) (fun _ hk => ⟨hk.1.1.1.2, hk.1.1.2⟩)⟩
        have n1_ : Aside0 (Kd.R k39 39 (((w23.setCell ⟨gb338, 0, none⟩ (.slice Ao24 t333.length co24)).setCell ⟨gb339, 0, none⟩ (.int .i64 t336)).setCell ⟨gb339, 1, none⟩ (.int .i64 t337)) w.heap.size (fun k_ => some k_ ≠ (.slice Ao9 t320.length co9 : Value).ownBlock ∧ some k_ ≠ (.slice Ao24 t333.length co24 : Value).ownBlock) (.slice Ao14 t326.length co14) t326) := ⟨by (with_reducible repeat (first | apply rA_ | apply rN_ | apply rD_)); exact rM_ (rF_ (p := ⟨gb339, 1, none⟩) (rF_ (p := ⟨gb339, 0, none⟩) (rF_ (p := ⟨gb338, 0, none⟩) (rT_ (rT_ HO328.out BK338.out (by decide)) BK339.out (by decide)) (fun _ hk => by first | exact hk.1.2 | trivial | simp [hk]) (.slice Ao24 t333.length co24)) (fun _ hk => by first | exact hk.2 | trivial | simp [hk]) (.int .i64 t336)) (fun _ hk => by first | exact hk.2 | trivial | simp [hk]) (.int .i64 t337)) (fun _ hk => ⟨hk.1.1.1.2, hk.1.1.2⟩)⟩
        have n2_ : Aside0 (Kd.R k39 39 (((w23.setCell ⟨gb338, 0, none⟩ (.slice Ao24 t333.length co24)).setCell ⟨gb339, 0, none⟩ (.int .i64 t336)).setCell ⟨gb339, 1, none⟩ (.int .i64 t337)) w.heap.size (fun k_ => some k_ ≠ (.slice Ao9 t320.length co9 : Value).ownBlock ∧ some k_ ≠ (.slice Ao14 t326.length co14 : Value).ownBlock) (.slice Ao24 t333.length co24) t333) := ⟨by (with_reducible repeat (first | apply rA_ | apply rN_ | apply rD_)); exact rM_ (rF_ (p := ⟨gb339, 1, none⟩) (rF_ (p := ⟨gb339, 0, none⟩) (rF_ (p := ⟨gb338, 0, none⟩) (rT_ (rT_ HO335.out BK338.out (by decide)) BK339.out (by decide)) (fun _ hk => by first | exact hk.1.2 | trivial | simp [hk]) (.slice Ao24 t333.length co24)) (fun _ hk => by first | exact hk.2 | trivial | simp [hk]) (.int .i64 t336)) (fun _ hk => by first | exact hk.2 | trivial | simp [hk]) (.int .i64 t337)) (fun _ hk => ⟨hk.1.1.1.2, hk.1.1.2⟩)⟩
        have n3_ : Aside0 ((((w23.setCell ⟨gb338, 0, none⟩ (.slice Ao24 t333.length co24)).setCell ⟨gb339, 0, none⟩ (.int .i64 t336)).setCell ⟨gb339, 1, none⟩ (.int .i64 t337)).heap[gb325]? = some (.cells #[.slice Ao9 t320.length co9] 25 (0, 0))) := ⟨by (with_reducible repeat (first | refine kN_ ?_ _ | refine kD_ ?_ | refine kA_ ?_ _)); refine blk_far ?_ NB325_339.out _; (with_reducible repeat (first | refine kN_ ?_ _ | refine kD_ ?_ | refine kA_ ?_ _)); refine blk_far ?_ NB325_339.out _; (with_reducible repeat (first | refine kN_ ?_ _ | refine kD_ ?_ | refine kA_ ?_ _)); refine blk_far ?_ NB325_338.out _; (with_reducible repeat (first | refine kN_ ?_ _ | refine kD_ ?_ | refine kA_ ?_ _)); exact BK325.out⟩
        have n4_ : Aside0 ((((w23.setCell ⟨gb338, 0, none⟩ (.slice Ao24 t333.length co24)).setCell ⟨gb339, 0, none⟩ (.int .i64 t336)).setCell ⟨gb339, 1, none⟩ (.int .i64 t337)).heap[gb331]? = some (.cells #[.slice Ao14 t326.length co14] 25 (0, 0))) := ⟨by (with_reducible repeat (first | refine kN_ ?_ _ | refine kD_ ?_ | refine kA_ ?_ _)); refine blk_far ?_ NB331_339.out _; (with_reducible repeat (first | refine kN_ ?_ _ | refine kD_ ?_ | refine kA_ ?_ _)); refine blk_far ?_ NB331_339.out _; (with_reducible repeat (first | refine kN_ ?_ _ | refine kD_ ?_ | refine kA_ ?_ _)); refine blk_far ?_ NB331_338.out _; (with_reducible repeat (first | refine kN_ ?_ _ | refine kD_ ?_ | refine kA_ ?_ _)); exact BK331.out⟩
        have n5_ : Aside0 ((((w23.setCell ⟨gb338, 0, none⟩ (.slice Ao24 t333.length co24)).setCell ⟨gb339, 0, none⟩ (.int .i64 t336)).setCell ⟨gb339, 1, none⟩ (.int .i64 t337)).heap[gb332]? = some (.cells #[.int .i64 t329, .int .i64 t330] 29 (0, 0))) := ⟨by (with_reducible repeat (first | refine kN_ ?_ _ | refine kD_ ?_ | refine kA_ ?_ _)); refine blk_far ?_ NB332_339.out _; (with_reducible repeat (first | refine kN_ ?_ _ | refine kD_ ?_ | refine kA_ ?_ _)); refine blk_far ?_ NB332_339.out _; (with_reducible repeat (first | refine kN_ ?_ _ | refine kD_ ?_ | refine kA_ ?_ _)); refine blk_far ?_ NB332_338.out _; (with_reducible repeat (first | refine kN_ ?_ _ | refine kD_ ?_ | refine kA_ ?_ _)); exact BK332.out⟩
        have n6_ : Aside0 ((((w23.setCell ⟨gb338, 0, none⟩ (.slice Ao24 t333.length co24)).setCell ⟨gb339, 0, none⟩ (.int .i64 t336)).setCell ⟨gb339, 1, none⟩ (.int .i64 t337)).heap[gb338]? = some (.cells #[.slice Ao24 t333.length co24] 25 (0, 0))) := ⟨by (with_reducible repeat (first | refine kN_ ?_ _ | refine kD_ ?_ | refine kA_ ?_ _)); refine blk_far ?_ NB338_339.out _; (with_reducible repeat (first | refine kN_ ?_ _ | refine kD_ ?_ | refine kA_ ?_ _)); refine blk_far ?_ NB338_339.out _; (with_reducible repeat (first | refine kN_ ?_ _ | refine kD_ ?_ | refine kA_ ?_ _)); refine blk_put (cs := #[.slice none 0 0]) ?_ 0 _ rfl; (with_reducible repeat (first | refine kN_ ?_ _ | refine kD_ ?_ | refine kA_ ?_ _)); exact BK338.out⟩
        have n7_ : Aside0 ((((w23.setCell ⟨gb338, 0, none⟩ (.slice Ao24 t333.length co24)).setCell ⟨gb339, 0, none⟩ (.int .i64 t336)).setCell ⟨gb339, 1, none⟩ (.int .i64 t337)).heap[gb339]? = some (.cells #[.int .i64 t336, .int .i64 t337] 29 (0, 0))) := ⟨by (with_reducible repeat (first | refine kN_ ?_ _ | refine kD_ ?_ | refine kA_ ?_ _)); refine blk_put (cs := #[.int .i64 t336, .int .i64 0]) ?_ 1 _ rfl; (with_reducible repeat (first | refine kN_ ?_ _ | refine kD_ ?_ | refine kA_ ?_ _)); refine blk_put (cs := #[.int .i64 0, .int .i64 0]) ?_ 0 _ rfl; (with_reducible repeat (first | refine kN_ ?_ _ | refine kD_ ?_ | refine kA_ ?_ _)); refine blk_far ?_ NB339_338.out _; (with_reducible repeat (first | refine kN_ ?_ _ | refine kD_ ?_ | refine kA_ ?_ _)); exact BK339.out⟩
        have n8_ : Aside0 (Below w.heap.size w (((w23.setCell ⟨gb338, 0, none⟩ (.slice Ao24 t333.length co24)).setCell ⟨gb339, 0, none⟩ (.int .i64 t336)).setCell ⟨gb339, 1, none⟩ (.int .i64 t337))) := ⟨by repeat (first | (with_reducible first | exact HB.out | apply bA_ | apply bN_ | apply bD_ | refine below_set ?_ GE325.out | refine below_set ?_ GE331.out | refine below_set ?_ GE332.out | refine below_set ?_ GE338.out | refine below_set ?_ GE339.out) | exact HB.out)⟩
        (try clear HO322)
        (try clear HO328)
        (try clear HO335)
        (try clear BK325)
        (try clear BK331)
        (try clear BK332)
        (try clear BK338)
        (try clear BK339)
        (try clear HB)
        generalize (((w23.setCell ⟨gb338, 0, none⟩ (.slice Ao24 t333.length co24)).setCell ⟨gb339, 0, none⟩ (.int .i64 t336)).setCell ⟨gb339, 1, none⟩ (.int .i64 t337)) = w47 at n0_ n1_ n2_ n3_ n4_ n5_ n6_ n7_ n8_ ⊢
        have HO322 := n0_
        have HO328 := n1_
        have HO335 := n2_
        have BK325 := n3_
        have BK331 := n4_
        have BK332 := n5_
        have BK338 := n6_
        have BK339 := n7_
        have HB := n8_
        clear n0_ n1_ n2_ n3_ n4_ n5_ n6_ n7_ n8_
        have n0_ := aS_ (rD_ HO322.out)
        have n1_ := aS_ (rD_ HO328.out)
        have n2_ := aS_ (rD_ HO335.out)
        have n3_ := aS_ (kD_ BK325.out)
        have n4_ := aS_ (kD_ BK331.out)
        have n5_ := aS_ (kD_ BK332.out)
        have n6_ := aS_ (kD_ BK338.out)
        have n7_ := aS_ (kD_ BK339.out)
        have n8_ := aS_ (bD_ HB.out)
        clear HO322
        clear HO328
        clear HO335
        clear BK325
        clear BK331
        clear BK332
        clear BK338
        clear BK339
        clear HB
        have HO322 := n0_
        have HO328 := n1_
        have HO335 := n2_
        have BK325 := n3_
        have BK331 := n4_
        have BK332 := n5_
        have BK338 := n6_
        have BK339 := n7_
        have HB := n8_
        clear n0_ n1_ n2_ n3_ n4_ n5_ n6_ n7_ n8_
        refine start_ (n := 16) (S := fun w' => w'.cell? ⟨gb331, 0, none⟩ = some (.slice Ao14 t326.length co14) ∧ w'.cell? ⟨gb338, 0, none⟩ = some (.slice Ao24 t333.length co24)) (ds := []) #[false, false, false, false, false, false, false, false, false, false, false, false, false, false, false, false] (by kernel_rfl) rfl rfl ⟨(blk_cell BK331.out 0).trans rfl, (blk_cell BK338.out 0).trans rfl⟩ (fun hHeld => ?_); refine with_tabW laws_FnMapPut.tab6 laws_FnMapPut.bits6 (fun HT_ HW_ => ?_)
        generalize w47.drew = w48 at HO322 HO328 HO335 BK325 BK331 BK332 BK338 BK339 HB hHeld ⊢
        refine take_ (i := 0) (N := some 36) (v := ?_) (a' := ?_) #[true, false, false, false, false, false, false, false, false, false, false, false, false, false, false, false] rfl rfl (take_ofW HT_.out HW_.out (by kernel_rfl)) (fun _ _ _ h => h) (Or.inl ⟨by rfl, ?_⟩) hHeld ?_ ?_
        rotate_left
        · rintro w' ⟨s0, s1⟩
          go_simp
          with_reducible rfl
        rotate_left
        · simp only [Act.put, List.setIfInBounds_toArray, List.set_cons_zero, List.set_cons_succ, i64_w, i32_w]
          rfl
        refine take_ (i := 1) (N := some 37) (v := ?_) (a' := ?_) #[true, true, false, false, false, false, false, false, false, false, false, false, false, false, false, false] rfl rfl (take_ofW HT_.out HW_.out (by kernel_rfl)) (fun _ _ _ h => h) (Or.inl ⟨by rfl, ?_⟩) hHeld ?_ ?_
        rotate_left
        · rintro w' ⟨s0, s1⟩
          go_simp
          with_reducible rfl
        rotate_left
        · simp only [Act.put, List.setIfInBounds_toArray, List.set_cons_zero, List.set_cons_succ, i64_w, i32_w]
          rfl
        refine one_ (i := 2) (N := some 38) #[true, true, true, false, false, false, false, false, false, false, false, false, false, false, false, false] rfl rfl (one_of HT_.out (by kernel_rfl)) (by decide) (fun K hK => ?_)
        refine goes_ Try.func14 (by kernel_rfl) rfl #[.agg #[.slice Ao14 t326.length co14], .agg #[.slice Ao24 t333.length co24]] (by rfl) rfl rfl (by (try simp only [List.map_toArray, List.map_cons, List.map_nil]); first | done | rfl | (simp only [List.length_drop, List.length_take]; rfl)) ?_
        with_reducible refine (laws_tgMap.calls k _ _ t326 _ _ t333 false _ ?side1 ?side2 ?side3 ?side4 A34.out).mono ?_
        (case side1 => repeat (first | exact (Kd.R_reads' HO328.out).2.2 | (with_reducible refine Kd.C_alloc ?_ _) | (with_reducible refine Kd.C_drewN ?_ _) | (with_reducible refine Kd.C_drew ?_)))
        (case side2 => exact (Kd.R_reads' HO328.out).2.1)
        (case side3 => repeat (first | exact (Kd.R_reads' HO335.out).2.2 | (with_reducible refine Kd.C_alloc ?_ _) | (with_reducible refine Kd.C_drewN ?_ _) | (with_reducible refine Kd.C_drew ?_)))
        (case side4 => exact (Kd.R_reads' HO335.out).2.1)
        rintro e w49 ⟨rfl, hb⟩
        refine ⟨_, rfl, ?_⟩
        have n0_ := aS_ (Kd.R_below (by (with_reducible repeat (first | apply rA_ | apply rN_ | apply rD_)); exact HO322.out) hb)
        have n1_ := aS_ (Kd.R_below (by (with_reducible repeat (first | apply rA_ | apply rN_ | apply rD_)); exact HO328.out) hb)
        have n2_ := aS_ (Kd.R_below (by (with_reducible repeat (first | apply rA_ | apply rN_ | apply rD_)); exact HO335.out) hb)
        have n3_ := aS_ (blk_below (g := gb325) (o := .cells #[.slice Ao9 t320.length co9] 25 (0, 0)) (by (with_reducible repeat (first | refine kN_ ?_ _ | refine kD_ ?_ | refine kA_ ?_ _)); exact BK325.out) hb)
        have n4_ := aS_ (blk_below (g := gb331) (o := .cells #[.slice Ao14 t326.length co14] 25 (0, 0)) (by (with_reducible repeat (first | refine kN_ ?_ _ | refine kD_ ?_ | refine kA_ ?_ _)); exact BK331.out) hb)
        have n5_ := aS_ (blk_below (g := gb332) (o := .cells #[.int .i64 t329, .int .i64 t330] 29 (0, 0)) (by (with_reducible repeat (first | refine kN_ ?_ _ | refine kD_ ?_ | refine kA_ ?_ _)); exact BK332.out) hb)
        have n6_ := aS_ (blk_below (g := gb338) (o := .cells #[.slice Ao24 t333.length co24] 25 (0, 0)) (by (with_reducible repeat (first | refine kN_ ?_ _ | refine kD_ ?_ | refine kA_ ?_ _)); exact BK338.out) hb)
        have n7_ := aS_ (blk_below (g := gb339) (o := .cells #[.int .i64 t336, .int .i64 t337] 29 (0, 0)) (by (with_reducible repeat (first | refine kN_ ?_ _ | refine kD_ ?_ | refine kA_ ?_ _)); exact BK339.out) hb)
        have n8_ := aS_ (below_step (by repeat (first | (with_reducible first | exact HB.out | apply bA_ | apply bN_ | apply bD_ | refine below_set ?_ GE325.out | refine below_set ?_ GE331.out | refine below_set ?_ GE332.out | refine below_set ?_ GE338.out | refine below_set ?_ GE339.out) | exact HB.out)) hb)
        clear HO322
        clear HO328
        clear HO335
        clear BK325
        clear BK331
        clear BK332
        clear BK338
        clear BK339
        clear HB
        have HO322 := n0_
        have HO328 := n1_
        have HO335 := n2_
        have BK325 := n3_
        have BK331 := n4_
        have BK332 := n5_
        have BK338 := n6_
        have BK339 := n7_
        have HB := n8_
        clear n0_ n1_ n2_ n3_ n4_ n5_ n6_ n7_ n8_
        (try clear hb)
        (try clear hb2)
        (try clear hk)
        (try clear hi)
        refine hK.out _ _ ⟨(blk_cell BK331.out 0).trans rfl, (blk_cell BK338.out 0).trans rfl⟩ (fun hHeld => ?_)
        clear hK K
        refine norm_ (a' := ?_) ?_ ?_
        rotate_left
        · show Act.put _ (some 38) _ = _
          simp only [Act.put, List.setIfInBounds_toArray, List.set_cons_zero, List.set_cons_succ, i64_w, i32_w]
          rfl
        refine pure_ (i := 3) (N := some 39) (v := ?_) (a' := ?_) #[true, true, true, true, false, false, false, false, false, false, false, false, false, false, false, false] rfl rfl (any_of HT_.out (by kernel_rfl)) (fun _ _ _ h => h) (Or.inl ⟨by rfl, ?_⟩) ?_ ?_
        rotate_left
        · intro w'
          go_simp
          with_reducible rfl
        rotate_left
        · simp only [Act.put, List.setIfInBounds_toArray, List.set_cons_zero, List.set_cons_succ, i64_w, i32_w]
          rfl
        refine pure_ (i := 4) (N := some 40) (v := ?_) (a' := ?_) #[true, true, true, true, true, false, false, false, false, false, false, false, false, false, false, false] rfl rfl (any_of HT_.out (by kernel_rfl)) (fun _ _ _ h => h) (Or.inl ⟨by rfl, ?_⟩) ?_ ?_
        rotate_left
        · intro w'
          go_simp
          with_reducible rfl
        rotate_left
        · simp only [Act.put, List.setIfInBounds_toArray, List.set_cons_zero, List.set_cons_succ, i64_w, i32_w]
          rfl
        refine pure_ (i := 5) (N := some 41) (v := undef) (a' := ?_) #[true, true, true, true, true, true, false, false, false, false, false, false, false, false, false, false] rfl rfl (any_of HT_.out (by kernel_rfl)) (fun _ _ _ h => h) (Or.inr ⟨by rfl, rfl⟩) ?_ ?_
        rotate_left
        · simp only [Act.put, List.setIfInBounds_toArray, List.set_cons_zero, List.set_cons_succ, i64_w, i32_w]
          rfl
        refine pure_ (i := 6) (N := some 42) (v := undef) (a' := ?_) #[true, true, true, true, true, true, true, false, false, false, false, false, false, false, false, false] rfl rfl (any_of HT_.out (by kernel_rfl)) (fun _ _ _ h => h) (Or.inr ⟨by rfl, rfl⟩) ?_ ?_
        rotate_left
        · simp only [Act.put, List.setIfInBounds_toArray, List.set_cons_zero, List.set_cons_succ, i64_w, i32_w]
          rfl
        refine pure_ (i := 7) (N := some 43) (v := undef) (a' := ?_) #[true, true, true, true, true, true, true, true, false, false, false, false, false, false, false, false] rfl rfl (any_of HT_.out (by kernel_rfl)) (fun _ _ _ h => h) (Or.inr ⟨by rfl, rfl⟩) ?_ ?_
        rotate_left
        · simp only [Act.put, List.setIfInBounds_toArray, List.set_cons_zero, List.set_cons_succ, i64_w, i32_w]
          rfl
        refine pure_ (i := 8) (N := some 44) (v := ?_) (a' := ?_) #[true, true, true, true, true, true, true, true, true, false, false, false, false, false, false, false] rfl rfl (any_of HT_.out (by kernel_rfl)) (fun _ _ _ h => h) (Or.inl ⟨by rfl, ?_⟩) ?_ ?_
        rotate_left
        · intro w'
          go_simp
          with_reducible rfl
        rotate_left
        · simp only [Act.put, List.setIfInBounds_toArray, List.set_cons_zero, List.set_cons_succ, i64_w, i32_w]
          rfl
        refine pure_ (i := 9) (N := some 45) (v := ?_) (a' := ?_) #[true, true, true, true, true, true, true, true, true, true, false, false, false, false, false, false] rfl rfl (any_of HT_.out (by kernel_rfl)) (fun _ _ _ h => h) (Or.inl ⟨by rfl, ?_⟩) ?_ ?_
        rotate_left
        · intro w'
          go_simp
          with_reducible rfl
        rotate_left
        · simp only [Act.put, List.setIfInBounds_toArray, List.set_cons_zero, List.set_cons_succ, i64_w, i32_w]
          rfl
        refine pure_ (i := 10) (N := some 46) (v := undef) (a' := ?_) #[true, true, true, true, true, true, true, true, true, true, true, false, false, false, false, false] rfl rfl (any_of HT_.out (by kernel_rfl)) (fun _ _ _ h => h) (Or.inr ⟨by rfl, rfl⟩) ?_ ?_
        rotate_left
        · simp only [Act.put, List.setIfInBounds_toArray, List.set_cons_zero, List.set_cons_succ, i64_w, i32_w]
          rfl
        refine pure_ (i := 11) (N := some 47) (v := undef) (a' := ?_) #[true, true, true, true, true, true, true, true, true, true, true, true, false, false, false, false] rfl rfl (any_of HT_.out (by kernel_rfl)) (fun _ _ _ h => h) (Or.inr ⟨by rfl, rfl⟩) ?_ ?_
        rotate_left
        · simp only [Act.put, List.setIfInBounds_toArray, List.set_cons_zero, List.set_cons_succ, i64_w, i32_w]
          rfl
        refine pure_ (i := 12) (N := some 48) (v := undef) (a' := ?_) #[true, true, true, true, true, true, true, true, true, true, true, true, true, false, false, false] rfl rfl (any_of HT_.out (by kernel_rfl)) (fun _ _ _ h => h) (Or.inr ⟨by rfl, rfl⟩) ?_ ?_
        rotate_left
        · simp only [Act.put, List.setIfInBounds_toArray, List.set_cons_zero, List.set_cons_succ, i64_w, i32_w]
          rfl
        refine pure_ (i := 13) (N := some 49) (v := undef) (a' := ?_) #[true, true, true, true, true, true, true, true, true, true, true, true, true, true, false, false] rfl rfl (any_of HT_.out (by kernel_rfl)) (fun _ _ _ h => h) (Or.inr ⟨by rfl, rfl⟩) ?_ ?_
        rotate_left
        · simp only [Act.put, List.setIfInBounds_toArray, List.set_cons_zero, List.set_cons_succ, i64_w, i32_w]
          rfl
        refine pure_ (i := 14) (N := some 50) (v := undef) (a' := ?_) #[true, true, true, true, true, true, true, true, true, true, true, true, true, true, true, false] rfl rfl (any_of HT_.out (by kernel_rfl)) (fun _ _ _ h => h) (Or.inr ⟨by rfl, rfl⟩) ?_ ?_
        rotate_left
        · simp only [Act.put, List.setIfInBounds_toArray, List.set_cons_zero, List.set_cons_succ, i64_w, i32_w]
          rfl
        refine pure_ (i := 15) (N := some 51) (v := ?_) (a' := ?_) #[true, true, true, true, true, true, true, true, true, true, true, true, true, true, true, true] rfl rfl (any_of HT_.out (by kernel_rfl)) (fun _ _ _ h => h) (Or.inl ⟨by rfl, ?_⟩) ?_ ?_
        rotate_left
        · intro w'
          go_simp
          with_reducible rfl
        rotate_left
        · simp only [Act.put, List.setIfInBounds_toArray, List.set_cons_zero, List.set_cons_succ, i64_w, i32_w]
          rfl
        refine done_ (done_of HT_.out (by kernel_rfl)) ?_
        try go_wp2
        go_meet
        case rel => exact ⟨_, (true), (by first | rfl | (simp; done) | (simp [*]; done)), H', ⟨by first | omega | exact Nat.le_refl _⟩, ⟨by (with_reducible repeat (first | apply rA_ | apply rN_ | apply rD_)); exact HO322.out⟩, ⟨by (with_reducible repeat (first | apply rA_ | apply rN_ | apply rD_)); exact HO328.out⟩, ⟨by (with_reducible repeat (first | apply rA_ | apply rN_ | apply rD_)); exact HO335.out⟩, ⟨by (with_reducible repeat (first | refine kN_ ?_ _ | refine kD_ ?_ | refine kA_ ?_ _)); exact BK325.out⟩, ⟨by (with_reducible repeat (first | refine kN_ ?_ _ | refine kD_ ?_ | refine kA_ ?_ _)); exact BK331.out⟩, ⟨by (with_reducible repeat (first | refine kN_ ?_ _ | refine kD_ ?_ | refine kA_ ?_ _)); exact BK332.out⟩, ⟨by (with_reducible repeat (first | refine kN_ ?_ _ | refine kD_ ?_ | refine kA_ ?_ _)); exact BK338.out⟩, ⟨by (with_reducible repeat (first | refine kN_ ?_ _ | refine kD_ ?_ | refine kA_ ?_ _)); exact BK339.out⟩, ⟨by repeat (first | (with_reducible first | exact HB.out | apply bA_ | apply bN_ | apply bD_ | refine below_set ?_ GE325.out | refine below_set ?_ GE331.out | refine below_set ?_ GE332.out | refine below_set ?_ GE338.out | refine below_set ?_ GE339.out) | exact HB.out)⟩⟩
    case rest =>
      clear HC6
      try clear c1
      try clear p2
      try clear c3
      try clear c14
      try clear c15
      try clear c17
      try clear c35
      try clear c36
      try clear c36b0
      obtain ⟨kq, x51_5, rfl, HA, HJ5, HO_326000, HO_332000, HO_339000, BK325, BK331, BK332, BK338, BK339, HB⟩ := hcut
      cases kq with
      | zero => exact absurd HA.out (by simp [laws_FnMapPut.j0])
      | succ kj5 =>
        have H := HA.out
        clear HA
        simp only [laws_FnMapPut.j0] at H
        by_cases c50 : x51_5 = true
        · subst c50
          have H1 : (some false) = some r := by rw [if_pos rfl] at H; exact H
          clear H
          have H := H1
          clear H1
          exact absurd (Option.some.inj H) (by rw [HT.out]; decide)
        · replace c50 := Bool.eq_false_iff.mpr c50
          subst c50
          have H1 : ((spec_MapOk.f kj5 t320).bind fun t343 => (if t343 = true then (if t323 < 0 then (laws_FnMapPut.j1 kj5 t323 t324 true t320 t326 t329 t330) else (if t323 > 99 then (laws_FnMapPut.j1 kj5 t323 t324 true t320 t326 t329 t330) else (if t324 < 0 then (laws_FnMapPut.j1 kj5 t323 t324 true t320 t326 t329 t330) else (laws_FnMapPut.j1 kj5 t323 t324 (decide (t324 > 999)) t320 t326 t329 t330)))) else (laws_FnMapPut.j1 kj5 t323 t324 true t320 t326 t329 t330))) = some r := by rw [if_neg (show ¬ (false = true) by decide)] at H; exact H
          clear H
          have H := H1
          clear H1
          have HC51 := aS_ H
          clear H
          go_upto_region 8 with (fail)
          go_cut [70] (fun v70 wc => ∃ (kq : Nat) (x70_50 : Bool), v70 = .bool x70_50 ∧ Aside0 (laws_FnMapPut.j1 kq t323 t324 x70_50 t320 t326 t329 t330 = some r) ∧ Aside0 (kq ≤ kj5) ∧ Aside0 (Kd.R k39 39 wc w.heap.size (fun k_ => some k_ ≠ ((.slice Ao14 t326.length co14) : Value).ownBlock ∧ some k_ ≠ ((.slice Ao24 t333.length co24) : Value).ownBlock) (.slice Ao9 t320.length co9) t320) ∧ Aside0 (Kd.R k39 39 wc w.heap.size (fun k_ => some k_ ≠ ((.slice Ao9 t320.length co9) : Value).ownBlock ∧ some k_ ≠ ((.slice Ao24 t333.length co24) : Value).ownBlock) (.slice Ao14 t326.length co14) t326) ∧ Aside0 (Kd.R k39 39 wc w.heap.size (fun k_ => some k_ ≠ ((.slice Ao9 t320.length co9) : Value).ownBlock ∧ some k_ ≠ ((.slice Ao14 t326.length co14) : Value).ownBlock) (.slice Ao24 t333.length co24) t333) ∧ Aside0 (wc.heap[gb325]? = some (.cells #[(.slice Ao9 t320.length co9)] 25 (0, 0))) ∧ Aside0 (wc.heap[gb331]? = some (.cells #[(.slice Ao14 t326.length co14)] 25 (0, 0))) ∧ Aside0 (wc.heap[gb332]? = some (.cells #[.int .i64 t329, .int .i64 t330] 29 (0, 0))) ∧ Aside0 (wc.heap[gb338]? = some (.cells #[(.slice Ao24 t333.length co24)] 25 (0, 0))) ∧ Aside0 (wc.heap[gb339]? = some (.cells #[.int .i64 t336, .int .i64 t337] 29 (0, 0))) ∧ Aside0 (Below w.heap.size w wc))
          case first =>
            have H := HC51.out
            clear HC51
            replace H := Option.bind_eq_some_iff.mp H
            obtain ⟨t343, A520, H⟩ := H
            replace H : (if t343 = true then (if t323 < 0 then (laws_FnMapPut.j1 kj5 t323 t324 true t320 t326 t329 t330) else (if t323 > 99 then (laws_FnMapPut.j1 kj5 t323 t324 true t320 t326 t329 t330) else (if t324 < 0 then (laws_FnMapPut.j1 kj5 t323 t324 true t320 t326 t329 t330) else (laws_FnMapPut.j1 kj5 t323 t324 (decide (t324 > 999)) t320 t326 t329 t330)))) else (laws_FnMapPut.j1 kj5 t323 t324 true t320 t326 t329 t330)) = some r := H
            have A52 := aS_ A520
            clear A520
            by_cases c53 : t343 = true
            · subst c53
              have H1 : (if t323 < 0 then (laws_FnMapPut.j1 kj5 t323 t324 true t320 t326 t329 t330) else (if t323 > 99 then (laws_FnMapPut.j1 kj5 t323 t324 true t320 t326 t329 t330) else (if t324 < 0 then (laws_FnMapPut.j1 kj5 t323 t324 true t320 t326 t329 t330) else (laws_FnMapPut.j1 kj5 t323 t324 (decide (t324 > 999)) t320 t326 t329 t330)))) = some r := by rw [if_pos rfl] at H; exact H
              clear H
              have H := H1
              clear H1
              by_cases c54 : t323 < 0
              · rw [if_pos c54] at H
                have c54b0 : decide (t323 < 0) = true := decide_eq_true c54
                clear c54
                (first | rw [c54b0] | (simp only [i64_w, i32_w]; rw [c54b0]) | skip)
                have H' := aS_ H
                clear H
                have hnb55 := NB325_331.out
                have hnc55 := NB331_325.out
                have hnb56 := NB325_332.out
                have hnc56 := NB332_325.out
                have hnb57 := NB325_338.out
                have hnc57 := NB338_325.out
                have hnb58 := NB325_339.out
                have hnc58 := NB339_325.out
                have hcz59_0 : wc.cell? ⟨gb325, 0, none⟩ = some (.slice Ao9 t320.length co9) := (blk_cell BK325.out 0).trans rfl
                have hfz59_0 := blk_frozen BK325.out 0
                go_wp2_with (first | ((with_reducible refine gate_callee (f := 15) rfl ?_); refine goesL_ (some 53) rfl rfl Try.func15 (by kernel_rfl) rfl #[.agg #[.slice Ao9 t320.length co9]] rfl (by (try simp only [List.map_toArray, List.map_cons, List.map_nil]); first | done | rfl | (simp only [List.length_drop, List.length_take]; rfl)) ?_; (with_reducible refine (spec_MapOk.calls kj5 _ _ t320 true _ ?side1 ?side2 A52.out).mono ?_); (case side1 => repeat (first | exact (Kd.R_reads' HO_326000.out).2.2 | (with_reducible refine Kd.C_alloc ?_ _) | (with_reducible refine Kd.C_drewN ?_ _) | (with_reducible refine Kd.C_drew ?_))); (case side2 => exact (Kd.R_reads' HO_326000.out).2.1); rintro e w60 ⟨rfl, hb⟩; refine ⟨_, rfl, ?_⟩; have n0_ := aS_ (Kd.R_below (by (with_reducible repeat (first | apply rA_ | apply rN_ | apply rD_)); exact HO_326000.out) hb); have n1_ := aS_ (Kd.R_below (by (with_reducible repeat (first | apply rA_ | apply rN_ | apply rD_)); exact HO_332000.out) hb); have n2_ := aS_ (Kd.R_below (by (with_reducible repeat (first | apply rA_ | apply rN_ | apply rD_)); exact HO_339000.out) hb); have n3_ := aS_ (blk_below (g := gb325) (o := .cells #[.slice Ao9 t320.length co9] 25 (0, 0)) (by (with_reducible repeat (first | refine kN_ ?_ _ | refine kD_ ?_ | refine kA_ ?_ _)); exact BK325.out) hb); have n4_ := aS_ (blk_below (g := gb331) (o := .cells #[.slice Ao14 t326.length co14] 25 (0, 0)) (by (with_reducible repeat (first | refine kN_ ?_ _ | refine kD_ ?_ | refine kA_ ?_ _)); exact BK331.out) hb); have n5_ := aS_ (blk_below (g := gb332) (o := .cells #[.int .i64 t329, .int .i64 t330] 29 (0, 0)) (by (with_reducible repeat (first | refine kN_ ?_ _ | refine kD_ ?_ | refine kA_ ?_ _)); exact BK332.out) hb); have n6_ := aS_ (blk_below (g := gb338) (o := .cells #[.slice Ao24 t333.length co24] 25 (0, 0)) (by (with_reducible repeat (first | refine kN_ ?_ _ | refine kD_ ?_ | refine kA_ ?_ _)); exact BK338.out) hb); have n7_ := aS_ (blk_below (g := gb339) (o := .cells #[.int .i64 t336, .int .i64 t337] 29 (0, 0)) (by (with_reducible repeat (first | refine kN_ ?_ _ | refine kD_ ?_ | refine kA_ ?_ _)); exact BK339.out) hb); have n8_ := aS_ (below_step (by repeat (first | (with_reducible first | exact HB.out | apply bA_ | apply bN_ | apply bD_ | refine below_set ?_ GE325.out | refine below_set ?_ GE331.out | refine below_set ?_ GE332.out | refine below_set ?_ GE338.out | refine below_set ?_ GE339.out) | exact HB.out)) hb); clear HO_326000; clear HO_332000; clear HO_339000; clear BK325; clear BK331; clear BK332; clear BK338; clear BK339; clear HB; have HO_326000 := n0_; have HO_332000 := n1_; have HO_339000 := n2_; have BK325 := n3_; have BK331 := n4_; have BK332 := n5_; have BK338 := n6_; have BK339 := n7_; have HB := n8_; clear n0_ n1_ n2_ n3_ n4_ n5_ n6_ n7_ n8_; (try clear hb); (try clear hb2); (try clear hk); (try clear hi)))
                go_meet
                case rel => exact ⟨_, (true), (by first | rfl | (simp; done) | (simp [*]; done)), H', ⟨by have := HJ5.out; first | omega | exact Nat.le_refl _⟩, ⟨by (with_reducible repeat (first | apply rA_ | apply rN_ | apply rD_)); exact HO_326000.out⟩, ⟨by (with_reducible repeat (first | apply rA_ | apply rN_ | apply rD_)); exact HO_332000.out⟩, ⟨by (with_reducible repeat (first | apply rA_ | apply rN_ | apply rD_)); exact HO_339000.out⟩, ⟨by (with_reducible repeat (first | refine kN_ ?_ _ | refine kD_ ?_ | refine kA_ ?_ _)); exact BK325.out⟩, ⟨by (with_reducible repeat (first | refine kN_ ?_ _ | refine kD_ ?_ | refine kA_ ?_ _)); exact BK331.out⟩, ⟨by (with_reducible repeat (first | refine kN_ ?_ _ | refine kD_ ?_ | refine kA_ ?_ _)); exact BK332.out⟩, ⟨by (with_reducible repeat (first | refine kN_ ?_ _ | refine kD_ ?_ | refine kA_ ?_ _)); exact BK338.out⟩, ⟨by (with_reducible repeat (first | refine kN_ ?_ _ | refine kD_ ?_ | refine kA_ ?_ _)); exact BK339.out⟩, ⟨by repeat (first | (with_reducible first | exact HB.out | apply bA_ | apply bN_ | apply bD_ | refine below_set ?_ GE325.out | refine below_set ?_ GE331.out | refine below_set ?_ GE332.out | refine below_set ?_ GE338.out | refine below_set ?_ GE339.out) | exact HB.out)⟩⟩
              · rw [if_neg c54] at H
                have c54b0 : decide (t323 < 0) = false := decide_eq_false c54
                clear c54
                (first | rw [c54b0] | (simp only [i64_w, i32_w]; rw [c54b0]) | skip)
                by_cases c61 : t323 > 99
                · rw [if_pos c61] at H
                  have c61b0 : decide (99 < t323) = true := decide_eq_true c61
                  clear c61
                  have H' := aS_ H
                  clear H
                  have hnb62 := NB325_331.out
                  have hnc62 := NB331_325.out
                  have hnb63 := NB325_332.out
                  have hnc63 := NB332_325.out
                  have hnb64 := NB325_338.out
                  have hnc64 := NB338_325.out
                  have hnb65 := NB325_339.out
                  have hnc65 := NB339_325.out
                  have hcz66_0 : wc.cell? ⟨gb325, 0, none⟩ = some (.slice Ao9 t320.length co9) := (blk_cell BK325.out 0).trans rfl
                  have hfz66_0 := blk_frozen BK325.out 0
                  go_wp2_with (first | ((with_reducible refine gate_callee (f := 15) rfl ?_); refine goesL_ (some 53) rfl rfl Try.func15 (by kernel_rfl) rfl #[.agg #[.slice Ao9 t320.length co9]] rfl (by (try simp only [List.map_toArray, List.map_cons, List.map_nil]); first | done | rfl | (simp only [List.length_drop, List.length_take]; rfl)) ?_; (with_reducible refine (spec_MapOk.calls kj5 _ _ t320 true _ ?side1 ?side2 A52.out).mono ?_); (case side1 => repeat (first | exact (Kd.R_reads' HO_326000.out).2.2 | (with_reducible refine Kd.C_alloc ?_ _) | (with_reducible refine Kd.C_drewN ?_ _) | (with_reducible refine Kd.C_drew ?_))); (case side2 => exact (Kd.R_reads' HO_326000.out).2.1); rintro e w67 ⟨rfl, hb⟩; refine ⟨_, rfl, ?_⟩; have n0_ := aS_ (Kd.R_below (by (with_reducible repeat (first | apply rA_ | apply rN_ | apply rD_)); exact HO_326000.out) hb); have n1_ := aS_ (Kd.R_below (by (with_reducible repeat (first | apply rA_ | apply rN_ | apply rD_)); exact HO_332000.out) hb); have n2_ := aS_ (Kd.R_below (by (with_reducible repeat (first | apply rA_ | apply rN_ | apply rD_)); exact HO_339000.out) hb); have n3_ := aS_ (blk_below (g := gb325) (o := .cells #[.slice Ao9 t320.length co9] 25 (0, 0)) (by (with_reducible repeat (first | refine kN_ ?_ _ | refine kD_ ?_ | refine kA_ ?_ _)); exact BK325.out) hb); have n4_ := aS_ (blk_below (g := gb331) (o := .cells #[.slice Ao14 t326.length co14] 25 (0, 0)) (by (with_reducible repeat (first | refine kN_ ?_ _ | refine kD_ ?_ | refine kA_ ?_ _)); exact BK331.out) hb); have n5_ := aS_ (blk_below (g := gb332) (o := .cells #[.int .i64 t329, .int .i64 t330] 29 (0, 0)) (by (with_reducible repeat (first | refine kN_ ?_ _ | refine kD_ ?_ | refine kA_ ?_ _)); exact BK332.out) hb); have n6_ := aS_ (blk_below (g := gb338) (o := .cells #[.slice Ao24 t333.length co24] 25 (0, 0)) (by (with_reducible repeat (first | refine kN_ ?_ _ | refine kD_ ?_ | refine kA_ ?_ _)); exact BK338.out) hb); have n7_ := aS_ (blk_below (g := gb339) (o := .cells #[.int .i64 t336, .int .i64 t337] 29 (0, 0)) (by (with_reducible repeat (first | refine kN_ ?_ _ | refine kD_ ?_ | refine kA_ ?_ _)); exact BK339.out) hb); have n8_ := aS_ (below_step (by repeat (first | (with_reducible first | exact HB.out | apply bA_ | apply bN_ | apply bD_ | refine below_set ?_ GE325.out | refine below_set ?_ GE331.out | refine below_set ?_ GE332.out | refine below_set ?_ GE338.out | refine below_set ?_ GE339.out) | exact HB.out)) hb); clear HO_326000; clear HO_332000; clear HO_339000; clear BK325; clear BK331; clear BK332; clear BK338; clear BK339; clear HB; have HO_326000 := n0_; have HO_332000 := n1_; have HO_339000 := n2_; have BK325 := n3_; have BK331 := n4_; have BK332 := n5_; have BK338 := n6_; have BK339 := n7_; have HB := n8_; clear n0_ n1_ n2_ n3_ n4_ n5_ n6_ n7_ n8_; (try clear hb); (try clear hb2); (try clear hk); (try clear hi)))
                  go_meet
                  case rel => exact ⟨_, (true), (by first | rfl | (simp; done) | (simp [*]; done)), H', ⟨by have := HJ5.out; first | omega | exact Nat.le_refl _⟩, ⟨by (with_reducible repeat (first | apply rA_ | apply rN_ | apply rD_)); exact HO_326000.out⟩, ⟨by (with_reducible repeat (first | apply rA_ | apply rN_ | apply rD_)); exact HO_332000.out⟩, ⟨by (with_reducible repeat (first | apply rA_ | apply rN_ | apply rD_)); exact HO_339000.out⟩, ⟨by (with_reducible repeat (first | refine kN_ ?_ _ | refine kD_ ?_ | refine kA_ ?_ _)); exact BK325.out⟩, ⟨by (with_reducible repeat (first | refine kN_ ?_ _ | refine kD_ ?_ | refine kA_ ?_ _)); exact BK331.out⟩, ⟨by (with_reducible repeat (first | refine kN_ ?_ _ | refine kD_ ?_ | refine kA_ ?_ _)); exact BK332.out⟩, ⟨by (with_reducible repeat (first | refine kN_ ?_ _ | refine kD_ ?_ | refine kA_ ?_ _)); exact BK338.out⟩, ⟨by (with_reducible repeat (first | refine kN_ ?_ _ | refine kD_ ?_ | refine kA_ ?_ _)); exact BK339.out⟩, ⟨by repeat (first | (with_reducible first | exact HB.out | apply bA_ | apply bN_ | apply bD_ | refine below_set ?_ GE325.out | refine below_set ?_ GE331.out | refine below_set ?_ GE332.out | refine below_set ?_ GE338.out | refine below_set ?_ GE339.out) | exact HB.out)⟩⟩
                · rw [if_neg c61] at H
                  have c61b0 : decide (99 < t323) = false := decide_eq_false c61
                  clear c61
                  by_cases c68 : t324 < 0
                  · rw [if_pos c68] at H
                    have c68b0 : decide (t324 < 0) = true := decide_eq_true c68
                    clear c68
                    have H' := aS_ H
                    clear H
                    have hnb69 := NB325_331.out
                    have hnc69 := NB331_325.out
                    have hnb70 := NB325_332.out
                    have hnc70 := NB332_325.out
                    have hnb71 := NB325_338.out
                    have hnc71 := NB338_325.out
                    have hnb72 := NB325_339.out
                    have hnc72 := NB339_325.out
                    have hcz73_0 : wc.cell? ⟨gb325, 0, none⟩ = some (.slice Ao9 t320.length co9) := (blk_cell BK325.out 0).trans rfl
                    have hfz73_0 := blk_frozen BK325.out 0
                    go_wp2_with (first | ((with_reducible refine gate_callee (f := 15) rfl ?_); refine goesL_ (some 53) rfl rfl Try.func15 (by kernel_rfl) rfl #[.agg #[.slice Ao9 t320.length co9]] rfl (by (try simp only [List.map_toArray, List.map_cons, List.map_nil]); first | done | rfl | (simp only [List.length_drop, List.length_take]; rfl)) ?_; (with_reducible refine (spec_MapOk.calls kj5 _ _ t320 true _ ?side1 ?side2 A52.out).mono ?_); (case side1 => repeat (first | exact (Kd.R_reads' HO_326000.out).2.2 | (with_reducible refine Kd.C_alloc ?_ _) | (with_reducible refine Kd.C_drewN ?_ _) | (with_reducible refine Kd.C_drew ?_))); (case side2 => exact (Kd.R_reads' HO_326000.out).2.1); rintro e w74 ⟨rfl, hb⟩; refine ⟨_, rfl, ?_⟩; have n0_ := aS_ (Kd.R_below (by (with_reducible repeat (first | apply rA_ | apply rN_ | apply rD_)); exact HO_326000.out) hb); have n1_ := aS_ (Kd.R_below (by (with_reducible repeat (first | apply rA_ | apply rN_ | apply rD_)); exact HO_332000.out) hb); have n2_ := aS_ (Kd.R_below (by (with_reducible repeat (first | apply rA_ | apply rN_ | apply rD_)); exact HO_339000.out) hb); have n3_ := aS_ (blk_below (g := gb325) (o := .cells #[.slice Ao9 t320.length co9] 25 (0, 0)) (by (with_reducible repeat (first | refine kN_ ?_ _ | refine kD_ ?_ | refine kA_ ?_ _)); exact BK325.out) hb); have n4_ := aS_ (blk_below (g := gb331) (o := .cells #[.slice Ao14 t326.length co14] 25 (0, 0)) (by (with_reducible repeat (first | refine kN_ ?_ _ | refine kD_ ?_ | refine kA_ ?_ _)); exact BK331.out) hb); have n5_ := aS_ (blk_below (g := gb332) (o := .cells #[.int .i64 t329, .int .i64 t330] 29 (0, 0)) (by (with_reducible repeat (first | refine kN_ ?_ _ | refine kD_ ?_ | refine kA_ ?_ _)); exact BK332.out) hb); have n6_ := aS_ (blk_below (g := gb338) (o := .cells #[.slice Ao24 t333.length co24] 25 (0, 0)) (by (with_reducible repeat (first | refine kN_ ?_ _ | refine kD_ ?_ | refine kA_ ?_ _)); exact BK338.out) hb); have n7_ := aS_ (blk_below (g := gb339) (o := .cells #[.int .i64 t336, .int .i64 t337] 29 (0, 0)) (by (with_reducible repeat (first | refine kN_ ?_ _ | refine kD_ ?_ | refine kA_ ?_ _)); exact BK339.out) hb); have n8_ := aS_ (below_step (by repeat (first | (with_reducible first | exact HB.out | apply bA_ | apply bN_ | apply bD_ | refine below_set ?_ GE325.out | refine below_set ?_ GE331.out | refine below_set ?_ GE332.out | refine below_set ?_ GE338.out | refine below_set ?_ GE339.out) | exact HB.out)) hb); clear HO_326000; clear HO_332000; clear HO_339000; clear BK325; clear BK331; clear BK332; clear BK338; clear BK339; clear HB; have HO_326000 := n0_; have HO_332000 := n1_; have HO_339000 := n2_; have BK325 := n3_; have BK331 := n4_; have BK332 := n5_; have BK338 := n6_; have BK339 := n7_; have HB := n8_; clear n0_ n1_ n2_ n3_ n4_ n5_ n6_ n7_ n8_; (try clear hb); (try clear hb2); (try clear hk); (try clear hi)))
                    go_meet
                    case rel => exact ⟨_, (true), (by first | rfl | (simp; done) | (simp [*]; done)), H', ⟨by have := HJ5.out; first | omega | exact Nat.le_refl _⟩, ⟨by (with_reducible repeat (first | apply rA_ | apply rN_ | apply rD_)); exact HO_326000.out⟩, ⟨by (with_reducible repeat (first | apply rA_ | apply rN_ | apply rD_)); exact HO_332000.out⟩, ⟨by (with_reducible repeat (first | apply rA_ | apply rN_ | apply rD_)); exact HO_339000.out⟩, ⟨by (with_reducible repeat (first | refine kN_ ?_ _ | refine kD_ ?_ | refine kA_ ?_ _)); exact BK325.out⟩, ⟨by (with_reducible repeat (first | refine kN_ ?_ _ | refine kD_ ?_ | refine kA_ ?_ _)); exact BK331.out⟩, ⟨by (with_reducible repeat (first | refine kN_ ?_ _ | refine kD_ ?_ | refine kA_ ?_ _)); exact BK332.out⟩, ⟨by (with_reducible repeat (first | refine kN_ ?_ _ | refine kD_ ?_ | refine kA_ ?_ _)); exact BK338.out⟩, ⟨by (with_reducible repeat (first | refine kN_ ?_ _ | refine kD_ ?_ | refine kA_ ?_ _)); exact BK339.out⟩, ⟨by repeat (first | (with_reducible first | exact HB.out | apply bA_ | apply bN_ | apply bD_ | refine below_set ?_ GE325.out | refine below_set ?_ GE331.out | refine below_set ?_ GE332.out | refine below_set ?_ GE338.out | refine below_set ?_ GE339.out) | exact HB.out)⟩⟩
                  · rw [if_neg c68] at H
                    have c68b0 : decide (t324 < 0) = false := decide_eq_false c68
                    clear c68
                    have H' := aS_ H
                    clear H
                    have hnb75 := NB325_331.out
                    have hnc75 := NB331_325.out
                    have hnb76 := NB325_332.out
                    have hnc76 := NB332_325.out
                    have hnb77 := NB325_338.out
                    have hnc77 := NB338_325.out
                    have hnb78 := NB325_339.out
                    have hnc78 := NB339_325.out
                    have hcz79_0 : wc.cell? ⟨gb325, 0, none⟩ = some (.slice Ao9 t320.length co9) := (blk_cell BK325.out 0).trans rfl
                    have hfz79_0 := blk_frozen BK325.out 0
                    go_wp2_with (first | ((with_reducible refine gate_callee (f := 15) rfl ?_); refine goesL_ (some 53) rfl rfl Try.func15 (by kernel_rfl) rfl #[.agg #[.slice Ao9 t320.length co9]] rfl (by (try simp only [List.map_toArray, List.map_cons, List.map_nil]); first | done | rfl | (simp only [List.length_drop, List.length_take]; rfl)) ?_; (with_reducible refine (spec_MapOk.calls kj5 _ _ t320 true _ ?side1 ?side2 A52.out).mono ?_); (case side1 => repeat (first | exact (Kd.R_reads' HO_326000.out).2.2 | (with_reducible refine Kd.C_alloc ?_ _) | (with_reducible refine Kd.C_drewN ?_ _) | (with_reducible refine Kd.C_drew ?_))); (case side2 => exact (Kd.R_reads' HO_326000.out).2.1); rintro e w80 ⟨rfl, hb⟩; refine ⟨_, rfl, ?_⟩; have n0_ := aS_ (Kd.R_below (by (with_reducible repeat (first | apply rA_ | apply rN_ | apply rD_)); exact HO_326000.out) hb); have n1_ := aS_ (Kd.R_below (by (with_reducible repeat (first | apply rA_ | apply rN_ | apply rD_)); exact HO_332000.out) hb); have n2_ := aS_ (Kd.R_below (by (with_reducible repeat (first | apply rA_ | apply rN_ | apply rD_)); exact HO_339000.out) hb); have n3_ := aS_ (blk_below (g := gb325) (o := .cells #[.slice Ao9 t320.length co9] 25 (0, 0)) (by (with_reducible repeat (first | refine kN_ ?_ _ | refine kD_ ?_ | refine kA_ ?_ _)); exact BK325.out) hb); have n4_ := aS_ (blk_below (g := gb331) (o := .cells #[.slice Ao14 t326.length co14] 25 (0, 0)) (by (with_reducible repeat (first | refine kN_ ?_ _ | refine kD_ ?_ | refine kA_ ?_ _)); exact BK331.out) hb); have n5_ := aS_ (blk_below (g := gb332) (o := .cells #[.int .i64 t329, .int .i64 t330] 29 (0, 0)) (by (with_reducible repeat (first | refine kN_ ?_ _ | refine kD_ ?_ | refine kA_ ?_ _)); exact BK332.out) hb); have n6_ := aS_ (blk_below (g := gb338) (o := .cells #[.slice Ao24 t333.length co24] 25 (0, 0)) (by (with_reducible repeat (first | refine kN_ ?_ _ | refine kD_ ?_ | refine kA_ ?_ _)); exact BK338.out) hb); have n7_ := aS_ (blk_below (g := gb339) (o := .cells #[.int .i64 t336, .int .i64 t337] 29 (0, 0)) (by (with_reducible repeat (first | refine kN_ ?_ _ | refine kD_ ?_ | refine kA_ ?_ _)); exact BK339.out) hb); have n8_ := aS_ (below_step (by repeat (first | (with_reducible first | exact HB.out | apply bA_ | apply bN_ | apply bD_ | refine below_set ?_ GE325.out | refine below_set ?_ GE331.out | refine below_set ?_ GE332.out | refine below_set ?_ GE338.out | refine below_set ?_ GE339.out) | exact HB.out)) hb); clear HO_326000; clear HO_332000; clear HO_339000; clear BK325; clear BK331; clear BK332; clear BK338; clear BK339; clear HB; have HO_326000 := n0_; have HO_332000 := n1_; have HO_339000 := n2_; have BK325 := n3_; have BK331 := n4_; have BK332 := n5_; have BK338 := n6_; have BK339 := n7_; have HB := n8_; clear n0_ n1_ n2_ n3_ n4_ n5_ n6_ n7_ n8_; (try clear hb); (try clear hb2); (try clear hk); (try clear hi)))
                    go_meet
                    case rel => exact ⟨_, (decide (t324 > 999)), (by first | rfl | (simp; done) | (simp [*]; done)), H', ⟨by have := HJ5.out; first | omega | exact Nat.le_refl _⟩, ⟨by (with_reducible repeat (first | apply rA_ | apply rN_ | apply rD_)); exact HO_326000.out⟩, ⟨by (with_reducible repeat (first | apply rA_ | apply rN_ | apply rD_)); exact HO_332000.out⟩, ⟨by (with_reducible repeat (first | apply rA_ | apply rN_ | apply rD_)); exact HO_339000.out⟩, ⟨by (with_reducible repeat (first | refine kN_ ?_ _ | refine kD_ ?_ | refine kA_ ?_ _)); exact BK325.out⟩, ⟨by (with_reducible repeat (first | refine kN_ ?_ _ | refine kD_ ?_ | refine kA_ ?_ _)); exact BK331.out⟩, ⟨by (with_reducible repeat (first | refine kN_ ?_ _ | refine kD_ ?_ | refine kA_ ?_ _)); exact BK332.out⟩, ⟨by (with_reducible repeat (first | refine kN_ ?_ _ | refine kD_ ?_ | refine kA_ ?_ _)); exact BK338.out⟩, ⟨by (with_reducible repeat (first | refine kN_ ?_ _ | refine kD_ ?_ | refine kA_ ?_ _)); exact BK339.out⟩, ⟨by repeat (first | (with_reducible first | exact HB.out | apply bA_ | apply bN_ | apply bD_ | refine below_set ?_ GE325.out | refine below_set ?_ GE331.out | refine below_set ?_ GE332.out | refine below_set ?_ GE338.out | refine below_set ?_ GE339.out) | exact HB.out)⟩⟩
            · replace c53 := Bool.eq_false_iff.mpr c53
              subst c53
              have H1 : (laws_FnMapPut.j1 kj5 t323 t324 true t320 t326 t329 t330) = some r := by rw [if_neg (show ¬ (false = true) by decide)] at H; exact H
              clear H
              have H := H1
              clear H1
              have H' := aS_ H
              clear H
              have hnb81 := NB325_331.out
              have hnc81 := NB331_325.out
              have hnb82 := NB325_332.out
              have hnc82 := NB332_325.out
              have hnb83 := NB325_338.out
              have hnc83 := NB338_325.out
              have hnb84 := NB325_339.out
              have hnc84 := NB339_325.out
              have hcz85_0 : wc.cell? ⟨gb325, 0, none⟩ = some (.slice Ao9 t320.length co9) := (blk_cell BK325.out 0).trans rfl
              have hfz85_0 := blk_frozen BK325.out 0
              go_wp2_with (first | ((with_reducible refine gate_callee (f := 15) rfl ?_); refine goesL_ (some 53) rfl rfl Try.func15 (by kernel_rfl) rfl #[.agg #[.slice Ao9 t320.length co9]] rfl (by (try simp only [List.map_toArray, List.map_cons, List.map_nil]); first | done | rfl | (simp only [List.length_drop, List.length_take]; rfl)) ?_; (with_reducible refine (spec_MapOk.calls kj5 _ _ t320 false _ ?side1 ?side2 A52.out).mono ?_); (case side1 => repeat (first | exact (Kd.R_reads' HO_326000.out).2.2 | (with_reducible refine Kd.C_alloc ?_ _) | (with_reducible refine Kd.C_drewN ?_ _) | (with_reducible refine Kd.C_drew ?_))); (case side2 => exact (Kd.R_reads' HO_326000.out).2.1); rintro e w86 ⟨rfl, hb⟩; refine ⟨_, rfl, ?_⟩; have n0_ := aS_ (Kd.R_below (by (with_reducible repeat (first | apply rA_ | apply rN_ | apply rD_)); exact HO_326000.out) hb); have n1_ := aS_ (Kd.R_below (by (with_reducible repeat (first | apply rA_ | apply rN_ | apply rD_)); exact HO_332000.out) hb); have n2_ := aS_ (Kd.R_below (by (with_reducible repeat (first | apply rA_ | apply rN_ | apply rD_)); exact HO_339000.out) hb); have n3_ := aS_ (blk_below (g := gb325) (o := .cells #[.slice Ao9 t320.length co9] 25 (0, 0)) (by (with_reducible repeat (first | refine kN_ ?_ _ | refine kD_ ?_ | refine kA_ ?_ _)); exact BK325.out) hb); have n4_ := aS_ (blk_below (g := gb331) (o := .cells #[.slice Ao14 t326.length co14] 25 (0, 0)) (by (with_reducible repeat (first | refine kN_ ?_ _ | refine kD_ ?_ | refine kA_ ?_ _)); exact BK331.out) hb); have n5_ := aS_ (blk_below (g := gb332) (o := .cells #[.int .i64 t329, .int .i64 t330] 29 (0, 0)) (by (with_reducible repeat (first | refine kN_ ?_ _ | refine kD_ ?_ | refine kA_ ?_ _)); exact BK332.out) hb); have n6_ := aS_ (blk_below (g := gb338) (o := .cells #[.slice Ao24 t333.length co24] 25 (0, 0)) (by (with_reducible repeat (first | refine kN_ ?_ _ | refine kD_ ?_ | refine kA_ ?_ _)); exact BK338.out) hb); have n7_ := aS_ (blk_below (g := gb339) (o := .cells #[.int .i64 t336, .int .i64 t337] 29 (0, 0)) (by (with_reducible repeat (first | refine kN_ ?_ _ | refine kD_ ?_ | refine kA_ ?_ _)); exact BK339.out) hb); have n8_ := aS_ (below_step (by repeat (first | (with_reducible first | exact HB.out | apply bA_ | apply bN_ | apply bD_ | refine below_set ?_ GE325.out | refine below_set ?_ GE331.out | refine below_set ?_ GE332.out | refine below_set ?_ GE338.out | refine below_set ?_ GE339.out) | exact HB.out)) hb); clear HO_326000; clear HO_332000; clear HO_339000; clear BK325; clear BK331; clear BK332; clear BK338; clear BK339; clear HB; have HO_326000 := n0_; have HO_332000 := n1_; have HO_339000 := n2_; have BK325 := n3_; have BK331 := n4_; have BK332 := n5_; have BK338 := n6_; have BK339 := n7_; have HB := n8_; clear n0_ n1_ n2_ n3_ n4_ n5_ n6_ n7_ n8_; (try clear hb); (try clear hb2); (try clear hk); (try clear hi)))
              go_meet
              case rel => exact ⟨_, (true), (by first | rfl | (simp; done) | (simp [*]; done)), H', ⟨by have := HJ5.out; first | omega | exact Nat.le_refl _⟩, ⟨by (with_reducible repeat (first | apply rA_ | apply rN_ | apply rD_)); exact HO_326000.out⟩, ⟨by (with_reducible repeat (first | apply rA_ | apply rN_ | apply rD_)); exact HO_332000.out⟩, ⟨by (with_reducible repeat (first | apply rA_ | apply rN_ | apply rD_)); exact HO_339000.out⟩, ⟨by (with_reducible repeat (first | refine kN_ ?_ _ | refine kD_ ?_ | refine kA_ ?_ _)); exact BK325.out⟩, ⟨by (with_reducible repeat (first | refine kN_ ?_ _ | refine kD_ ?_ | refine kA_ ?_ _)); exact BK331.out⟩, ⟨by (with_reducible repeat (first | refine kN_ ?_ _ | refine kD_ ?_ | refine kA_ ?_ _)); exact BK332.out⟩, ⟨by (with_reducible repeat (first | refine kN_ ?_ _ | refine kD_ ?_ | refine kA_ ?_ _)); exact BK338.out⟩, ⟨by (with_reducible repeat (first | refine kN_ ?_ _ | refine kD_ ?_ | refine kA_ ?_ _)); exact BK339.out⟩, ⟨by repeat (first | (with_reducible first | exact HB.out | apply bA_ | apply bN_ | apply bD_ | refine below_set ?_ GE325.out | refine below_set ?_ GE331.out | refine below_set ?_ GE332.out | refine below_set ?_ GE338.out | refine below_set ?_ GE339.out) | exact HB.out)⟩⟩
          case rest =>
            clear HC51
            try clear c1
            try clear p2
            try clear c3
            try clear c5
            try clear c6
            try clear c7
            try clear c8
            try clear c14
            try clear c15
            try clear c17
            try clear c35
            try clear c36
            try clear c36b0
            try clear c50
            try clear c53
            try clear c54
            try clear c54b0
            try clear c55
            try clear c56
            try clear c57
            try clear c58
            try clear c61
            try clear c61b0
            try clear c62
            try clear c63
            try clear c64
            try clear c65
            try clear c68
            try clear c68b0
            try clear c69
            try clear c70
            try clear c71
            try clear c72
            try clear c75
            try clear c76
            try clear c77
            try clear c78
            try clear c81
            try clear c82
            try clear c83
            try clear c84
            try clear hcz59_0
            try clear hcz66_0
            try clear hcz73_0
            try clear hcz79_0
            try clear hcz85_0
            try clear hfz59_0
            try clear hfz66_0
            try clear hfz73_0
            try clear hfz79_0
            try clear hfz85_0
            try clear p2
            obtain ⟨kq, x70_50, rfl, HA, HJ50, HO_326000, HO_332000, HO_339000, BK325, BK331, BK332, BK338, BK339, HB⟩ := hcut
            cases kq with
            | zero => exact absurd HA.out (by simp [laws_FnMapPut.j1])
            | succ kj50 =>
              have H := HA.out
              clear HA
              simp only [laws_FnMapPut.j1] at H
              by_cases c87 : x70_50 = true
              · subst c87
                have H1 : (if t329 = 0 then (if (t326.length : Int) = 0 then ((laws_tgOk.f kj50).bind fun t344 => (some t344)) else (some false)) else (some false)) = some r := by rw [if_pos rfl] at H; exact H
                clear H
                have H := H1
                clear H1
                by_cases c88 : t329 = 0
                · rw [if_pos c88] at H
                  have c88b0 : (t329 == 0) = true := beq_iff_eq.mpr c88
                  have c88b1 : (t329 != 0) = false := bne_eq_false_iff_eq.mpr c88
                  clear c88
                  by_cases c89 : (t326.length : Int) = 0
                  · rw [if_pos c89] at H
                    have c89b0 : ((t326.length : Int) == 0) = true := beq_iff_eq.mpr c89
                    have c89b1 : ((t326.length : Int) != 0) = false := bne_eq_false_iff_eq.mpr c89
                    clear c89
                    replace H := Option.bind_eq_some_iff.mp H
                    obtain ⟨t344, A900, H⟩ := H
                    replace H : (some t344) = some r := H
                    have A90 := aS_ A900
                    clear A900
                    obtain rfl := Option.some.inj H
                    have hnb91 := NB332_325.out
                    have hnc91 := NB325_332.out
                    have hnb92 := NB332_331.out
                    have hnc92 := NB331_332.out
                    have hnb93 := NB332_338.out
                    have hnc93 := NB338_332.out
                    have hnb94 := NB332_339.out
                    have hnc94 := NB339_332.out
                    have hcz95_0 : wc.cell? ⟨gb332, 0, none⟩ = some (.int .i64 t329) := (blk_cell BK332.out 0).trans rfl
                    have hcz95_1 : wc.cell? ⟨gb332, 1, none⟩ = some (.int .i64 t330) := (blk_cell BK332.out 1).trans rfl
                    have hfz95_0 := blk_frozen BK332.out 0
                    have hfz95_1 := blk_frozen BK332.out 1
                    have hnb96 := NB331_325.out
                    have hnc96 := NB325_331.out
                    have hnb97 := NB331_338.out
                    have hnc97 := NB338_331.out
                    have hnb98 := NB331_339.out
                    have hnc98 := NB339_331.out
                    have hcz99_0 : wc.cell? ⟨gb331, 0, none⟩ = some (.slice Ao14 t326.length co14) := (blk_cell BK331.out 0).trans rfl
                    have hfz99_0 := blk_frozen BK331.out 0
                    go_wp2_with (first | (go_at_call 16; (with_reducible refine (laws_tgOk.calls kj50  t344 _ A90.out).mono ?_); rintro e w100 ⟨rfl, hb⟩; have n0_ := aS_ (Kd.R_below (by (with_reducible repeat (first | apply rA_ | apply rN_ | apply rD_)); exact HO_326000.out) hb); have n1_ := aS_ (Kd.R_below (by (with_reducible repeat (first | apply rA_ | apply rN_ | apply rD_)); exact HO_332000.out) hb); have n2_ := aS_ (Kd.R_below (by (with_reducible repeat (first | apply rA_ | apply rN_ | apply rD_)); exact HO_339000.out) hb); have n3_ := aS_ (blk_below (g := gb325) (o := .cells #[.slice Ao9 t320.length co9] 25 (0, 0)) (by (with_reducible repeat (first | refine kN_ ?_ _ | refine kD_ ?_ | refine kA_ ?_ _)); exact BK325.out) hb); have n4_ := aS_ (blk_below (g := gb331) (o := .cells #[.slice Ao14 t326.length co14] 25 (0, 0)) (by (with_reducible repeat (first | refine kN_ ?_ _ | refine kD_ ?_ | refine kA_ ?_ _)); exact BK331.out) hb); have n5_ := aS_ (blk_below (g := gb332) (o := .cells #[.int .i64 t329, .int .i64 t330] 29 (0, 0)) (by (with_reducible repeat (first | refine kN_ ?_ _ | refine kD_ ?_ | refine kA_ ?_ _)); exact BK332.out) hb); have n6_ := aS_ (blk_below (g := gb338) (o := .cells #[.slice Ao24 t333.length co24] 25 (0, 0)) (by (with_reducible repeat (first | refine kN_ ?_ _ | refine kD_ ?_ | refine kA_ ?_ _)); exact BK338.out) hb); have n7_ := aS_ (blk_below (g := gb339) (o := .cells #[.int .i64 t336, .int .i64 t337] 29 (0, 0)) (by (with_reducible repeat (first | refine kN_ ?_ _ | refine kD_ ?_ | refine kA_ ?_ _)); exact BK339.out) hb); have n8_ := aS_ (below_step (by repeat (first | (with_reducible first | exact HB.out | apply bA_ | apply bN_ | apply bD_ | refine below_set ?_ GE325.out | refine below_set ?_ GE331.out | refine below_set ?_ GE332.out | refine below_set ?_ GE338.out | refine below_set ?_ GE339.out) | exact HB.out)) hb); clear HO_326000; clear HO_332000; clear HO_339000; clear BK325; clear BK331; clear BK332; clear BK338; clear BK339; clear HB; have HO_326000 := n0_; have HO_332000 := n1_; have HO_339000 := n2_; have BK325 := n3_; have BK331 := n4_; have BK332 := n5_; have BK338 := n6_; have BK339 := n7_; have HB := n8_; clear n0_ n1_ n2_ n3_ n4_ n5_ n6_ n7_ n8_; (try clear hb); (try clear hb2); (try clear hk); (try clear hi)))
                    go_ret
                    exact ⟨by first | rfl | (simp [errW_none, errW_some] <;> rfl) | (simp [*, errW_none, errW_some] <;> rfl), by repeat (first | (with_reducible first | exact HB.out | apply bA_ | apply bN_ | apply bD_ | refine below_set ?_ GE325.out | refine below_set ?_ GE331.out | refine below_set ?_ GE332.out | refine below_set ?_ GE338.out | refine below_set ?_ GE339.out) | exact HB.out)⟩
                  · rw [if_neg c89] at H
                    have c89b0 : ((t326.length : Int) == 0) = false := beq_eq_false_iff_ne.mpr c89
                    have c89b1 : ((t326.length : Int) != 0) = true := bne_iff_ne.mpr c89
                    have c89b2 : ¬ (t326 = []) := fun h_ => c89 (by rw [h_]; rfl)
                    exact absurd (Option.some.inj H) (by rw [HT.out]; decide)
                · rw [if_neg c88] at H
                  have c88b0 : (t329 == 0) = false := beq_eq_false_iff_ne.mpr c88
                  have c88b1 : (t329 != 0) = true := bne_iff_ne.mpr c88
                  exact absurd (Option.some.inj H) (by rw [HT.out]; decide)
              · replace c87 := Bool.eq_false_iff.mpr c87
                subst c87
                have H1 : ((impl_MapOk.f kj50 t326).bind fun t345 => (if t345 = true then ((impl_MapGet.f kj50 t320 t323).bind fun bt346 => (if t329 = 2 then (laws_FnMapPut.l0 kj50 t323 t324 (bt346.1 == 2) 0 t320 t326) else ((laws_tgMap.f kj50 t326 t320).bind fun t348 => (if t348 = true then (if ((t329 == 1) == (bt346.1 == 2)) = true then (if bt346.1 = 2 then (some ((t329 == 3) == false)) else (some ((t329 == 3) == ((t320.length : Int) == 8)))) else (some false)) else (some false))))) else (some false))) = some r := by rw [if_neg (show ¬ (false = true) by decide)] at H; exact H
                clear H
                have H := H1
                clear H1
                replace H := Option.bind_eq_some_iff.mp H
                obtain ⟨t345, A1010, H⟩ := H
                replace H : (if t345 = true then ((impl_MapGet.f kj50 t320 t323).bind fun bt346 => (if t329 = 2 then (laws_FnMapPut.l0 kj50 t323 t324 (bt346.1 == 2) 0 t320 t326) else ((laws_tgMap.f kj50 t326 t320).bind fun t348 => (if t348 = true then (if ((t329 == 1) == (bt346.1 == 2)) = true then (if bt346.1 = 2 then (some ((t329 == 3) == false)) else (some ((t329 == 3) == ((t320.length : Int) == 8)))) else (some false)) else (some false))))) else (some false)) = some r := H
                have A101 := aS_ A1010
                clear A1010
                by_cases c102 : t345 = true
                · subst c102
                  have H1 : ((impl_MapGet.f kj50 t320 t323).bind fun bt346 => (if t329 = 2 then (laws_FnMapPut.l0 kj50 t323 t324 (bt346.1 == 2) 0 t320 t326) else ((laws_tgMap.f kj50 t326 t320).bind fun t348 => (if t348 = true then (if ((t329 == 1) == (bt346.1 == 2)) = true then (if bt346.1 = 2 then (some ((t329 == 3) == false)) else (some ((t329 == 3) == ((t320.length : Int) == 8)))) else (some false)) else (some false))))) = some r := by rw [if_pos rfl] at H; exact H
                  clear H
                  have H := H1
                  clear H1
                  replace H := Option.bind_eq_some_iff.mp H
                  obtain ⟨⟨t346, t347⟩, A1030, H⟩ := H
                  replace H : (if t329 = 2 then (laws_FnMapPut.l0 kj50 t323 t324 (t346 == 2) 0 t320 t326) else ((laws_tgMap.f kj50 t326 t320).bind fun t348 => (if t348 = true then (if ((t329 == 1) == (t346 == 2)) = true then (if t346 = 2 then (some ((t329 == 3) == false)) else (some ((t329 == 3) == ((t320.length : Int) == 8)))) else (some false)) else (some false)))) = some r := H
                  have A103 := aS_ A1030
                  clear A1030
                  by_cases c104 : t329 = 2
                  · rw [if_pos c104] at H
                    have c104b0 : (t329 == 2) = true := beq_iff_eq.mpr c104
                    have c104b1 : (t329 != 2) = false := bne_eq_false_iff_eq.mpr c104
                    clear c104
                    have H' := aS_ H
                    clear H
                    have hnb105 := NB331_325.out
                    have hnc105 := NB325_331.out
                    have hnb106 := NB331_332.out
                    have hnc106 := NB332_331.out
                    have hnb107 := NB331_338.out
                    have hnc107 := NB338_331.out
                    have hnb108 := NB331_339.out
                    have hnc108 := NB339_331.out
                    have hcz109_0 : wc.cell? ⟨gb331, 0, none⟩ = some (.slice Ao14 t326.length co14) := (blk_cell BK331.out 0).trans rfl
                    have hfz109_0 := blk_frozen BK331.out 0
                    go_wp2_with (first | ((with_reducible refine gate_callee (f := 17) rfl ?_); refine goesL_ (some 84) rfl rfl Try.func17 (by kernel_rfl) rfl #[.agg #[.slice Ao14 t326.length co14]] rfl (by (try simp only [List.map_toArray, List.map_cons, List.map_nil]); first | done | rfl | (simp only [List.length_drop, List.length_take]; rfl)) ?_; (with_reducible refine (impl_MapOk.calls kj50 _ _ t326 true _ ?side1 ?side2 A101.out).mono ?_); (case side1 => repeat (first | exact (Kd.R_reads' HO_332000.out).2.2 | (with_reducible refine Kd.C_alloc ?_ _) | (with_reducible refine Kd.C_drewN ?_ _) | (with_reducible refine Kd.C_drew ?_))); (case side2 => exact (Kd.R_reads' HO_332000.out).2.1); rintro e w110 ⟨rfl, hb⟩; refine ⟨_, rfl, ?_⟩; have n0_ := aS_ (Kd.R_below (by (with_reducible repeat (first | apply rA_ | apply rN_ | apply rD_)); exact HO_326000.out) hb); have n1_ := aS_ (Kd.R_below (by (with_reducible repeat (first | apply rA_ | apply rN_ | apply rD_)); exact HO_332000.out) hb); have n2_ := aS_ (Kd.R_below (by (with_reducible repeat (first | apply rA_ | apply rN_ | apply rD_)); exact HO_339000.out) hb); have n3_ := aS_ (blk_below (g := gb325) (o := .cells #[.slice Ao9 t320.length co9] 25 (0, 0)) (by (with_reducible repeat (first | refine kN_ ?_ _ | refine kD_ ?_ | refine kA_ ?_ _)); exact BK325.out) hb); have n4_ := aS_ (blk_below (g := gb331) (o := .cells #[.slice Ao14 t326.length co14] 25 (0, 0)) (by (with_reducible repeat (first | refine kN_ ?_ _ | refine kD_ ?_ | refine kA_ ?_ _)); exact BK331.out) hb); have n5_ := aS_ (blk_below (g := gb332) (o := .cells #[.int .i64 t329, .int .i64 t330] 29 (0, 0)) (by (with_reducible repeat (first | refine kN_ ?_ _ | refine kD_ ?_ | refine kA_ ?_ _)); exact BK332.out) hb); have n6_ := aS_ (blk_below (g := gb338) (o := .cells #[.slice Ao24 t333.length co24] 25 (0, 0)) (by (with_reducible repeat (first | refine kN_ ?_ _ | refine kD_ ?_ | refine kA_ ?_ _)); exact BK338.out) hb); have n7_ := aS_ (blk_below (g := gb339) (o := .cells #[.int .i64 t336, .int .i64 t337] 29 (0, 0)) (by (with_reducible repeat (first | refine kN_ ?_ _ | refine kD_ ?_ | refine kA_ ?_ _)); exact BK339.out) hb); have n8_ := aS_ (below_step (by repeat (first | (with_reducible first | exact HB.out | apply bA_ | apply bN_ | apply bD_ | refine below_set ?_ GE325.out | refine below_set ?_ GE331.out | refine below_set ?_ GE332.out | refine below_set ?_ GE338.out | refine below_set ?_ GE339.out) | exact HB.out)) hb); clear HO_326000; clear HO_332000; clear HO_339000; clear BK325; clear BK331; clear BK332; clear BK338; clear BK339; clear HB; have HO_326000 := n0_; have HO_332000 := n1_; have HO_339000 := n2_; have BK325 := n3_; have BK331 := n4_; have BK332 := n5_; have BK338 := n6_; have BK339 := n7_; have HB := n8_; clear n0_ n1_ n2_ n3_ n4_ n5_ n6_ n7_ n8_; (try clear hb); (try clear hb2); (try clear hk); (try clear hi); have hnb111 := NB325_332.out; have hnc111 := NB332_325.out; have hnb112 := NB325_338.out; have hnc112 := NB338_325.out; have hnb113 := NB325_339.out; have hnc113 := NB339_325.out; have hcz114_0 : w110.cell? ⟨gb325, 0, none⟩ = some (.slice Ao9 t320.length co9) := (blk_cell BK325.out 0).trans rfl; have hfz114_0 := blk_frozen BK325.out 0) | ((with_reducible refine gate_callee (f := 18) rfl ?_); refine goesL_ (some 88) rfl rfl Try.func18 (by kernel_rfl) rfl #[.agg #[.slice Ao9 t320.length co9], .int .i64 t323] rfl (by (try simp only [List.map_toArray, List.map_cons, List.map_nil]); first | done | rfl | (simp only [List.length_drop, List.length_take]; rfl)) ?_; (with_reducible refine (impl_MapGet.calls kj50 _ _ t320 t323 t346 t347 _ ?side1 ?side2 A103.out).mono ?_); (case side1 => repeat (first | exact (Kd.R_reads' HO_326000.out).2.2 | (with_reducible refine Kd.C_alloc ?_ _) | (with_reducible refine Kd.C_drewN ?_ _) | (with_reducible refine Kd.C_drew ?_))); (case side2 => exact (Kd.R_reads' HO_326000.out).2.1); rintro e w115 ⟨rfl, hb⟩; refine ⟨_, rfl, ?_⟩; have n0_ := aS_ (Kd.R_below (by (with_reducible repeat (first | apply rA_ | apply rN_ | apply rD_)); exact HO_326000.out) hb); have n1_ := aS_ (Kd.R_below (by (with_reducible repeat (first | apply rA_ | apply rN_ | apply rD_)); exact HO_332000.out) hb); have n2_ := aS_ (Kd.R_below (by (with_reducible repeat (first | apply rA_ | apply rN_ | apply rD_)); exact HO_339000.out) hb); have n3_ := aS_ (blk_below (g := gb325) (o := .cells #[.slice Ao9 t320.length co9] 25 (0, 0)) (by (with_reducible repeat (first | refine kN_ ?_ _ | refine kD_ ?_ | refine kA_ ?_ _)); exact BK325.out) hb); have n4_ := aS_ (blk_below (g := gb331) (o := .cells #[.slice Ao14 t326.length co14] 25 (0, 0)) (by (with_reducible repeat (first | refine kN_ ?_ _ | refine kD_ ?_ | refine kA_ ?_ _)); exact BK331.out) hb); have n5_ := aS_ (blk_below (g := gb332) (o := .cells #[.int .i64 t329, .int .i64 t330] 29 (0, 0)) (by (with_reducible repeat (first | refine kN_ ?_ _ | refine kD_ ?_ | refine kA_ ?_ _)); exact BK332.out) hb); have n6_ := aS_ (blk_below (g := gb338) (o := .cells #[.slice Ao24 t333.length co24] 25 (0, 0)) (by (with_reducible repeat (first | refine kN_ ?_ _ | refine kD_ ?_ | refine kA_ ?_ _)); exact BK338.out) hb); have n7_ := aS_ (blk_below (g := gb339) (o := .cells #[.int .i64 t336, .int .i64 t337] 29 (0, 0)) (by (with_reducible repeat (first | refine kN_ ?_ _ | refine kD_ ?_ | refine kA_ ?_ _)); exact BK339.out) hb); have n8_ := aS_ (below_step (by repeat (first | (with_reducible first | exact HB.out | apply bA_ | apply bN_ | apply bD_ | refine below_set ?_ GE325.out | refine below_set ?_ GE331.out | refine below_set ?_ GE332.out | refine below_set ?_ GE338.out | refine below_set ?_ GE339.out) | exact HB.out)) hb); clear HO_326000; clear HO_332000; clear HO_339000; clear BK325; clear BK331; clear BK332; clear BK338; clear BK339; clear HB; have HO_326000 := n0_; have HO_332000 := n1_; have HO_339000 := n2_; have BK325 := n3_; have BK331 := n4_; have BK332 := n5_; have BK338 := n6_; have BK339 := n7_; have HB := n8_; clear n0_ n1_ n2_ n3_ n4_ n5_ n6_ n7_ n8_; (try clear hb); (try clear hb2); (try clear hk); (try clear hi); have hnb116 := NB332_338.out; have hnc116 := NB338_332.out; have hnb117 := NB332_339.out; have hnc117 := NB339_332.out; have hcz118_0 : w115.cell? ⟨gb332, 0, none⟩ = some (.int .i64 t329) := (blk_cell BK332.out 0).trans rfl; have hcz118_1 : w115.cell? ⟨gb332, 1, none⟩ = some (.int .i64 t330) := (blk_cell BK332.out 1).trans rfl; have hfz118_0 := blk_frozen BK332.out 0; have hfz118_1 := blk_frozen BK332.out 1))
                    go_loopg [11] kj50 (fun kq v11 w' => ∃ (x11_3 : Int), v11 = .int .i64 x11_3 ∧ Aside0 (laws_FnMapPut.l0 kq t323 t324 (t346 == 2) x11_3 t320 t326 = some r) ∧ Aside0 (kq ≤ kj50) ∧ Aside0 (Kd.R k39 39 w' w.heap.size (fun k_ => some k_ ≠ ((.slice Ao14 t326.length co14) : Value).ownBlock ∧ some k_ ≠ ((.slice Ao24 t333.length co24) : Value).ownBlock) (.slice Ao9 t320.length co9) t320) ∧ Aside0 (Kd.R k39 39 w' w.heap.size (fun k_ => some k_ ≠ ((.slice Ao9 t320.length co9) : Value).ownBlock ∧ some k_ ≠ ((.slice Ao24 t333.length co24) : Value).ownBlock) (.slice Ao14 t326.length co14) t326) ∧ Aside0 (Kd.R k39 39 w' w.heap.size (fun k_ => some k_ ≠ ((.slice Ao9 t320.length co9) : Value).ownBlock ∧ some k_ ≠ ((.slice Ao14 t326.length co14) : Value).ownBlock) (.slice Ao24 t333.length co24) t333) ∧ Aside0 (w'.heap[gb325]? = some (.cells #[(.slice Ao9 t320.length co9)] 25 (0, 0))) ∧ Aside0 (w'.heap[gb331]? = some (.cells #[(.slice Ao14 t326.length co14)] 25 (0, 0))) ∧ Aside0 (w'.heap[gb332]? = some (.cells #[.int .i64 t329, .int .i64 t330] 29 (0, 0))) ∧ Aside0 (w'.heap[gb338]? = some (.cells #[(.slice Ao24 t333.length co24)] 25 (0, 0))) ∧ Aside0 (w'.heap[gb339]? = some (.cells #[.int .i64 t336, .int .i64 t337] 29 (0, 0))) ∧ Aside0 (Below w.heap.size w w'))
                    case atStart => exact ⟨(0), (by first | rfl | (simp; done) | (simp [*]; done)), H', ⟨Nat.le_refl _⟩, ⟨by (with_reducible repeat (first | apply rA_ | apply rN_ | apply rD_)); exact HO_326000.out⟩, ⟨by (with_reducible repeat (first | apply rA_ | apply rN_ | apply rD_)); exact HO_332000.out⟩, ⟨by (with_reducible repeat (first | apply rA_ | apply rN_ | apply rD_)); exact HO_339000.out⟩, ⟨by (with_reducible repeat (first | refine kN_ ?_ _ | refine kD_ ?_ | refine kA_ ?_ _)); exact BK325.out⟩, ⟨by (with_reducible repeat (first | refine kN_ ?_ _ | refine kD_ ?_ | refine kA_ ?_ _)); exact BK331.out⟩, ⟨by (with_reducible repeat (first | refine kN_ ?_ _ | refine kD_ ?_ | refine kA_ ?_ _)); exact BK332.out⟩, ⟨by (with_reducible repeat (first | refine kN_ ?_ _ | refine kD_ ?_ | refine kA_ ?_ _)); exact BK338.out⟩, ⟨by (with_reducible repeat (first | refine kN_ ?_ _ | refine kD_ ?_ | refine kA_ ?_ _)); exact BK339.out⟩, ⟨by repeat (first | (with_reducible first | exact HB.out | apply bA_ | apply bN_ | apply bD_ | refine below_set ?_ GE325.out | refine below_set ?_ GE331.out | refine below_set ?_ GE332.out | refine below_set ?_ GE338.out | refine below_set ?_ GE339.out) | exact HB.out)⟩⟩
                    case round =>
                      clear H'
                      try clear c1
                      try clear p2
                      try clear c3
                      try clear c5
                      try clear c6
                      try clear c7
                      try clear c8
                      try clear c9
                      try clear c10
                      try clear c11
                      try clear c14
                      try clear c15
                      try clear c17
                      try clear c18
                      try clear c35
                      try clear c36
                      try clear c36b0
                      try clear c50
                      try clear c53
                      try clear c54
                      try clear c54b0
                      try clear c55
                      try clear c56
                      try clear c57
                      try clear c58
                      try clear c61
                      try clear c61b0
                      try clear c62
                      try clear c63
                      try clear c64
                      try clear c65
                      try clear c68
                      try clear c68b0
                      try clear c69
                      try clear c70
                      try clear c71
                      try clear c72
                      try clear c75
                      try clear c76
                      try clear c77
                      try clear c78
                      try clear c81
                      try clear c82
                      try clear c83
                      try clear c84
                      try clear c87
                      try clear c88
                      try clear c88b0
                      try clear c88b1
                      try clear c89
                      try clear c89b0
                      try clear c89b1
                      try clear c89b2
                      try clear c91
                      try clear c92
                      try clear c93
                      try clear c94
                      try clear c96
                      try clear c97
                      try clear c98
                      try clear c102
                      try clear c104
                      try clear c104b0
                      try clear c104b1
                      try clear c105
                      try clear c106
                      try clear c107
                      try clear c108
                      try clear c111
                      try clear c112
                      try clear c113
                      try clear c116
                      try clear c117
                      try clear hcz109_0
                      try clear hcz114_0
                      try clear hcz118_0
                      try clear hcz118_1
                      try clear hcz59_0
                      try clear hcz66_0
                      try clear hcz73_0
                      try clear hcz79_0
                      try clear hcz85_0
                      try clear hcz95_0
                      try clear hcz95_1
                      try clear hcz99_0
                      try clear hfz109_0
                      try clear hfz114_0
                      try clear hfz118_0
                      try clear hfz118_1
                      try clear hfz59_0
                      try clear hfz66_0
                      try clear hfz73_0
                      try clear hfz79_0
                      try clear hfz85_0
                      try clear hfz95_0
                      try clear hfz95_1
                      try clear hfz99_0
                      try clear p2
                      obtain ⟨x11_3, rfl, HA, HK3, HO_326000, HO_332000, HO_339000, BK325, BK331, BK332, BK338, BK339, HB⟩ := hrel
                      cases gk with
                      | zero => exact absurd HA.out (by simp [laws_FnMapPut.l0])
                      | succ k3 =>
                        have H := HA.out
                        clear HA
                        simp only [laws_FnMapPut.l0] at H
                        by_cases c119 : x11_3 ≤ 99
                        · rw [if_pos c119] at H
                          have c119b0 : decide (x11_3 ≤ 99) = true := decide_eq_true c119
                          clear c119
                          replace H := Option.bind_eq_some_iff.mp H
                          obtain ⟨⟨t349, t350⟩, A1200, H⟩ := H
                          replace H : (if x11_3 = t323 then ((impl_MapGet.f k3 t326 x11_3).bind fun bt352 => (if (!(bt352.1 == 2) || (!(bt352.2 == t324))) = true then (some false) else (laws_FnMapPut.l0 k3 t323 t324 (t346 == 2) (wrap64 (x11_3 + 1)) t320 t326))) else ((impl_MapGet.f k3 t326 x11_3).bind fun bt354 => (if (!(bt354.1 == t349) || (!(bt354.2 == t350))) = true then (some false) else (laws_FnMapPut.l0 k3 t323 t324 (t346 == 2) (wrap64 (x11_3 + 1)) t320 t326)))) = some r := H
                          have A120 := aS_ A1200
                          clear A1200
                          by_cases c121 : x11_3 = t323
                          · rw [if_pos c121] at H
                            have c121b0 : (x11_3 == t323) = true := beq_iff_eq.mpr c121
                            have c121b1 : (x11_3 != t323) = false := bne_eq_false_iff_eq.mpr c121
                            clear c121
                            replace H := Option.bind_eq_some_iff.mp H
                            obtain ⟨⟨t352, t353⟩, A1220, H⟩ := H
                            replace H : (if (!(t352 == 2) || (!(t353 == t324))) = true then (some false) else (laws_FnMapPut.l0 k3 t323 t324 (t346 == 2) (wrap64 (x11_3 + 1)) t320 t326)) = some r := H
                            have A122 := aS_ A1220
                            clear A1220
                            by_cases c123 : (!(t352 == 2) || (!(t353 == t324))) = true
                            · rw [if_pos c123] at H
                              have c123b0 : (!(t352 == 2) || (!(t353 == t324))) = true := c123
                              clear c123
                              exact absurd (Option.some.inj H) (by rw [HT.out]; decide)
                            · rw [if_neg c123] at H
                              have c123b0 : (!(t352 == 2) || (!(t353 == t324))) = false := by simpa using c123
                              clear c123
                              have H' := aS_ H
                              clear H
                              have hnb124 := NB325_331.out
                              have hnc124 := NB331_325.out
                              have hnb125 := NB325_332.out
                              have hnc125 := NB332_325.out
                              have hnb126 := NB325_338.out
                              have hnc126 := NB338_325.out
                              have hnb127 := NB325_339.out
                              have hnc127 := NB339_325.out
                              have hcz128_0 : wr.cell? ⟨gb325, 0, none⟩ = some (.slice Ao9 t320.length co9) := (blk_cell BK325.out 0).trans rfl
                              have hfz128_0 := blk_frozen BK325.out 0
                              try go_wp2_with (first | ((with_reducible refine gate_callee (f := 18) rfl ?_); refine goesL_ (some 124) rfl rfl Try.func18 (by kernel_rfl) rfl #[.agg #[.slice Ao9 t320.length co9], .int .i64 x11_3] rfl (by (try simp only [List.map_toArray, List.map_cons, List.map_nil]); first | done | rfl | (simp only [List.length_drop, List.length_take]; rfl)) ?_; (with_reducible refine (impl_MapGet.calls k3 _ _ t320 x11_3 t349 t350 _ ?side1 ?side2 A120.out).mono ?_); (case side1 => repeat (first | exact (Kd.R_reads' HO_326000.out).2.2 | (with_reducible refine Kd.C_alloc ?_ _) | (with_reducible refine Kd.C_drewN ?_ _) | (with_reducible refine Kd.C_drew ?_))); (case side2 => exact (Kd.R_reads' HO_326000.out).2.1); rintro e w129 ⟨rfl, hb⟩; refine ⟨_, rfl, ?_⟩; have n0_ := aS_ (Kd.R_below (by (with_reducible repeat (first | apply rA_ | apply rN_ | apply rD_)); exact HO_326000.out) hb); have n1_ := aS_ (Kd.R_below (by (with_reducible repeat (first | apply rA_ | apply rN_ | apply rD_)); exact HO_332000.out) hb); have n2_ := aS_ (Kd.R_below (by (with_reducible repeat (first | apply rA_ | apply rN_ | apply rD_)); exact HO_339000.out) hb); have n3_ := aS_ (blk_below (g := gb325) (o := .cells #[.slice Ao9 t320.length co9] 25 (0, 0)) (by (with_reducible repeat (first | refine kN_ ?_ _ | refine kD_ ?_ | refine kA_ ?_ _)); exact BK325.out) hb); have n4_ := aS_ (blk_below (g := gb331) (o := .cells #[.slice Ao14 t326.length co14] 25 (0, 0)) (by (with_reducible repeat (first | refine kN_ ?_ _ | refine kD_ ?_ | refine kA_ ?_ _)); exact BK331.out) hb); have n5_ := aS_ (blk_below (g := gb332) (o := .cells #[.int .i64 t329, .int .i64 t330] 29 (0, 0)) (by (with_reducible repeat (first | refine kN_ ?_ _ | refine kD_ ?_ | refine kA_ ?_ _)); exact BK332.out) hb); have n6_ := aS_ (blk_below (g := gb338) (o := .cells #[.slice Ao24 t333.length co24] 25 (0, 0)) (by (with_reducible repeat (first | refine kN_ ?_ _ | refine kD_ ?_ | refine kA_ ?_ _)); exact BK338.out) hb); have n7_ := aS_ (blk_below (g := gb339) (o := .cells #[.int .i64 t336, .int .i64 t337] 29 (0, 0)) (by (with_reducible repeat (first | refine kN_ ?_ _ | refine kD_ ?_ | refine kA_ ?_ _)); exact BK339.out) hb); have n8_ := aS_ (below_step (by repeat (first | (with_reducible first | exact HB.out | apply bA_ | apply bN_ | apply bD_ | refine below_set ?_ GE325.out | refine below_set ?_ GE331.out | refine below_set ?_ GE332.out | refine below_set ?_ GE338.out | refine below_set ?_ GE339.out) | exact HB.out)) hb); clear HO_326000; clear HO_332000; clear HO_339000; clear BK325; clear BK331; clear BK332; clear BK338; clear BK339; clear HB; have HO_326000 := n0_; have HO_332000 := n1_; have HO_339000 := n2_; have BK325 := n3_; have BK331 := n4_; have BK332 := n5_; have BK338 := n6_; have BK339 := n7_; have HB := n8_; clear n0_ n1_ n2_ n3_ n4_ n5_ n6_ n7_ n8_; (try clear hb); (try clear hb2); (try clear hk); (try clear hi)) | ((with_reducible refine gate_dst (N := 12) rfl ?_); (try (refine gate_guard (by rfl) ?_; dsimp only)); refine box_event ?hg (N := 12) ?hd (cs := #[.int .i64 0, .int .i64 0]) (t := 29) ?hr ?_; (case hd => rfl); (case hg => rfl); (case hr => first | (go_simp; done) | (go_simp; rfl)); intro gb351 hg w130 hbox hb; have n0_ := aS_ (Kd.R_below (by (with_reducible repeat (first | apply rA_ | apply rN_ | apply rD_)); exact HO_326000.out) hb); have n1_ := aS_ (Kd.R_below (by (with_reducible repeat (first | apply rA_ | apply rN_ | apply rD_)); exact HO_332000.out) hb); have n2_ := aS_ (Kd.R_below (by (with_reducible repeat (first | apply rA_ | apply rN_ | apply rD_)); exact HO_339000.out) hb); have n3_ := aS_ (blk_below (g := gb325) (o := .cells #[.slice Ao9 t320.length co9] 25 (0, 0)) (by (with_reducible repeat (first | refine kN_ ?_ _ | refine kD_ ?_ | refine kA_ ?_ _)); exact BK325.out) hb); have n4_ := aS_ (blk_below (g := gb331) (o := .cells #[.slice Ao14 t326.length co14] 25 (0, 0)) (by (with_reducible repeat (first | refine kN_ ?_ _ | refine kD_ ?_ | refine kA_ ?_ _)); exact BK331.out) hb); have n5_ := aS_ (blk_below (g := gb332) (o := .cells #[.int .i64 t329, .int .i64 t330] 29 (0, 0)) (by (with_reducible repeat (first | refine kN_ ?_ _ | refine kD_ ?_ | refine kA_ ?_ _)); exact BK332.out) hb); have n6_ := aS_ (blk_below (g := gb338) (o := .cells #[.slice Ao24 t333.length co24] 25 (0, 0)) (by (with_reducible repeat (first | refine kN_ ?_ _ | refine kD_ ?_ | refine kA_ ?_ _)); exact BK338.out) hb); have n7_ := aS_ (blk_below (g := gb339) (o := .cells #[.int .i64 t336, .int .i64 t337] 29 (0, 0)) (by (with_reducible repeat (first | refine kN_ ?_ _ | refine kD_ ?_ | refine kA_ ?_ _)); exact BK339.out) hb); have n8_ := aS_ (below_step (by repeat (first | (with_reducible first | exact HB.out | apply bA_ | apply bN_ | apply bD_ | refine below_set ?_ GE325.out | refine below_set ?_ GE331.out | refine below_set ?_ GE332.out | refine below_set ?_ GE338.out | refine below_set ?_ GE339.out) | exact HB.out)) hb); have n9_ := aS_ (hbox); have n10_ := aS_ ((by rw [hg]; exact (below_size (by repeat (first | (with_reducible first | exact HB.out | apply bA_ | apply bN_ | apply bD_ | refine below_set ?_ GE325.out | refine below_set ?_ GE331.out | refine below_set ?_ GE332.out | refine below_set ?_ GE338.out | refine below_set ?_ GE339.out) | exact HB.out))) : w.heap.size ≤ gb351)); have n11_ := aS_ ((by rw [hg]; exact (below_size (by repeat (first | (with_reducible first | exact HB.out | apply bA_ | apply bN_ | apply bD_ | refine below_set ?_ GE325.out | refine below_set ?_ GE331.out | refine below_set ?_ GE332.out | refine below_set ?_ GE338.out | refine below_set ?_ GE339.out) | exact HB.out))) : w.heap.size ≤ gb351)); have n12_ := aS_ ((by rw [hg]; exact Nat.ne_of_lt (blk_lt (g := gb325) (o := .cells #[.slice Ao9 t320.length co9] 25 (0, 0)) (by (with_reducible repeat (first | refine kN_ ?_ _ | refine kD_ ?_ | refine kA_ ?_ _)); exact BK325.out)) : gb325 ≠ gb351)); have n13_ := aS_ ((by rw [hg]; exact Nat.ne_of_gt (blk_lt (g := gb325) (o := .cells #[.slice Ao9 t320.length co9] 25 (0, 0)) (by (with_reducible repeat (first | refine kN_ ?_ _ | refine kD_ ?_ | refine kA_ ?_ _)); exact BK325.out)) : gb351 ≠ gb325)); have n14_ := aS_ ((by rw [hg]; exact Nat.ne_of_lt (blk_lt (g := gb331) (o := .cells #[.slice Ao14 t326.length co14] 25 (0, 0)) (by (with_reducible repeat (first | refine kN_ ?_ _ | refine kD_ ?_ | refine kA_ ?_ _)); exact BK331.out)) : gb331 ≠ gb351)); have n15_ := aS_ ((by rw [hg]; exact Nat.ne_of_gt (blk_lt (g := gb331) (o := .cells #[.slice Ao14 t326.length co14] 25 (0, 0)) (by (with_reducible repeat (first | refine kN_ ?_ _ | refine kD_ ?_ | refine kA_ ?_ _)); exact BK331.out)) : gb351 ≠ gb331)); have n16_ := aS_ ((by rw [hg]; exact Nat.ne_of_lt (blk_lt (g := gb332) (o := .cells #[.int .i64 t329, .int .i64 t330] 29 (0, 0)) (by (with_reducible repeat (first | refine kN_ ?_ _ | refine kD_ ?_ | refine kA_ ?_ _)); exact BK332.out)) : gb332 ≠ gb351)); have n17_ := aS_ ((by rw [hg]; exact Nat.ne_of_gt (blk_lt (g := gb332) (o := .cells #[.int .i64 t329, .int .i64 t330] 29 (0, 0)) (by (with_reducible repeat (first | refine kN_ ?_ _ | refine kD_ ?_ | refine kA_ ?_ _)); exact BK332.out)) : gb351 ≠ gb332)); have n18_ := aS_ ((by rw [hg]; exact Nat.ne_of_lt (blk_lt (g := gb338) (o := .cells #[.slice Ao24 t333.length co24] 25 (0, 0)) (by (with_reducible repeat (first | refine kN_ ?_ _ | refine kD_ ?_ | refine kA_ ?_ _)); exact BK338.out)) : gb338 ≠ gb351)); have n19_ := aS_ ((by rw [hg]; exact Nat.ne_of_gt (blk_lt (g := gb338) (o := .cells #[.slice Ao24 t333.length co24] 25 (0, 0)) (by (with_reducible repeat (first | refine kN_ ?_ _ | refine kD_ ?_ | refine kA_ ?_ _)); exact BK338.out)) : gb351 ≠ gb338)); have n20_ := aS_ ((by rw [hg]; exact Nat.ne_of_lt (blk_lt (g := gb339) (o := .cells #[.int .i64 t336, .int .i64 t337] 29 (0, 0)) (by (with_reducible repeat (first | refine kN_ ?_ _ | refine kD_ ?_ | refine kA_ ?_ _)); exact BK339.out)) : gb339 ≠ gb351)); have n21_ := aS_ ((by rw [hg]; exact Nat.ne_of_gt (blk_lt (g := gb339) (o := .cells #[.int .i64 t336, .int .i64 t337] 29 (0, 0)) (by (with_reducible repeat (first | refine kN_ ?_ _ | refine kD_ ?_ | refine kA_ ?_ _)); exact BK339.out)) : gb351 ≠ gb339)); clear HO_326000; clear HO_332000; clear HO_339000; clear BK325; clear BK331; clear BK332; clear BK338; clear BK339; clear HB; have HO_326000 := n0_; have HO_332000 := n1_; have HO_339000 := n2_; have BK325 := n3_; have BK331 := n4_; have BK332 := n5_; have BK338 := n6_; have BK339 := n7_; have HB := n8_; have BK351 := n9_; have GW351 := n10_; have GE351 := n11_; have NB325_351 := n12_; have NB351_325 := n13_; have NB331_351 := n14_; have NB351_331 := n15_; have NB332_351 := n16_; have NB351_332 := n17_; have NB338_351 := n18_; have NB351_338 := n19_; have NB339_351 := n20_; have NB351_339 := n21_; clear n0_ n1_ n2_ n3_ n4_ n5_ n6_ n7_ n8_ n9_ n10_ n11_ n12_ n13_ n14_ n15_ n16_ n17_ n18_ n19_ n20_ n21_; clear hb hbox hg; have hnb131 := NB351_325.out; have hnc131 := NB325_351.out; have hnb132 := NB351_331.out; have hnc132 := NB331_351.out; have hnb133 := NB351_332.out; have hnc133 := NB332_351.out; have hnb134 := NB351_338.out; have hnc134 := NB338_351.out; have hnb135 := NB351_339.out; have hnc135 := NB339_351.out; have hcz136_0 : w130.cell? ⟨gb351, 0, none⟩ = some (.int .i64 0) := (blk_cell BK351.out 0).trans rfl; have hcz136_1 : w130.cell? ⟨gb351, 1, none⟩ = some (.int .i64 0) := (blk_cell BK351.out 1).trans rfl; have hfz136_0 := blk_frozen BK351.out 0; have hfz136_1 := blk_frozen BK351.out 1))
                              have n0_ : Aside0 (Kd.R k39 39 ((((w130.setCell ⟨gb351, 0, none⟩ (.int .i64 t349)).setCell ⟨gb351, 1, none⟩ (.int .i64 t350)).setCell ⟨gb351, 0, none⟩ (.int .i64 2)).setCell ⟨gb351, 1, none⟩ (.int .i64 t324)) w.heap.size (fun k_ => some k_ ≠ (.slice Ao14 t326.length co14 : Value).ownBlock ∧ some k_ ≠ (.slice Ao24 t333.length co24 : Value).ownBlock) (.slice Ao9 t320.length co9) t320) := ⟨by (with_reducible repeat (first | apply rA_ | apply rN_ | apply rD_)); exact rM_ (rF_ (p := ⟨gb351, 1, none⟩) (rF_ (p := ⟨gb351, 0, none⟩) (rF_ (p := ⟨gb351, 1, none⟩) (rF_ (p := ⟨gb351, 0, none⟩) (rT_ HO_326000.out BK351.out (by decide)) (fun _ hk => by first | exact hk.2 | trivial | simp [hk]) (.int .i64 t349)) (fun _ hk => by first | exact hk.2 | trivial | simp [hk]) (.int .i64 t350)) (fun _ hk => by first | exact hk.2 | trivial | simp [hk]) (.int .i64 2)) (fun _ hk => by first | exact hk.2 | trivial | simp [hk]) (.int .i64 t324)) (fun _ hk => ⟨hk.1.1, hk.1.2⟩)⟩
                              have n1_ : Aside0 (Kd.R k39 39 ((((w130.setCell ⟨gb351, 0, none⟩ (.int .i64 t349)).setCell ⟨gb351, 1, none⟩ (.int .i64 t350)).setCell ⟨gb351, 0, none⟩ (.int .i64 2)).setCell ⟨gb351, 1, none⟩ (.int .i64 t324)) w.heap.size (fun k_ => some k_ ≠ (.slice Ao9 t320.length co9 : Value).ownBlock ∧ some k_ ≠ (.slice Ao24 t333.length co24 : Value).ownBlock) (.slice Ao14 t326.length co14) t326) := ⟨by (with_reducible repeat (first | apply rA_ | apply rN_ | apply rD_)); exact rM_ (rF_ (p := ⟨gb351, 1, none⟩) (rF_ (p := ⟨gb351, 0, none⟩) (rF_ (p := ⟨gb351, 1, none⟩) (rF_ (p := ⟨gb351, 0, none⟩) (rT_ HO_332000.out BK351.out (by decide)) (fun _ hk => by first | exact hk.2 | trivial | simp [hk]) (.int .i64 t349)) (fun _ hk => by first | exact hk.2 | trivial | simp [hk]) (.int .i64 t350)) (fun _ hk => by first | exact hk.2 | trivial | simp [hk]) (.int .i64 2)) (fun _ hk => by first | exact hk.2 | trivial | simp [hk]) (.int .i64 t324)) (fun _ hk => ⟨hk.1.1, hk.1.2⟩)⟩
                              have n2_ : Aside0 (Kd.R k39 39 ((((w130.setCell ⟨gb351, 0, none⟩ (.int .i64 t349)).setCell ⟨gb351, 1, none⟩ (.int .i64 t350)).setCell ⟨gb351, 0, none⟩ (.int .i64 2)).setCell ⟨gb351, 1, none⟩ (.int .i64 t324)) w.heap.size (fun k_ => some k_ ≠ (.slice Ao9 t320.length co9 : Value).ownBlock ∧ some k_ ≠ (.slice Ao14 t326.length co14 : Value).ownBlock) (.slice Ao24 t333.length co24) t333) := ⟨by (with_reducible repeat (first | apply rA_ | apply rN_ | apply rD_)); exact rM_ (rF_ (p := ⟨gb351, 1, none⟩) (rF_ (p := ⟨gb351, 0, none⟩) (rF_ (p := ⟨gb351, 1, none⟩) (rF_ (p := ⟨gb351, 0, none⟩) (rT_ HO_339000.out BK351.out (by decide)) (fun _ hk => by first | exact hk.2 | trivial | simp [hk]) (.int .i64 t349)) (fun _ hk => by first | exact hk.2 | trivial | simp [hk]) (.int .i64 t350)) (fun _ hk => by first | exact hk.2 | trivial | simp [hk]) (.int .i64 2)) (fun _ hk => by first | exact hk.2 | trivial | simp [hk]) (.int .i64 t324)) (fun _ hk => ⟨hk.1.1, hk.1.2⟩)⟩
                              have n3_ : Aside0 (((((w130.setCell ⟨gb351, 0, none⟩ (.int .i64 t349)).setCell ⟨gb351, 1, none⟩ (.int .i64 t350)).setCell ⟨gb351, 0, none⟩ (.int .i64 2)).setCell ⟨gb351, 1, none⟩ (.int .i64 t324)).heap[gb325]? = some (.cells #[.slice Ao9 t320.length co9] 25 (0, 0))) := ⟨by (with_reducible repeat (first | refine kN_ ?_ _ | refine kD_ ?_ | refine kA_ ?_ _)); refine blk_far ?_ NB325_351.out _; (with_reducible repeat (first | refine kN_ ?_ _ | refine kD_ ?_ | refine kA_ ?_ _)); refine blk_far ?_ NB325_351.out _; (with_reducible repeat (first | refine kN_ ?_ _ | refine kD_ ?_ | refine kA_ ?_ _)); refine blk_far ?_ NB325_351.out _; (with_reducible repeat (first | refine kN_ ?_ _ | refine kD_ ?_ | refine kA_ ?_ _)); refine blk_far ?_ NB325_351.out _; (with_reducible repeat (first | refine kN_ ?_ _ | refine kD_ ?_ | refine kA_ ?_ _)); exact BK325.out⟩
                              have n4_ : Aside0 (((((w130.setCell ⟨gb351, 0, none⟩ (.int .i64 t349)).setCell ⟨gb351, 1, none⟩ (.int .i64 t350)).setCell ⟨gb351, 0, none⟩ (.int .i64 2)).setCell ⟨gb351, 1, none⟩ (.int .i64 t324)).heap[gb331]? = some (.cells #[.slice Ao14 t326.length co14] 25 (0, 0))) := ⟨by (with_reducible repeat (first | refine kN_ ?_ _ | refine kD_ ?_ | refine kA_ ?_ _)); refine blk_far ?_ NB331_351.out _; (with_reducible repeat (first | refine kN_ ?_ _ | refine kD_ ?_ | refine kA_ ?_ _)); refine blk_far ?_ NB331_351.out _; (with_reducible repeat (first | refine kN_ ?_ _ | refine kD_ ?_ | refine kA_ ?_ _)); refine blk_far ?_ NB331_351.out _; (with_reducible repeat (first | refine kN_ ?_ _ | refine kD_ ?_ | refine kA_ ?_ _)); refine blk_far ?_ NB331_351.out _; (with_reducible repeat (first | refine kN_ ?_ _ | refine kD_ ?_ | refine kA_ ?_ _)); exact BK331.out⟩
                              have n5_ : Aside0 (((((w130.setCell ⟨gb351, 0, none⟩ (.int .i64 t349)).setCell ⟨gb351, 1, none⟩ (.int .i64 t350)).setCell ⟨gb351, 0, none⟩ (.int .i64 2)).setCell ⟨gb351, 1, none⟩ (.int .i64 t324)).heap[gb332]? = some (.cells #[.int .i64 t329, .int .i64 t330] 29 (0, 0))) := ⟨by (with_reducible repeat (first | refine kN_ ?_ _ | refine kD_ ?_ | refine kA_ ?_ _)); refine blk_far ?_ NB332_351.out _; (with_reducible repeat (first | refine kN_ ?_ _ | refine kD_ ?_ | refine kA_ ?_ _)); refine blk_far ?_ NB332_351.out _; (with_reducible repeat (first | refine kN_ ?_ _ | refine kD_ ?_ | refine kA_ ?_ _)); refine blk_far ?_ NB332_351.out _; (with_reducible repeat (first | refine kN_ ?_ _ | refine kD_ ?_ | refine kA_ ?_ _)); refine blk_far ?_ NB332_351.out _; (with_reducible repeat (first | refine kN_ ?_ _ | refine kD_ ?_ | refine kA_ ?_ _)); exact BK332.out⟩
                              have n6_ : Aside0 (((((w130.setCell ⟨gb351, 0, none⟩ (.int .i64 t349)).setCell ⟨gb351, 1, none⟩ (.int .i64 t350)).setCell ⟨gb351, 0, none⟩ (.int .i64 2)).setCell ⟨gb351, 1, none⟩ (.int .i64 t324)).heap[gb338]? = some (.cells #[.slice Ao24 t333.length co24] 25 (0, 0))) := ⟨by (with_reducible repeat (first | refine kN_ ?_ _ | refine kD_ ?_ | refine kA_ ?_ _)); refine blk_far ?_ NB338_351.out _; (with_reducible repeat (first | refine kN_ ?_ _ | refine kD_ ?_ | refine kA_ ?_ _)); refine blk_far ?_ NB338_351.out _; (with_reducible repeat (first | refine kN_ ?_ _ | refine kD_ ?_ | refine kA_ ?_ _)); refine blk_far ?_ NB338_351.out _; (with_reducible repeat (first | refine kN_ ?_ _ | refine kD_ ?_ | refine kA_ ?_ _)); refine blk_far ?_ NB338_351.out _; (with_reducible repeat (first | refine kN_ ?_ _ | refine kD_ ?_ | refine kA_ ?_ _)); exact BK338.out⟩
                              have n7_ : Aside0 (((((w130.setCell ⟨gb351, 0, none⟩ (.int .i64 t349)).setCell ⟨gb351, 1, none⟩ (.int .i64 t350)).setCell ⟨gb351, 0, none⟩ (.int .i64 2)).setCell ⟨gb351, 1, none⟩ (.int .i64 t324)).heap[gb339]? = some (.cells #[.int .i64 t336, .int .i64 t337] 29 (0, 0))) := ⟨by (with_reducible repeat (first | refine kN_ ?_ _ | refine kD_ ?_ | refine kA_ ?_ _)); refine blk_far ?_ NB339_351.out _; (with_reducible repeat (first | refine kN_ ?_ _ | refine kD_ ?_ | refine kA_ ?_ _)); refine blk_far ?_ NB339_351.out _; (with_reducible repeat (first | refine kN_ ?_ _ | refine kD_ ?_ | refine kA_ ?_ _)); refine blk_far ?_ NB339_351.out _; (with_reducible repeat (first | refine kN_ ?_ _ | refine kD_ ?_ | refine kA_ ?_ _)); refine blk_far ?_ NB339_351.out _; (with_reducible repeat (first | refine kN_ ?_ _ | refine kD_ ?_ | refine kA_ ?_ _)); exact BK339.out⟩
                              have n8_ : Aside0 (((((w130.setCell ⟨gb351, 0, none⟩ (.int .i64 t349)).setCell ⟨gb351, 1, none⟩ (.int .i64 t350)).setCell ⟨gb351, 0, none⟩ (.int .i64 2)).setCell ⟨gb351, 1, none⟩ (.int .i64 t324)).heap[gb351]? = some (.cells #[.int .i64 2, .int .i64 t324] 29 (0, 0))) := ⟨by (with_reducible repeat (first | refine kN_ ?_ _ | refine kD_ ?_ | refine kA_ ?_ _)); refine blk_put (cs := #[.int .i64 2, .int .i64 t350]) ?_ 1 _ rfl; (with_reducible repeat (first | refine kN_ ?_ _ | refine kD_ ?_ | refine kA_ ?_ _)); refine blk_put (cs := #[.int .i64 t349, .int .i64 t350]) ?_ 0 _ rfl; (with_reducible repeat (first | refine kN_ ?_ _ | refine kD_ ?_ | refine kA_ ?_ _)); refine blk_put (cs := #[.int .i64 t349, .int .i64 0]) ?_ 1 _ rfl; (with_reducible repeat (first | refine kN_ ?_ _ | refine kD_ ?_ | refine kA_ ?_ _)); refine blk_put (cs := #[.int .i64 0, .int .i64 0]) ?_ 0 _ rfl; (with_reducible repeat (first | refine kN_ ?_ _ | refine kD_ ?_ | refine kA_ ?_ _)); exact BK351.out⟩
                              have n9_ : Aside0 (Below w.heap.size w ((((w130.setCell ⟨gb351, 0, none⟩ (.int .i64 t349)).setCell ⟨gb351, 1, none⟩ (.int .i64 t350)).setCell ⟨gb351, 0, none⟩ (.int .i64 2)).setCell ⟨gb351, 1, none⟩ (.int .i64 t324))) := ⟨by repeat (first | (with_reducible first | exact HB.out | apply bA_ | apply bN_ | apply bD_ | refine below_set ?_ GE325.out | refine below_set ?_ GE331.out | refine below_set ?_ GE332.out | refine below_set ?_ GE338.out | refine below_set ?_ GE339.out | refine below_set ?_ GE351.out) | exact HB.out)⟩
                              (try clear HO_326000)
                              (try clear HO_332000)
                              (try clear HO_339000)
                              (try clear BK325)
                              (try clear BK331)
                              (try clear BK332)
                              (try clear BK338)
                              (try clear BK339)
                              (try clear BK351)
                              (try clear HB)
                              generalize ((((w130.setCell ⟨gb351, 0, none⟩ (.int .i64 t349)).setCell ⟨gb351, 1, none⟩ (.int .i64 t350)).setCell ⟨gb351, 0, none⟩ (.int .i64 2)).setCell ⟨gb351, 1, none⟩ (.int .i64 t324)) = w137 at n0_ n1_ n2_ n3_ n4_ n5_ n6_ n7_ n8_ n9_ ⊢
                              have HO_326000 := n0_
                              have HO_332000 := n1_
                              have HO_339000 := n2_
                              have BK325 := n3_
                              have BK331 := n4_
                              have BK332 := n5_
                              have BK338 := n6_
                              have BK339 := n7_
                              have BK351 := n8_
                              have HB := n9_
                              clear n0_ n1_ n2_ n3_ n4_ n5_ n6_ n7_ n8_ n9_
                              have n0_ := aS_ (rD_ HO_326000.out)
                              have n1_ := aS_ (rD_ HO_332000.out)
                              have n2_ := aS_ (rD_ HO_339000.out)
                              have n3_ := aS_ (kD_ BK325.out)
                              have n4_ := aS_ (kD_ BK331.out)
                              have n5_ := aS_ (kD_ BK332.out)
                              have n6_ := aS_ (kD_ BK338.out)
                              have n7_ := aS_ (kD_ BK339.out)
                              have n8_ := aS_ (kD_ BK351.out)
                              have n9_ := aS_ (bD_ HB.out)
                              clear HO_326000
                              clear HO_332000
                              clear HO_339000
                              clear BK325
                              clear BK331
                              clear BK332
                              clear BK338
                              clear BK339
                              clear BK351
                              clear HB
                              have HO_326000 := n0_
                              have HO_332000 := n1_
                              have HO_339000 := n2_
                              have BK325 := n3_
                              have BK331 := n4_
                              have BK332 := n5_
                              have BK338 := n6_
                              have BK339 := n7_
                              have BK351 := n8_
                              have HB := n9_
                              clear n0_ n1_ n2_ n3_ n4_ n5_ n6_ n7_ n8_ n9_
                              refine start_ (n := 5) (S := fun w' => w'.cell? ⟨gb331, 0, none⟩ = some (.slice Ao14 t326.length co14) ∧ w'.cell? ⟨gb351, 0, none⟩ = some (.int .i64 2) ∧ w'.cell? ⟨gb351, 1, none⟩ = some (.int .i64 t324)) (ds := []) #[false, false, false, false, false] (by kernel_rfl) rfl rfl ⟨(blk_cell BK331.out 0).trans rfl, (blk_cell BK351.out 0).trans rfl, (blk_cell BK351.out 1).trans rfl⟩ (fun hHeld => ?_)
                              generalize w137.drew = w138 at HO_326000 HO_332000 HO_339000 BK325 BK331 BK332 BK338 BK339 BK351 HB hHeld ⊢
                              refine pure_ (i := 1) (N := some 131) (v := ?_) (a' := ?_) #[false, true, false, false, false] rfl rfl (by kernel_rfl) (fun _ _ _ h => h) (Or.inl ⟨by rfl, ?_⟩) ?_ ?_
                              rotate_left
                              · intro w'
                                go_simp
                                with_reducible rfl
                              rotate_left
                              · simp only [Act.put, List.setIfInBounds_toArray, List.set_cons_zero, List.set_cons_succ, i64_w, i32_w]
                                rfl
                              refine take_ (i := 0) (N := some 130) (v := ?_) (a' := ?_) #[true, true, false, false, false] rfl rfl (by kernel_rfl) (fun _ _ _ h => h) (Or.inl ⟨by rfl, ?_⟩) hHeld ?_ ?_
                              rotate_left
                              · rintro w' ⟨s0, s1, s2⟩
                                go_simp
                                with_reducible rfl
                              rotate_left
                              · simp only [Act.put, List.setIfInBounds_toArray, List.set_cons_zero, List.set_cons_succ, i64_w, i32_w]
                                rfl
                              refine take_ (i := 3) (N := some 133) (v := ?_) (a' := ?_) #[true, true, false, true, false] rfl rfl (by kernel_rfl) (fun _ _ _ h => h) (Or.inl ⟨by rfl, ?_⟩) hHeld ?_ ?_
                              rotate_left
                              · rintro w' ⟨s0, s1, s2⟩
                                go_simp
                                with_reducible rfl
                              rotate_left
                              · simp only [Act.put, List.setIfInBounds_toArray, List.set_cons_zero, List.set_cons_succ, i64_w, i32_w]
                                rfl
                              refine one_ (i := 2) (N := some 132) #[true, true, true, true, false] rfl rfl (by kernel_rfl) (by decide) (fun K hK => ?_)
                              refine goes_ Try.func18 (by kernel_rfl) rfl #[.agg #[.slice Ao14 t326.length co14], .int .i64 x11_3] (by rfl) rfl rfl (by (try simp only [List.map_toArray, List.map_cons, List.map_nil]); first | done | rfl | (simp only [List.length_drop, List.length_take]; rfl)) ?_
                              with_reducible refine (impl_MapGet.calls k3 _ _ t326 x11_3 t352 t353 _ ?side1 ?side2 A122.out).mono ?_
                              (case side1 => repeat (first | exact (Kd.R_reads' HO_332000.out).2.2 | (with_reducible refine Kd.C_alloc ?_ _) | (with_reducible refine Kd.C_drewN ?_ _) | (with_reducible refine Kd.C_drew ?_)))
                              (case side2 => exact (Kd.R_reads' HO_332000.out).2.1)
                              rintro e w139 ⟨rfl, hb⟩
                              refine ⟨_, rfl, ?_⟩
                              have n0_ := aS_ (Kd.R_below (by (with_reducible repeat (first | apply rA_ | apply rN_ | apply rD_)); exact HO_326000.out) hb)
                              have n1_ := aS_ (Kd.R_below (by (with_reducible repeat (first | apply rA_ | apply rN_ | apply rD_)); exact HO_332000.out) hb)
                              have n2_ := aS_ (Kd.R_below (by (with_reducible repeat (first | apply rA_ | apply rN_ | apply rD_)); exact HO_339000.out) hb)
                              have n3_ := aS_ (blk_below (g := gb325) (o := .cells #[.slice Ao9 t320.length co9] 25 (0, 0)) (by (with_reducible repeat (first | refine kN_ ?_ _ | refine kD_ ?_ | refine kA_ ?_ _)); exact BK325.out) hb)
                              have n4_ := aS_ (blk_below (g := gb331) (o := .cells #[.slice Ao14 t326.length co14] 25 (0, 0)) (by (with_reducible repeat (first | refine kN_ ?_ _ | refine kD_ ?_ | refine kA_ ?_ _)); exact BK331.out) hb)
                              have n5_ := aS_ (blk_below (g := gb332) (o := .cells #[.int .i64 t329, .int .i64 t330] 29 (0, 0)) (by (with_reducible repeat (first | refine kN_ ?_ _ | refine kD_ ?_ | refine kA_ ?_ _)); exact BK332.out) hb)
                              have n6_ := aS_ (blk_below (g := gb338) (o := .cells #[.slice Ao24 t333.length co24] 25 (0, 0)) (by (with_reducible repeat (first | refine kN_ ?_ _ | refine kD_ ?_ | refine kA_ ?_ _)); exact BK338.out) hb)
                              have n7_ := aS_ (blk_below (g := gb339) (o := .cells #[.int .i64 t336, .int .i64 t337] 29 (0, 0)) (by (with_reducible repeat (first | refine kN_ ?_ _ | refine kD_ ?_ | refine kA_ ?_ _)); exact BK339.out) hb)
                              have n8_ := aS_ (blk_below (g := gb351) (o := .cells #[.int .i64 2, .int .i64 t324] 29 (0, 0)) (by (with_reducible repeat (first | refine kN_ ?_ _ | refine kD_ ?_ | refine kA_ ?_ _)); exact BK351.out) hb)
                              have n9_ := aS_ (below_step (by repeat (first | (with_reducible first | exact HB.out | apply bA_ | apply bN_ | apply bD_ | refine below_set ?_ GE325.out | refine below_set ?_ GE331.out | refine below_set ?_ GE332.out | refine below_set ?_ GE338.out | refine below_set ?_ GE339.out | refine below_set ?_ GE351.out) | exact HB.out)) hb)
                              clear HO_326000
                              clear HO_332000
                              clear HO_339000
                              clear BK325
                              clear BK331
                              clear BK332
                              clear BK338
                              clear BK339
                              clear BK351
                              clear HB
                              have HO_326000 := n0_
                              have HO_332000 := n1_
                              have HO_339000 := n2_
                              have BK325 := n3_
                              have BK331 := n4_
                              have BK332 := n5_
                              have BK338 := n6_
                              have BK339 := n7_
                              have BK351 := n8_
                              have HB := n9_
                              clear n0_ n1_ n2_ n3_ n4_ n5_ n6_ n7_ n8_ n9_
                              (try clear hb)
                              (try clear hb2)
                              (try clear hk)
                              (try clear hi)
                              refine hK.out _ _ ⟨(blk_cell BK331.out 0).trans rfl, (blk_cell BK351.out 0).trans rfl, (blk_cell BK351.out 1).trans rfl⟩ (fun hHeld => ?_)
                              clear hK K
                              refine norm_ (a' := ?_) ?_ ?_
                              rotate_left
                              · show Act.put _ (some 132) _ = _
                                simp only [Act.put, List.setIfInBounds_toArray, List.set_cons_zero, List.set_cons_succ, i64_w, i32_w]
                                rfl
                              refine pure_ (i := 4) (N := some 134) (v := ?_) (a' := ?_) #[true, true, true, true, true] rfl rfl (by kernel_rfl) (fun _ _ _ h => h) (Or.inl ⟨by rfl, ?_⟩) ?_ ?_
                              rotate_left
                              · intro w'
                                go_simp
                                with_reducible rfl
                              rotate_left
                              · simp only [Act.put, List.setIfInBounds_toArray, List.set_cons_zero, List.set_cons_succ, i64_w, i32_w]
                                rfl
                              refine done_ (by kernel_rfl) ?_
                              try go_wp2
                              go_roundg k3
                              case measure => have := HJ5.out; have := HJ50.out; have := HK3.out; omega
                              case rel => exact ⟨(wrap64 (x11_3 + 1)), (by first | rfl | (simp; done) | (simp [*]; done)), H', ⟨by have := HJ5.out; have := HJ50.out; have := HK3.out; omega⟩, ⟨by (with_reducible repeat (first | apply rA_ | apply rN_ | apply rD_)); exact HO_326000.out⟩, ⟨by (with_reducible repeat (first | apply rA_ | apply rN_ | apply rD_)); exact HO_332000.out⟩, ⟨by (with_reducible repeat (first | apply rA_ | apply rN_ | apply rD_)); exact HO_339000.out⟩, ⟨by (with_reducible repeat (first | refine kN_ ?_ _ | refine kD_ ?_ | refine kA_ ?_ _)); exact BK325.out⟩, ⟨by (with_reducible repeat (first | refine kN_ ?_ _ | refine kD_ ?_ | refine kA_ ?_ _)); exact BK331.out⟩, ⟨by (with_reducible repeat (first | refine kN_ ?_ _ | refine kD_ ?_ | refine kA_ ?_ _)); exact BK332.out⟩, ⟨by (with_reducible repeat (first | refine kN_ ?_ _ | refine kD_ ?_ | refine kA_ ?_ _)); exact BK338.out⟩, ⟨by (with_reducible repeat (first | refine kN_ ?_ _ | refine kD_ ?_ | refine kA_ ?_ _)); exact BK339.out⟩, ⟨by repeat (first | (with_reducible first | exact HB.out | apply bA_ | apply bN_ | apply bD_ | refine below_set ?_ GE325.out | refine below_set ?_ GE331.out | refine below_set ?_ GE332.out | refine below_set ?_ GE338.out | refine below_set ?_ GE339.out | refine below_set ?_ GE351.out) | exact HB.out)⟩⟩
                          · rw [if_neg c121] at H
                            have c121b0 : (x11_3 == t323) = false := beq_eq_false_iff_ne.mpr c121
                            have c121b1 : (x11_3 != t323) = true := bne_iff_ne.mpr c121
                            replace H := Option.bind_eq_some_iff.mp H
                            obtain ⟨⟨t354, t355⟩, A1400, H⟩ := H
                            replace H : (if (!(t354 == t349) || (!(t355 == t350))) = true then (some false) else (laws_FnMapPut.l0 k3 t323 t324 (t346 == 2) (wrap64 (x11_3 + 1)) t320 t326)) = some r := H
                            have A140 := aS_ A1400
                            clear A1400
                            by_cases c141 : (!(t354 == t349) || (!(t355 == t350))) = true
                            · rw [if_pos c141] at H
                              have c141b0 : (!(t354 == t349) || (!(t355 == t350))) = true := c141
                              clear c141
                              exact absurd (Option.some.inj H) (by rw [HT.out]; decide)
                            · rw [if_neg c141] at H
                              have c141b0 : (!(t354 == t349) || (!(t355 == t350))) = false := by simpa using c141
                              clear c141
                              have H' := aS_ H
                              clear H
                              have hnb142 := NB325_331.out
                              have hnc142 := NB331_325.out
                              have hnb143 := NB325_332.out
                              have hnc143 := NB332_325.out
                              have hnb144 := NB325_338.out
                              have hnc144 := NB338_325.out
                              have hnb145 := NB325_339.out
                              have hnc145 := NB339_325.out
                              have hcz146_0 : wr.cell? ⟨gb325, 0, none⟩ = some (.slice Ao9 t320.length co9) := (blk_cell BK325.out 0).trans rfl
                              have hfz146_0 := blk_frozen BK325.out 0
                              try go_wp2_with (first | ((with_reducible refine gate_callee (f := 18) rfl ?_); refine goesL_ (some 124) rfl rfl Try.func18 (by kernel_rfl) rfl #[.agg #[.slice Ao9 t320.length co9], .int .i64 x11_3] rfl (by (try simp only [List.map_toArray, List.map_cons, List.map_nil]); first | done | rfl | (simp only [List.length_drop, List.length_take]; rfl)) ?_; (with_reducible refine (impl_MapGet.calls k3 _ _ t320 x11_3 t349 t350 _ ?side1 ?side2 A120.out).mono ?_); (case side1 => repeat (first | exact (Kd.R_reads' HO_326000.out).2.2 | (with_reducible refine Kd.C_alloc ?_ _) | (with_reducible refine Kd.C_drewN ?_ _) | (with_reducible refine Kd.C_drew ?_))); (case side2 => exact (Kd.R_reads' HO_326000.out).2.1); rintro e w147 ⟨rfl, hb⟩; refine ⟨_, rfl, ?_⟩; have n0_ := aS_ (Kd.R_below (by (with_reducible repeat (first | apply rA_ | apply rN_ | apply rD_)); exact HO_326000.out) hb); have n1_ := aS_ (Kd.R_below (by (with_reducible repeat (first | apply rA_ | apply rN_ | apply rD_)); exact HO_332000.out) hb); have n2_ := aS_ (Kd.R_below (by (with_reducible repeat (first | apply rA_ | apply rN_ | apply rD_)); exact HO_339000.out) hb); have n3_ := aS_ (blk_below (g := gb325) (o := .cells #[.slice Ao9 t320.length co9] 25 (0, 0)) (by (with_reducible repeat (first | refine kN_ ?_ _ | refine kD_ ?_ | refine kA_ ?_ _)); exact BK325.out) hb); have n4_ := aS_ (blk_below (g := gb331) (o := .cells #[.slice Ao14 t326.length co14] 25 (0, 0)) (by (with_reducible repeat (first | refine kN_ ?_ _ | refine kD_ ?_ | refine kA_ ?_ _)); exact BK331.out) hb); have n5_ := aS_ (blk_below (g := gb332) (o := .cells #[.int .i64 t329, .int .i64 t330] 29 (0, 0)) (by (with_reducible repeat (first | refine kN_ ?_ _ | refine kD_ ?_ | refine kA_ ?_ _)); exact BK332.out) hb); have n6_ := aS_ (blk_below (g := gb338) (o := .cells #[.slice Ao24 t333.length co24] 25 (0, 0)) (by (with_reducible repeat (first | refine kN_ ?_ _ | refine kD_ ?_ | refine kA_ ?_ _)); exact BK338.out) hb); have n7_ := aS_ (blk_below (g := gb339) (o := .cells #[.int .i64 t336, .int .i64 t337] 29 (0, 0)) (by (with_reducible repeat (first | refine kN_ ?_ _ | refine kD_ ?_ | refine kA_ ?_ _)); exact BK339.out) hb); have n8_ := aS_ (below_step (by repeat (first | (with_reducible first | exact HB.out | apply bA_ | apply bN_ | apply bD_ | refine below_set ?_ GE325.out | refine below_set ?_ GE331.out | refine below_set ?_ GE332.out | refine below_set ?_ GE338.out | refine below_set ?_ GE339.out) | exact HB.out)) hb); clear HO_326000; clear HO_332000; clear HO_339000; clear BK325; clear BK331; clear BK332; clear BK338; clear BK339; clear HB; have HO_326000 := n0_; have HO_332000 := n1_; have HO_339000 := n2_; have BK325 := n3_; have BK331 := n4_; have BK332 := n5_; have BK338 := n6_; have BK339 := n7_; have HB := n8_; clear n0_ n1_ n2_ n3_ n4_ n5_ n6_ n7_ n8_; (try clear hb); (try clear hb2); (try clear hk); (try clear hi)) | ((with_reducible refine gate_dst (N := 12) rfl ?_); (try (refine gate_guard (by rfl) ?_; dsimp only)); refine box_event ?hg (N := 12) ?hd (cs := #[.int .i64 0, .int .i64 0]) (t := 29) ?hr ?_; (case hd => rfl); (case hg => rfl); (case hr => first | (go_simp; done) | (go_simp; rfl)); intro gb351 hg w148 hbox hb; have n0_ := aS_ (Kd.R_below (by (with_reducible repeat (first | apply rA_ | apply rN_ | apply rD_)); exact HO_326000.out) hb); have n1_ := aS_ (Kd.R_below (by (with_reducible repeat (first | apply rA_ | apply rN_ | apply rD_)); exact HO_332000.out) hb); have n2_ := aS_ (Kd.R_below (by (with_reducible repeat (first | apply rA_ | apply rN_ | apply rD_)); exact HO_339000.out) hb); have n3_ := aS_ (blk_below (g := gb325) (o := .cells #[.slice Ao9 t320.length co9] 25 (0, 0)) (by (with_reducible repeat (first | refine kN_ ?_ _ | refine kD_ ?_ | refine kA_ ?_ _)); exact BK325.out) hb); have n4_ := aS_ (blk_below (g := gb331) (o := .cells #[.slice Ao14 t326.length co14] 25 (0, 0)) (by (with_reducible repeat (first | refine kN_ ?_ _ | refine kD_ ?_ | refine kA_ ?_ _)); exact BK331.out) hb); have n5_ := aS_ (blk_below (g := gb332) (o := .cells #[.int .i64 t329, .int .i64 t330] 29 (0, 0)) (by (with_reducible repeat (first | refine kN_ ?_ _ | refine kD_ ?_ | refine kA_ ?_ _)); exact BK332.out) hb); have n6_ := aS_ (blk_below (g := gb338) (o := .cells #[.slice Ao24 t333.length co24] 25 (0, 0)) (by (with_reducible repeat (first | refine kN_ ?_ _ | refine kD_ ?_ | refine kA_ ?_ _)); exact BK338.out) hb); have n7_ := aS_ (blk_below (g := gb339) (o := .cells #[.int .i64 t336, .int .i64 t337] 29 (0, 0)) (by (with_reducible repeat (first | refine kN_ ?_ _ | refine kD_ ?_ | refine kA_ ?_ _)); exact BK339.out) hb); have n8_ := aS_ (below_step (by repeat (first | (with_reducible first | exact HB.out | apply bA_ | apply bN_ | apply bD_ | refine below_set ?_ GE325.out | refine below_set ?_ GE331.out | refine below_set ?_ GE332.out | refine below_set ?_ GE338.out | refine below_set ?_ GE339.out) | exact HB.out)) hb); have n9_ := aS_ (hbox); have n10_ := aS_ ((by rw [hg]; exact (below_size (by repeat (first | (with_reducible first | exact HB.out | apply bA_ | apply bN_ | apply bD_ | refine below_set ?_ GE325.out | refine below_set ?_ GE331.out | refine below_set ?_ GE332.out | refine below_set ?_ GE338.out | refine below_set ?_ GE339.out) | exact HB.out))) : w.heap.size ≤ gb351)); have n11_ := aS_ ((by rw [hg]; exact (below_size (by repeat (first | (with_reducible first | exact HB.out | apply bA_ | apply bN_ | apply bD_ | refine below_set ?_ GE325.out | refine below_set ?_ GE331.out | refine below_set ?_ GE332.out | refine below_set ?_ GE338.out | refine below_set ?_ GE339.out) | exact HB.out))) : w.heap.size ≤ gb351)); have n12_ := aS_ ((by rw [hg]; exact Nat.ne_of_lt (blk_lt (g := gb325) (o := .cells #[.slice Ao9 t320.length co9] 25 (0, 0)) (by (with_reducible repeat (first | refine kN_ ?_ _ | refine kD_ ?_ | refine kA_ ?_ _)); exact BK325.out)) : gb325 ≠ gb351)); have n13_ := aS_ ((by rw [hg]; exact Nat.ne_of_gt (blk_lt (g := gb325) (o := .cells #[.slice Ao9 t320.length co9] 25 (0, 0)) (by (with_reducible repeat (first | refine kN_ ?_ _ | refine kD_ ?_ | refine kA_ ?_ _)); exact BK325.out)) : gb351 ≠ gb325)); have n14_ := aS_ ((by rw [hg]; exact Nat.ne_of_lt (blk_lt (g := gb331) (o := .cells #[.slice Ao14 t326.length co14] 25 (0, 0)) (by (with_reducible repeat (first | refine kN_ ?_ _ | refine kD_ ?_ | refine kA_ ?_ _)); exact BK331.out)) : gb331 ≠ gb351)); have n15_ := aS_ ((by rw [hg]; exact Nat.ne_of_gt (blk_lt (g := gb331) (o := .cells #[.slice Ao14 t326.length co14] 25 (0, 0)) (by (with_reducible repeat (first | refine kN_ ?_ _ | refine kD_ ?_ | refine kA_ ?_ _)); exact BK331.out)) : gb351 ≠ gb331)); have n16_ := aS_ ((by rw [hg]; exact Nat.ne_of_lt (blk_lt (g := gb332) (o := .cells #[.int .i64 t329, .int .i64 t330] 29 (0, 0)) (by (with_reducible repeat (first | refine kN_ ?_ _ | refine kD_ ?_ | refine kA_ ?_ _)); exact BK332.out)) : gb332 ≠ gb351)); have n17_ := aS_ ((by rw [hg]; exact Nat.ne_of_gt (blk_lt (g := gb332) (o := .cells #[.int .i64 t329, .int .i64 t330] 29 (0, 0)) (by (with_reducible repeat (first | refine kN_ ?_ _ | refine kD_ ?_ | refine kA_ ?_ _)); exact BK332.out)) : gb351 ≠ gb332)); have n18_ := aS_ ((by rw [hg]; exact Nat.ne_of_lt (blk_lt (g := gb338) (o := .cells #[.slice Ao24 t333.length co24] 25 (0, 0)) (by (with_reducible repeat (first | refine kN_ ?_ _ | refine kD_ ?_ | refine kA_ ?_ _)); exact BK338.out)) : gb338 ≠ gb351)); have n19_ := aS_ ((by rw [hg]; exact Nat.ne_of_gt (blk_lt (g := gb338) (o := .cells #[.slice Ao24 t333.length co24] 25 (0, 0)) (by (with_reducible repeat (first | refine kN_ ?_ _ | refine kD_ ?_ | refine kA_ ?_ _)); exact BK338.out)) : gb351 ≠ gb338)); have n20_ := aS_ ((by rw [hg]; exact Nat.ne_of_lt (blk_lt (g := gb339) (o := .cells #[.int .i64 t336, .int .i64 t337] 29 (0, 0)) (by (with_reducible repeat (first | refine kN_ ?_ _ | refine kD_ ?_ | refine kA_ ?_ _)); exact BK339.out)) : gb339 ≠ gb351)); have n21_ := aS_ ((by rw [hg]; exact Nat.ne_of_gt (blk_lt (g := gb339) (o := .cells #[.int .i64 t336, .int .i64 t337] 29 (0, 0)) (by (with_reducible repeat (first | refine kN_ ?_ _ | refine kD_ ?_ | refine kA_ ?_ _)); exact BK339.out)) : gb351 ≠ gb339)); clear HO_326000; clear HO_332000; clear HO_339000; clear BK325; clear BK331; clear BK332; clear BK338; clear BK339; clear HB; have HO_326000 := n0_; have HO_332000 := n1_; have HO_339000 := n2_; have BK325 := n3_; have BK331 := n4_; have BK332 := n5_; have BK338 := n6_; have BK339 := n7_; have HB := n8_; have BK351 := n9_; have GW351 := n10_; have GE351 := n11_; have NB325_351 := n12_; have NB351_325 := n13_; have NB331_351 := n14_; have NB351_331 := n15_; have NB332_351 := n16_; have NB351_332 := n17_; have NB338_351 := n18_; have NB351_338 := n19_; have NB339_351 := n20_; have NB351_339 := n21_; clear n0_ n1_ n2_ n3_ n4_ n5_ n6_ n7_ n8_ n9_ n10_ n11_ n12_ n13_ n14_ n15_ n16_ n17_ n18_ n19_ n20_ n21_; clear hb hbox hg; have hnb149 := NB351_325.out; have hnc149 := NB325_351.out; have hnb150 := NB351_331.out; have hnc150 := NB331_351.out; have hnb151 := NB351_332.out; have hnc151 := NB332_351.out; have hnb152 := NB351_338.out; have hnc152 := NB338_351.out; have hnb153 := NB351_339.out; have hnc153 := NB339_351.out; have hcz154_0 : w148.cell? ⟨gb351, 0, none⟩ = some (.int .i64 0) := (blk_cell BK351.out 0).trans rfl; have hcz154_1 : w148.cell? ⟨gb351, 1, none⟩ = some (.int .i64 0) := (blk_cell BK351.out 1).trans rfl; have hfz154_0 := blk_frozen BK351.out 0; have hfz154_1 := blk_frozen BK351.out 1))
                              have n0_ : Aside0 (Kd.R k39 39 ((w148.setCell ⟨gb351, 0, none⟩ (.int .i64 t349)).setCell ⟨gb351, 1, none⟩ (.int .i64 t350)) w.heap.size (fun k_ => some k_ ≠ (.slice Ao14 t326.length co14 : Value).ownBlock ∧ some k_ ≠ (.slice Ao24 t333.length co24 : Value).ownBlock) (.slice Ao9 t320.length co9) t320) := ⟨by (with_reducible repeat (first | apply rA_ | apply rN_ | apply rD_)); exact rM_ (rF_ (p := ⟨gb351, 1, none⟩) (rF_ (p := ⟨gb351, 0, none⟩) (rT_ HO_326000.out BK351.out (by decide)) (fun _ hk => by first | exact hk.2 | trivial | simp [hk]) (.int .i64 t349)) (fun _ hk => by first | exact hk.2 | trivial | simp [hk]) (.int .i64 t350)) (fun _ hk => ⟨hk.1.1, hk.1.2⟩)⟩
                              have n1_ : Aside0 (Kd.R k39 39 ((w148.setCell ⟨gb351, 0, none⟩ (.int .i64 t349)).setCell ⟨gb351, 1, none⟩ (.int .i64 t350)) w.heap.size (fun k_ => some k_ ≠ (.slice Ao9 t320.length co9 : Value).ownBlock ∧ some k_ ≠ (.slice Ao24 t333.length co24 : Value).ownBlock) (.slice Ao14 t326.length co14) t326) := ⟨by (with_reducible repeat (first | apply rA_ | apply rN_ | apply rD_)); exact rM_ (rF_ (p := ⟨gb351, 1, none⟩) (rF_ (p := ⟨gb351, 0, none⟩) (rT_ HO_332000.out BK351.out (by decide)) (fun _ hk => by first | exact hk.2 | trivial | simp [hk]) (.int .i64 t349)) (fun _ hk => by first | exact hk.2 | trivial | simp [hk]) (.int .i64 t350)) (fun _ hk => ⟨hk.1.1, hk.1.2⟩)⟩
                              have n2_ : Aside0 (Kd.R k39 39 ((w148.setCell ⟨gb351, 0, none⟩ (.int .i64 t349)).setCell ⟨gb351, 1, none⟩ (.int .i64 t350)) w.heap.size (fun k_ => some k_ ≠ (.slice Ao9 t320.length co9 : Value).ownBlock ∧ some k_ ≠ (.slice Ao14 t326.length co14 : Value).ownBlock) (.slice Ao24 t333.length co24) t333) := ⟨by (with_reducible repeat (first | apply rA_ | apply rN_ | apply rD_)); exact rM_ (rF_ (p := ⟨gb351, 1, none⟩) (rF_ (p := ⟨gb351, 0, none⟩) (rT_ HO_339000.out BK351.out (by decide)) (fun _ hk => by first | exact hk.2 | trivial | simp [hk]) (.int .i64 t349)) (fun _ hk => by first | exact hk.2 | trivial | simp [hk]) (.int .i64 t350)) (fun _ hk => ⟨hk.1.1, hk.1.2⟩)⟩
                              have n3_ : Aside0 (((w148.setCell ⟨gb351, 0, none⟩ (.int .i64 t349)).setCell ⟨gb351, 1, none⟩ (.int .i64 t350)).heap[gb325]? = some (.cells #[.slice Ao9 t320.length co9] 25 (0, 0))) := ⟨by (with_reducible repeat (first | refine kN_ ?_ _ | refine kD_ ?_ | refine kA_ ?_ _)); refine blk_far ?_ NB325_351.out _; (with_reducible repeat (first | refine kN_ ?_ _ | refine kD_ ?_ | refine kA_ ?_ _)); refine blk_far ?_ NB325_351.out _; (with_reducible repeat (first | refine kN_ ?_ _ | refine kD_ ?_ | refine kA_ ?_ _)); exact BK325.out⟩
                              have n4_ : Aside0 (((w148.setCell ⟨gb351, 0, none⟩ (.int .i64 t349)).setCell ⟨gb351, 1, none⟩ (.int .i64 t350)).heap[gb331]? = some (.cells #[.slice Ao14 t326.length co14] 25 (0, 0))) := ⟨by (with_reducible repeat (first | refine kN_ ?_ _ | refine kD_ ?_ | refine kA_ ?_ _)); refine blk_far ?_ NB331_351.out _; (with_reducible repeat (first | refine kN_ ?_ _ | refine kD_ ?_ | refine kA_ ?_ _)); refine blk_far ?_ NB331_351.out _; (with_reducible repeat (first | refine kN_ ?_ _ | refine kD_ ?_ | refine kA_ ?_ _)); exact BK331.out⟩
                              have n5_ : Aside0 (((w148.setCell ⟨gb351, 0, none⟩ (.int .i64 t349)).setCell ⟨gb351, 1, none⟩ (.int .i64 t350)).heap[gb332]? = some (.cells #[.int .i64 t329, .int .i64 t330] 29 (0, 0))) := ⟨by (with_reducible repeat (first | refine kN_ ?_ _ | refine kD_ ?_ | refine kA_ ?_ _)); refine blk_far ?_ NB332_351.out _; (with_reducible repeat (first | refine kN_ ?_ _ | refine kD_ ?_ | refine kA_ ?_ _)); refine blk_far ?_ NB332_351.out _; (with_reducible repeat (first | refine kN_ ?_ _ | refine kD_ ?_ | refine kA_ ?_ _)); exact BK332.out⟩
                              have n6_ : Aside0 (((w148.setCell ⟨gb351, 0, none⟩ (.int .i64 t349)).setCell ⟨gb351, 1, none⟩ (.int .i64 t350)).heap[gb338]? = some (.cells #[.slice Ao24 t333.length co24] 25 (0, 0))) := ⟨by (with_reducible repeat (first | refine kN_ ?_ _ | refine kD_ ?_ | refine kA_ ?_ _)); refine blk_far ?_ NB338_351.out _; (with_reducible repeat (first | refine kN_ ?_ _ | refine kD_ ?_ | refine kA_ ?_ _)); refine blk_far ?_ NB338_351.out _; (with_reducible repeat (first | refine kN_ ?_ _ | refine kD_ ?_ | refine kA_ ?_ _)); exact BK338.out⟩
                              have n7_ : Aside0 (((w148.setCell ⟨gb351, 0, none⟩ (.int .i64 t349)).setCell ⟨gb351, 1, none⟩ (.int .i64 t350)).heap[gb339]? = some (.cells #[.int .i64 t336, .int .i64 t337] 29 (0, 0))) := ⟨by (with_reducible repeat (first | refine kN_ ?_ _ | refine kD_ ?_ | refine kA_ ?_ _)); refine blk_far ?_ NB339_351.out _; (with_reducible repeat (first | refine kN_ ?_ _ | refine kD_ ?_ | refine kA_ ?_ _)); refine blk_far ?_ NB339_351.out _; (with_reducible repeat (first | refine kN_ ?_ _ | refine kD_ ?_ | refine kA_ ?_ _)); exact BK339.out⟩
                              have n8_ : Aside0 (((w148.setCell ⟨gb351, 0, none⟩ (.int .i64 t349)).setCell ⟨gb351, 1, none⟩ (.int .i64 t350)).heap[gb351]? = some (.cells #[.int .i64 t349, .int .i64 t350] 29 (0, 0))) := ⟨by (with_reducible repeat (first | refine kN_ ?_ _ | refine kD_ ?_ | refine kA_ ?_ _)); refine blk_put (cs := #[.int .i64 t349, .int .i64 0]) ?_ 1 _ rfl; (with_reducible repeat (first | refine kN_ ?_ _ | refine kD_ ?_ | refine kA_ ?_ _)); refine blk_put (cs := #[.int .i64 0, .int .i64 0]) ?_ 0 _ rfl; (with_reducible repeat (first | refine kN_ ?_ _ | refine kD_ ?_ | refine kA_ ?_ _)); exact BK351.out⟩
                              have n9_ : Aside0 (Below w.heap.size w ((w148.setCell ⟨gb351, 0, none⟩ (.int .i64 t349)).setCell ⟨gb351, 1, none⟩ (.int .i64 t350))) := ⟨by repeat (first | (with_reducible first | exact HB.out | apply bA_ | apply bN_ | apply bD_ | refine below_set ?_ GE325.out | refine below_set ?_ GE331.out | refine below_set ?_ GE332.out | refine below_set ?_ GE338.out | refine below_set ?_ GE339.out | refine below_set ?_ GE351.out) | exact HB.out)⟩
                              (try clear HO_326000)
                              (try clear HO_332000)
                              (try clear HO_339000)
                              (try clear BK325)
                              (try clear BK331)
                              (try clear BK332)
                              (try clear BK338)
                              (try clear BK339)
                              (try clear BK351)
                              (try clear HB)
                              generalize ((w148.setCell ⟨gb351, 0, none⟩ (.int .i64 t349)).setCell ⟨gb351, 1, none⟩ (.int .i64 t350)) = w155 at n0_ n1_ n2_ n3_ n4_ n5_ n6_ n7_ n8_ n9_ ⊢
                              have HO_326000 := n0_
                              have HO_332000 := n1_
                              have HO_339000 := n2_
                              have BK325 := n3_
                              have BK331 := n4_
                              have BK332 := n5_
                              have BK338 := n6_
                              have BK339 := n7_
                              have BK351 := n8_
                              have HB := n9_
                              clear n0_ n1_ n2_ n3_ n4_ n5_ n6_ n7_ n8_ n9_
                              have n0_ := aS_ (rD_ HO_326000.out)
                              have n1_ := aS_ (rD_ HO_332000.out)
                              have n2_ := aS_ (rD_ HO_339000.out)
                              have n3_ := aS_ (kD_ BK325.out)
                              have n4_ := aS_ (kD_ BK331.out)
                              have n5_ := aS_ (kD_ BK332.out)
                              have n6_ := aS_ (kD_ BK338.out)
                              have n7_ := aS_ (kD_ BK339.out)
                              have n8_ := aS_ (kD_ BK351.out)
                              have n9_ := aS_ (bD_ HB.out)
                              clear HO_326000
                              clear HO_332000
                              clear HO_339000
                              clear BK325
                              clear BK331
                              clear BK332
                              clear BK338
                              clear BK339
                              clear BK351
                              clear HB
                              have HO_326000 := n0_
                              have HO_332000 := n1_
                              have HO_339000 := n2_
                              have BK325 := n3_
                              have BK331 := n4_
                              have BK332 := n5_
                              have BK338 := n6_
                              have BK339 := n7_
                              have BK351 := n8_
                              have HB := n9_
                              clear n0_ n1_ n2_ n3_ n4_ n5_ n6_ n7_ n8_ n9_
                              refine start_ (n := 5) (S := fun w' => w'.cell? ⟨gb331, 0, none⟩ = some (.slice Ao14 t326.length co14) ∧ w'.cell? ⟨gb351, 0, none⟩ = some (.int .i64 t349) ∧ w'.cell? ⟨gb351, 1, none⟩ = some (.int .i64 t350)) (ds := []) #[false, false, false, false, false] (by kernel_rfl) rfl rfl ⟨(blk_cell BK331.out 0).trans rfl, (blk_cell BK351.out 0).trans rfl, (blk_cell BK351.out 1).trans rfl⟩ (fun hHeld => ?_)
                              generalize w155.drew = w156 at HO_326000 HO_332000 HO_339000 BK325 BK331 BK332 BK338 BK339 BK351 HB hHeld ⊢
                              refine pure_ (i := 1) (N := some 131) (v := ?_) (a' := ?_) #[false, true, false, false, false] rfl rfl (by kernel_rfl) (fun _ _ _ h => h) (Or.inl ⟨by rfl, ?_⟩) ?_ ?_
                              rotate_left
                              · intro w'
                                go_simp
                                with_reducible rfl
                              rotate_left
                              · simp only [Act.put, List.setIfInBounds_toArray, List.set_cons_zero, List.set_cons_succ, i64_w, i32_w]
                                rfl
                              refine take_ (i := 0) (N := some 130) (v := ?_) (a' := ?_) #[true, true, false, false, false] rfl rfl (by kernel_rfl) (fun _ _ _ h => h) (Or.inl ⟨by rfl, ?_⟩) hHeld ?_ ?_
                              rotate_left
                              · rintro w' ⟨s0, s1, s2⟩
                                go_simp
                                with_reducible rfl
                              rotate_left
                              · simp only [Act.put, List.setIfInBounds_toArray, List.set_cons_zero, List.set_cons_succ, i64_w, i32_w]
                                rfl
                              refine take_ (i := 3) (N := some 133) (v := ?_) (a' := ?_) #[true, true, false, true, false] rfl rfl (by kernel_rfl) (fun _ _ _ h => h) (Or.inl ⟨by rfl, ?_⟩) hHeld ?_ ?_
                              rotate_left
                              · rintro w' ⟨s0, s1, s2⟩
                                go_simp
                                with_reducible rfl
                              rotate_left
                              · simp only [Act.put, List.setIfInBounds_toArray, List.set_cons_zero, List.set_cons_succ, i64_w, i32_w]
                                rfl
                              refine one_ (i := 2) (N := some 132) #[true, true, true, true, false] rfl rfl (by kernel_rfl) (by decide) (fun K hK => ?_)
                              refine goes_ Try.func18 (by kernel_rfl) rfl #[.agg #[.slice Ao14 t326.length co14], .int .i64 x11_3] (by rfl) rfl rfl (by (try simp only [List.map_toArray, List.map_cons, List.map_nil]); first | done | rfl | (simp only [List.length_drop, List.length_take]; rfl)) ?_
                              with_reducible refine (impl_MapGet.calls k3 _ _ t326 x11_3 t354 t355 _ ?side1 ?side2 A140.out).mono ?_
                              (case side1 => repeat (first | exact (Kd.R_reads' HO_332000.out).2.2 | (with_reducible refine Kd.C_alloc ?_ _) | (with_reducible refine Kd.C_drewN ?_ _) | (with_reducible refine Kd.C_drew ?_)))
                              (case side2 => exact (Kd.R_reads' HO_332000.out).2.1)
                              rintro e w157 ⟨rfl, hb⟩
                              refine ⟨_, rfl, ?_⟩
                              have n0_ := aS_ (Kd.R_below (by (with_reducible repeat (first | apply rA_ | apply rN_ | apply rD_)); exact HO_326000.out) hb)
                              have n1_ := aS_ (Kd.R_below (by (with_reducible repeat (first | apply rA_ | apply rN_ | apply rD_)); exact HO_332000.out) hb)
                              have n2_ := aS_ (Kd.R_below (by (with_reducible repeat (first | apply rA_ | apply rN_ | apply rD_)); exact HO_339000.out) hb)
                              have n3_ := aS_ (blk_below (g := gb325) (o := .cells #[.slice Ao9 t320.length co9] 25 (0, 0)) (by (with_reducible repeat (first | refine kN_ ?_ _ | refine kD_ ?_ | refine kA_ ?_ _)); exact BK325.out) hb)
                              have n4_ := aS_ (blk_below (g := gb331) (o := .cells #[.slice Ao14 t326.length co14] 25 (0, 0)) (by (with_reducible repeat (first | refine kN_ ?_ _ | refine kD_ ?_ | refine kA_ ?_ _)); exact BK331.out) hb)
                              have n5_ := aS_ (blk_below (g := gb332) (o := .cells #[.int .i64 t329, .int .i64 t330] 29 (0, 0)) (by (with_reducible repeat (first | refine kN_ ?_ _ | refine kD_ ?_ | refine kA_ ?_ _)); exact BK332.out) hb)
                              have n6_ := aS_ (blk_below (g := gb338) (o := .cells #[.slice Ao24 t333.length co24] 25 (0, 0)) (by (with_reducible repeat (first | refine kN_ ?_ _ | refine kD_ ?_ | refine kA_ ?_ _)); exact BK338.out) hb)
                              have n7_ := aS_ (blk_below (g := gb339) (o := .cells #[.int .i64 t336, .int .i64 t337] 29 (0, 0)) (by (with_reducible repeat (first | refine kN_ ?_ _ | refine kD_ ?_ | refine kA_ ?_ _)); exact BK339.out) hb)
                              have n8_ := aS_ (blk_below (g := gb351) (o := .cells #[.int .i64 t349, .int .i64 t350] 29 (0, 0)) (by (with_reducible repeat (first | refine kN_ ?_ _ | refine kD_ ?_ | refine kA_ ?_ _)); exact BK351.out) hb)
                              have n9_ := aS_ (below_step (by repeat (first | (with_reducible first | exact HB.out | apply bA_ | apply bN_ | apply bD_ | refine below_set ?_ GE325.out | refine below_set ?_ GE331.out | refine below_set ?_ GE332.out | refine below_set ?_ GE338.out | refine below_set ?_ GE339.out | refine below_set ?_ GE351.out) | exact HB.out)) hb)
                              clear HO_326000
                              clear HO_332000
                              clear HO_339000
                              clear BK325
                              clear BK331
                              clear BK332
                              clear BK338
                              clear BK339
                              clear BK351
                              clear HB
                              have HO_326000 := n0_
                              have HO_332000 := n1_
                              have HO_339000 := n2_
                              have BK325 := n3_
                              have BK331 := n4_
                              have BK332 := n5_
                              have BK338 := n6_
                              have BK339 := n7_
                              have BK351 := n8_
                              have HB := n9_
                              clear n0_ n1_ n2_ n3_ n4_ n5_ n6_ n7_ n8_ n9_
                              (try clear hb)
                              (try clear hb2)
                              (try clear hk)
                              (try clear hi)
                              refine hK.out _ _ ⟨(blk_cell BK331.out 0).trans rfl, (blk_cell BK351.out 0).trans rfl, (blk_cell BK351.out 1).trans rfl⟩ (fun hHeld => ?_)
                              clear hK K
                              refine norm_ (a' := ?_) ?_ ?_
                              rotate_left
                              · show Act.put _ (some 132) _ = _
                                simp only [Act.put, List.setIfInBounds_toArray, List.set_cons_zero, List.set_cons_succ, i64_w, i32_w]
                                rfl
                              refine pure_ (i := 4) (N := some 134) (v := ?_) (a' := ?_) #[true, true, true, true, true] rfl rfl (by kernel_rfl) (fun _ _ _ h => h) (Or.inl ⟨by rfl, ?_⟩) ?_ ?_
                              rotate_left
                              · intro w'
                                go_simp
                                with_reducible rfl
                              rotate_left
                              · simp only [Act.put, List.setIfInBounds_toArray, List.set_cons_zero, List.set_cons_succ, i64_w, i32_w]
                                rfl
                              refine done_ (by kernel_rfl) ?_
                              try go_wp2
                              go_roundg k3
                              case measure => have := HJ5.out; have := HJ50.out; have := HK3.out; omega
                              case rel => exact ⟨(wrap64 (x11_3 + 1)), (by first | rfl | (simp; done) | (simp [*]; done)), H', ⟨by have := HJ5.out; have := HJ50.out; have := HK3.out; omega⟩, ⟨by (with_reducible repeat (first | apply rA_ | apply rN_ | apply rD_)); exact HO_326000.out⟩, ⟨by (with_reducible repeat (first | apply rA_ | apply rN_ | apply rD_)); exact HO_332000.out⟩, ⟨by (with_reducible repeat (first | apply rA_ | apply rN_ | apply rD_)); exact HO_339000.out⟩, ⟨by (with_reducible repeat (first | refine kN_ ?_ _ | refine kD_ ?_ | refine kA_ ?_ _)); exact BK325.out⟩, ⟨by (with_reducible repeat (first | refine kN_ ?_ _ | refine kD_ ?_ | refine kA_ ?_ _)); exact BK331.out⟩, ⟨by (with_reducible repeat (first | refine kN_ ?_ _ | refine kD_ ?_ | refine kA_ ?_ _)); exact BK332.out⟩, ⟨by (with_reducible repeat (first | refine kN_ ?_ _ | refine kD_ ?_ | refine kA_ ?_ _)); exact BK338.out⟩, ⟨by (with_reducible repeat (first | refine kN_ ?_ _ | refine kD_ ?_ | refine kA_ ?_ _)); exact BK339.out⟩, ⟨by repeat (first | (with_reducible first | exact HB.out | apply bA_ | apply bN_ | apply bD_ | refine below_set ?_ GE325.out | refine below_set ?_ GE331.out | refine below_set ?_ GE332.out | refine below_set ?_ GE338.out | refine below_set ?_ GE339.out | refine below_set ?_ GE351.out) | exact HB.out)⟩⟩
                        · rw [if_neg c119] at H
                          have c119b0 : decide (x11_3 ≤ 99) = false := decide_eq_false c119
                          clear c119
                          obtain rfl := Option.some.inj H
                          go_wp2
                          go_ret
                          exact ⟨by first | rfl | (simp [errW_none, errW_some] <;> rfl) | (simp [*, errW_none, errW_some] <;> rfl), by repeat (first | (with_reducible first | exact HB.out | apply bA_ | apply bN_ | apply bD_ | refine below_set ?_ GE325.out | refine below_set ?_ GE331.out | refine below_set ?_ GE332.out | refine below_set ?_ GE338.out | refine below_set ?_ GE339.out) | exact HB.out)⟩
                  · rw [if_neg c104] at H
                    have c104b0 : (t329 == 2) = false := beq_eq_false_iff_ne.mpr c104
                    have c104b1 : (t329 != 2) = true := bne_iff_ne.mpr c104
                    replace H := Option.bind_eq_some_iff.mp H
                    obtain ⟨t348, A1580, H⟩ := H
                    replace H : (if t348 = true then (if ((t329 == 1) == (t346 == 2)) = true then (if t346 = 2 then (some ((t329 == 3) == false)) else (some ((t329 == 3) == ((t320.length : Int) == 8)))) else (some false)) else (some false)) = some r := H
                    have A158 := aS_ A1580
                    clear A1580
                    by_cases c159 : t348 = true
                    · subst c159
                      have H1 : (if ((t329 == 1) == (t346 == 2)) = true then (if t346 = 2 then (some ((t329 == 3) == false)) else (some ((t329 == 3) == ((t320.length : Int) == 8)))) else (some false)) = some r := by rw [if_pos rfl] at H; exact H
                      clear H
                      have H := H1
                      clear H1
                      by_cases c160 : ((t329 == 1) == (t346 == 2)) = true
                      · rw [if_pos c160] at H
                        have c160b0 : ((t329 == 1) == (t346 == 2)) = true := c160
                        (try (have c160b1 : decide ((t329 == 1) = (t346 == 2)) = true := by simpa using c160))
                        (try (have c160b2 : ((t329 == 1) == (t346 == 2)) = true := by simpa using c160))
                        clear c160
                        by_cases c161 : t346 = 2
                        · rw [if_pos c161] at H
                          have c161b0 : (t346 == 2) = true := beq_iff_eq.mpr c161
                          have c161b1 : (t346 != 2) = false := bne_eq_false_iff_eq.mpr c161
                          have c160x : (t329 == 1) = true := by simpa [c161b0] using c160b0
                          have c160y : t329 = 1 := by simpa using c160x
                          clear c161
                          obtain rfl := Option.some.inj H
                          have hnb162 := NB331_325.out
                          have hnc162 := NB325_331.out
                          have hnb163 := NB331_332.out
                          have hnc163 := NB332_331.out
                          have hnb164 := NB331_338.out
                          have hnc164 := NB338_331.out
                          have hnb165 := NB331_339.out
                          have hnc165 := NB339_331.out
                          have hcz166_0 : wc.cell? ⟨gb331, 0, none⟩ = some (.slice Ao14 t326.length co14) := (blk_cell BK331.out 0).trans rfl
                          have hfz166_0 := blk_frozen BK331.out 0
                          go_wp2_with (first | ((with_reducible refine gate_callee (f := 17) rfl ?_); refine goesL_ (some 84) rfl rfl Try.func17 (by kernel_rfl) rfl #[.agg #[.slice Ao14 t326.length co14]] rfl (by (try simp only [List.map_toArray, List.map_cons, List.map_nil]); first | done | rfl | (simp only [List.length_drop, List.length_take]; rfl)) ?_; (with_reducible refine (impl_MapOk.calls kj50 _ _ t326 true _ ?side1 ?side2 A101.out).mono ?_); (case side1 => repeat (first | exact (Kd.R_reads' HO_332000.out).2.2 | (with_reducible refine Kd.C_alloc ?_ _) | (with_reducible refine Kd.C_drewN ?_ _) | (with_reducible refine Kd.C_drew ?_))); (case side2 => exact (Kd.R_reads' HO_332000.out).2.1); rintro e w167 ⟨rfl, hb⟩; refine ⟨_, rfl, ?_⟩; have n0_ := aS_ (Kd.R_below (by (with_reducible repeat (first | apply rA_ | apply rN_ | apply rD_)); exact HO_326000.out) hb); have n1_ := aS_ (Kd.R_below (by (with_reducible repeat (first | apply rA_ | apply rN_ | apply rD_)); exact HO_332000.out) hb); have n2_ := aS_ (Kd.R_below (by (with_reducible repeat (first | apply rA_ | apply rN_ | apply rD_)); exact HO_339000.out) hb); have n3_ := aS_ (blk_below (g := gb325) (o := .cells #[.slice Ao9 t320.length co9] 25 (0, 0)) (by (with_reducible repeat (first | refine kN_ ?_ _ | refine kD_ ?_ | refine kA_ ?_ _)); exact BK325.out) hb); have n4_ := aS_ (blk_below (g := gb331) (o := .cells #[.slice Ao14 t326.length co14] 25 (0, 0)) (by (with_reducible repeat (first | refine kN_ ?_ _ | refine kD_ ?_ | refine kA_ ?_ _)); exact BK331.out) hb); have n5_ := aS_ (blk_below (g := gb332) (o := .cells #[.int .i64 t329, .int .i64 t330] 29 (0, 0)) (by (with_reducible repeat (first | refine kN_ ?_ _ | refine kD_ ?_ | refine kA_ ?_ _)); exact BK332.out) hb); have n6_ := aS_ (blk_below (g := gb338) (o := .cells #[.slice Ao24 t333.length co24] 25 (0, 0)) (by (with_reducible repeat (first | refine kN_ ?_ _ | refine kD_ ?_ | refine kA_ ?_ _)); exact BK338.out) hb); have n7_ := aS_ (blk_below (g := gb339) (o := .cells #[.int .i64 t336, .int .i64 t337] 29 (0, 0)) (by (with_reducible repeat (first | refine kN_ ?_ _ | refine kD_ ?_ | refine kA_ ?_ _)); exact BK339.out) hb); have n8_ := aS_ (below_step (by repeat (first | (with_reducible first | exact HB.out | apply bA_ | apply bN_ | apply bD_ | refine below_set ?_ GE325.out | refine below_set ?_ GE331.out | refine below_set ?_ GE332.out | refine below_set ?_ GE338.out | refine below_set ?_ GE339.out) | exact HB.out)) hb); clear HO_326000; clear HO_332000; clear HO_339000; clear BK325; clear BK331; clear BK332; clear BK338; clear BK339; clear HB; have HO_326000 := n0_; have HO_332000 := n1_; have HO_339000 := n2_; have BK325 := n3_; have BK331 := n4_; have BK332 := n5_; have BK338 := n6_; have BK339 := n7_; have HB := n8_; clear n0_ n1_ n2_ n3_ n4_ n5_ n6_ n7_ n8_; (try clear hb); (try clear hb2); (try clear hk); (try clear hi); have hnb168 := NB325_332.out; have hnc168 := NB332_325.out; have hnb169 := NB325_338.out; have hnc169 := NB338_325.out; have hnb170 := NB325_339.out; have hnc170 := NB339_325.out; have hcz171_0 : w167.cell? ⟨gb325, 0, none⟩ = some (.slice Ao9 t320.length co9) := (blk_cell BK325.out 0).trans rfl; have hfz171_0 := blk_frozen BK325.out 0) | ((with_reducible refine gate_callee (f := 18) rfl ?_); refine goesL_ (some 88) rfl rfl Try.func18 (by kernel_rfl) rfl #[.agg #[.slice Ao9 t320.length co9], .int .i64 t323] rfl (by (try simp only [List.map_toArray, List.map_cons, List.map_nil]); first | done | rfl | (simp only [List.length_drop, List.length_take]; rfl)) ?_; (with_reducible refine (impl_MapGet.calls kj50 _ _ t320 t323 t346 t347 _ ?side1 ?side2 A103.out).mono ?_); (case side1 => repeat (first | exact (Kd.R_reads' HO_326000.out).2.2 | (with_reducible refine Kd.C_alloc ?_ _) | (with_reducible refine Kd.C_drewN ?_ _) | (with_reducible refine Kd.C_drew ?_))); (case side2 => exact (Kd.R_reads' HO_326000.out).2.1); rintro e w172 ⟨rfl, hb⟩; refine ⟨_, rfl, ?_⟩; have n0_ := aS_ (Kd.R_below (by (with_reducible repeat (first | apply rA_ | apply rN_ | apply rD_)); exact HO_326000.out) hb); have n1_ := aS_ (Kd.R_below (by (with_reducible repeat (first | apply rA_ | apply rN_ | apply rD_)); exact HO_332000.out) hb); have n2_ := aS_ (Kd.R_below (by (with_reducible repeat (first | apply rA_ | apply rN_ | apply rD_)); exact HO_339000.out) hb); have n3_ := aS_ (blk_below (g := gb325) (o := .cells #[.slice Ao9 t320.length co9] 25 (0, 0)) (by (with_reducible repeat (first | refine kN_ ?_ _ | refine kD_ ?_ | refine kA_ ?_ _)); exact BK325.out) hb); have n4_ := aS_ (blk_below (g := gb331) (o := .cells #[.slice Ao14 t326.length co14] 25 (0, 0)) (by (with_reducible repeat (first | refine kN_ ?_ _ | refine kD_ ?_ | refine kA_ ?_ _)); exact BK331.out) hb); have n5_ := aS_ (blk_below (g := gb332) (o := .cells #[.int .i64 t329, .int .i64 t330] 29 (0, 0)) (by (with_reducible repeat (first | refine kN_ ?_ _ | refine kD_ ?_ | refine kA_ ?_ _)); exact BK332.out) hb); have n6_ := aS_ (blk_below (g := gb338) (o := .cells #[.slice Ao24 t333.length co24] 25 (0, 0)) (by (with_reducible repeat (first | refine kN_ ?_ _ | refine kD_ ?_ | refine kA_ ?_ _)); exact BK338.out) hb); have n7_ := aS_ (blk_below (g := gb339) (o := .cells #[.int .i64 t336, .int .i64 t337] 29 (0, 0)) (by (with_reducible repeat (first | refine kN_ ?_ _ | refine kD_ ?_ | refine kA_ ?_ _)); exact BK339.out) hb); have n8_ := aS_ (below_step (by repeat (first | (with_reducible first | exact HB.out | apply bA_ | apply bN_ | apply bD_ | refine below_set ?_ GE325.out | refine below_set ?_ GE331.out | refine below_set ?_ GE332.out | refine below_set ?_ GE338.out | refine below_set ?_ GE339.out) | exact HB.out)) hb); clear HO_326000; clear HO_332000; clear HO_339000; clear BK325; clear BK331; clear BK332; clear BK338; clear BK339; clear HB; have HO_326000 := n0_; have HO_332000 := n1_; have HO_339000 := n2_; have BK325 := n3_; have BK331 := n4_; have BK332 := n5_; have BK338 := n6_; have BK339 := n7_; have HB := n8_; clear n0_ n1_ n2_ n3_ n4_ n5_ n6_ n7_ n8_; (try clear hb); (try clear hb2); (try clear hk); (try clear hi); have hnb173 := NB332_338.out; have hnc173 := NB338_332.out; have hnb174 := NB332_339.out; have hnc174 := NB339_332.out; have hcz175_0 : w172.cell? ⟨gb332, 0, none⟩ = some (.int .i64 t329) := (blk_cell BK332.out 0).trans rfl; have hcz175_1 : w172.cell? ⟨gb332, 1, none⟩ = some (.int .i64 t330) := (blk_cell BK332.out 1).trans rfl; have hfz175_0 := blk_frozen BK332.out 0; have hfz175_1 := blk_frozen BK332.out 1; have hcz176_0 : w172.cell? ⟨gb331, 0, none⟩ = some (.slice Ao14 t326.length co14) := (blk_cell BK331.out 0).trans rfl; have hfz176_0 := blk_frozen BK331.out 0; have hcz177_0 : w172.cell? ⟨gb325, 0, none⟩ = some (.slice Ao9 t320.length co9) := (blk_cell BK325.out 0).trans rfl; have hfz177_0 := blk_frozen BK325.out 0) | ((with_reducible refine gate_callee (f := 14) rfl ?_); refine goesL_ (some 96) rfl rfl Try.func14 (by kernel_rfl) rfl #[.agg #[.slice Ao14 t326.length co14], .agg #[.slice Ao9 t320.length co9]] rfl (by (try simp only [List.map_toArray, List.map_cons, List.map_nil]); first | done | rfl | (simp only [List.length_drop, List.length_take]; rfl)) ?_; (with_reducible refine (laws_tgMap.calls kj50 _ _ t326 _ _ t320 true _ ?side1 ?side2 ?side3 ?side4 A158.out).mono ?_); (case side1 => repeat (first | exact (Kd.R_reads' HO_332000.out).2.2 | (with_reducible refine Kd.C_alloc ?_ _) | (with_reducible refine Kd.C_drewN ?_ _) | (with_reducible refine Kd.C_drew ?_))); (case side2 => exact (Kd.R_reads' HO_332000.out).2.1); (case side3 => repeat (first | exact (Kd.R_reads' HO_326000.out).2.2 | (with_reducible refine Kd.C_alloc ?_ _) | (with_reducible refine Kd.C_drewN ?_ _) | (with_reducible refine Kd.C_drew ?_))); (case side4 => exact (Kd.R_reads' HO_326000.out).2.1); rintro e w178 ⟨rfl, hb⟩; refine ⟨_, rfl, ?_⟩; have n0_ := aS_ (Kd.R_below (by (with_reducible repeat (first | apply rA_ | apply rN_ | apply rD_)); exact HO_326000.out) hb); have n1_ := aS_ (Kd.R_below (by (with_reducible repeat (first | apply rA_ | apply rN_ | apply rD_)); exact HO_332000.out) hb); have n2_ := aS_ (Kd.R_below (by (with_reducible repeat (first | apply rA_ | apply rN_ | apply rD_)); exact HO_339000.out) hb); have n3_ := aS_ (blk_below (g := gb325) (o := .cells #[.slice Ao9 t320.length co9] 25 (0, 0)) (by (with_reducible repeat (first | refine kN_ ?_ _ | refine kD_ ?_ | refine kA_ ?_ _)); exact BK325.out) hb); have n4_ := aS_ (blk_below (g := gb331) (o := .cells #[.slice Ao14 t326.length co14] 25 (0, 0)) (by (with_reducible repeat (first | refine kN_ ?_ _ | refine kD_ ?_ | refine kA_ ?_ _)); exact BK331.out) hb); have n5_ := aS_ (blk_below (g := gb332) (o := .cells #[.int .i64 t329, .int .i64 t330] 29 (0, 0)) (by (with_reducible repeat (first | refine kN_ ?_ _ | refine kD_ ?_ | refine kA_ ?_ _)); exact BK332.out) hb); have n6_ := aS_ (blk_below (g := gb338) (o := .cells #[.slice Ao24 t333.length co24] 25 (0, 0)) (by (with_reducible repeat (first | refine kN_ ?_ _ | refine kD_ ?_ | refine kA_ ?_ _)); exact BK338.out) hb); have n7_ := aS_ (blk_below (g := gb339) (o := .cells #[.int .i64 t336, .int .i64 t337] 29 (0, 0)) (by (with_reducible repeat (first | refine kN_ ?_ _ | refine kD_ ?_ | refine kA_ ?_ _)); exact BK339.out) hb); have n8_ := aS_ (below_step (by repeat (first | (with_reducible first | exact HB.out | apply bA_ | apply bN_ | apply bD_ | refine below_set ?_ GE325.out | refine below_set ?_ GE331.out | refine below_set ?_ GE332.out | refine below_set ?_ GE338.out | refine below_set ?_ GE339.out) | exact HB.out)) hb); clear HO_326000; clear HO_332000; clear HO_339000; clear BK325; clear BK331; clear BK332; clear BK338; clear BK339; clear HB; have HO_326000 := n0_; have HO_332000 := n1_; have HO_339000 := n2_; have BK325 := n3_; have BK331 := n4_; have BK332 := n5_; have BK338 := n6_; have BK339 := n7_; have HB := n8_; clear n0_ n1_ n2_ n3_ n4_ n5_ n6_ n7_ n8_; (try clear hb); (try clear hb2); (try clear hk); (try clear hi); have hcz179_0 : w178.cell? ⟨gb332, 0, none⟩ = some (.int .i64 t329) := (blk_cell BK332.out 0).trans rfl; have hcz179_1 : w178.cell? ⟨gb332, 1, none⟩ = some (.int .i64 t330) := (blk_cell BK332.out 1).trans rfl; have hfz179_0 := blk_frozen BK332.out 0; have hfz179_1 := blk_frozen BK332.out 1))
                          go_ret
                          exact ⟨by first | rfl | (simp [errW_none, errW_some] <;> rfl) | (simp [*, errW_none, errW_some] <;> rfl), by repeat (first | (with_reducible first | exact HB.out | apply bA_ | apply bN_ | apply bD_ | refine below_set ?_ GE325.out | refine below_set ?_ GE331.out | refine below_set ?_ GE332.out | refine below_set ?_ GE338.out | refine below_set ?_ GE339.out) | exact HB.out)⟩
                        · rw [if_neg c161] at H
                          have c161b0 : (t346 == 2) = false := beq_eq_false_iff_ne.mpr c161
                          have c161b1 : (t346 != 2) = true := bne_iff_ne.mpr c161
                          have c160x : (t329 == 1) = false := by simpa [c161b0] using c160b0
                          have c160y : ¬ t329 = 1 := by simpa using c160x
                          obtain rfl := Option.some.inj H
                          have hnb180 := NB331_325.out
                          have hnc180 := NB325_331.out
                          have hnb181 := NB331_332.out
                          have hnc181 := NB332_331.out
                          have hnb182 := NB331_338.out
                          have hnc182 := NB338_331.out
                          have hnb183 := NB331_339.out
                          have hnc183 := NB339_331.out
                          have hcz184_0 : wc.cell? ⟨gb331, 0, none⟩ = some (.slice Ao14 t326.length co14) := (blk_cell BK331.out 0).trans rfl
                          have hfz184_0 := blk_frozen BK331.out 0
                          go_wp2_with (first | ((with_reducible refine gate_callee (f := 17) rfl ?_); refine goesL_ (some 84) rfl rfl Try.func17 (by kernel_rfl) rfl #[.agg #[.slice Ao14 t326.length co14]] rfl (by (try simp only [List.map_toArray, List.map_cons, List.map_nil]); first | done | rfl | (simp only [List.length_drop, List.length_take]; rfl)) ?_; (with_reducible refine (impl_MapOk.calls kj50 _ _ t326 true _ ?side1 ?side2 A101.out).mono ?_); (case side1 => repeat (first | exact (Kd.R_reads' HO_332000.out).2.2 | (with_reducible refine Kd.C_alloc ?_ _) | (with_reducible refine Kd.C_drewN ?_ _) | (with_reducible refine Kd.C_drew ?_))); (case side2 => exact (Kd.R_reads' HO_332000.out).2.1); rintro e w185 ⟨rfl, hb⟩; refine ⟨_, rfl, ?_⟩; have n0_ := aS_ (Kd.R_below (by (with_reducible repeat (first | apply rA_ | apply rN_ | apply rD_)); exact HO_326000.out) hb); have n1_ := aS_ (Kd.R_below (by (with_reducible repeat (first | apply rA_ | apply rN_ | apply rD_)); exact HO_332000.out) hb); have n2_ := aS_ (Kd.R_below (by (with_reducible repeat (first | apply rA_ | apply rN_ | apply rD_)); exact HO_339000.out) hb); have n3_ := aS_ (blk_below (g := gb325) (o := .cells #[.slice Ao9 t320.length co9] 25 (0, 0)) (by (with_reducible repeat (first | refine kN_ ?_ _ | refine kD_ ?_ | refine kA_ ?_ _)); exact BK325.out) hb); have n4_ := aS_ (blk_below (g := gb331) (o := .cells #[.slice Ao14 t326.length co14] 25 (0, 0)) (by (with_reducible repeat (first | refine kN_ ?_ _ | refine kD_ ?_ | refine kA_ ?_ _)); exact BK331.out) hb); have n5_ := aS_ (blk_below (g := gb332) (o := .cells #[.int .i64 t329, .int .i64 t330] 29 (0, 0)) (by (with_reducible repeat (first | refine kN_ ?_ _ | refine kD_ ?_ | refine kA_ ?_ _)); exact BK332.out) hb); have n6_ := aS_ (blk_below (g := gb338) (o := .cells #[.slice Ao24 t333.length co24] 25 (0, 0)) (by (with_reducible repeat (first | refine kN_ ?_ _ | refine kD_ ?_ | refine kA_ ?_ _)); exact BK338.out) hb); have n7_ := aS_ (blk_below (g := gb339) (o := .cells #[.int .i64 t336, .int .i64 t337] 29 (0, 0)) (by (with_reducible repeat (first | refine kN_ ?_ _ | refine kD_ ?_ | refine kA_ ?_ _)); exact BK339.out) hb); have n8_ := aS_ (below_step (by repeat (first | (with_reducible first | exact HB.out | apply bA_ | apply bN_ | apply bD_ | refine below_set ?_ GE325.out | refine below_set ?_ GE331.out | refine below_set ?_ GE332.out | refine below_set ?_ GE338.out | refine below_set ?_ GE339.out) | exact HB.out)) hb); clear HO_326000; clear HO_332000; clear HO_339000; clear BK325; clear BK331; clear BK332; clear BK338; clear BK339; clear HB; have HO_326000 := n0_; have HO_332000 := n1_; have HO_339000 := n2_; have BK325 := n3_; have BK331 := n4_; have BK332 := n5_; have BK338 := n6_; have BK339 := n7_; have HB := n8_; clear n0_ n1_ n2_ n3_ n4_ n5_ n6_ n7_ n8_; (try clear hb); (try clear hb2); (try clear hk); (try clear hi); have hnb186 := NB325_332.out; have hnc186 := NB332_325.out; have hnb187 := NB325_338.out; have hnc187 := NB338_325.out; have hnb188 := NB325_339.out; have hnc188 := NB339_325.out; have hcz189_0 : w185.cell? ⟨gb325, 0, none⟩ = some (.slice Ao9 t320.length co9) := (blk_cell BK325.out 0).trans rfl; have hfz189_0 := blk_frozen BK325.out 0) | ((with_reducible refine gate_callee (f := 18) rfl ?_); refine goesL_ (some 88) rfl rfl Try.func18 (by kernel_rfl) rfl #[.agg #[.slice Ao9 t320.length co9], .int .i64 t323] rfl (by (try simp only [List.map_toArray, List.map_cons, List.map_nil]); first | done | rfl | (simp only [List.length_drop, List.length_take]; rfl)) ?_; (with_reducible refine (impl_MapGet.calls kj50 _ _ t320 t323 t346 t347 _ ?side1 ?side2 A103.out).mono ?_); (case side1 => repeat (first | exact (Kd.R_reads' HO_326000.out).2.2 | (with_reducible refine Kd.C_alloc ?_ _) | (with_reducible refine Kd.C_drewN ?_ _) | (with_reducible refine Kd.C_drew ?_))); (case side2 => exact (Kd.R_reads' HO_326000.out).2.1); rintro e w190 ⟨rfl, hb⟩; refine ⟨_, rfl, ?_⟩; have n0_ := aS_ (Kd.R_below (by (with_reducible repeat (first | apply rA_ | apply rN_ | apply rD_)); exact HO_326000.out) hb); have n1_ := aS_ (Kd.R_below (by (with_reducible repeat (first | apply rA_ | apply rN_ | apply rD_)); exact HO_332000.out) hb); have n2_ := aS_ (Kd.R_below (by (with_reducible repeat (first | apply rA_ | apply rN_ | apply rD_)); exact HO_339000.out) hb); have n3_ := aS_ (blk_below (g := gb325) (o := .cells #[.slice Ao9 t320.length co9] 25 (0, 0)) (by (with_reducible repeat (first | refine kN_ ?_ _ | refine kD_ ?_ | refine kA_ ?_ _)); exact BK325.out) hb); have n4_ := aS_ (blk_below (g := gb331) (o := .cells #[.slice Ao14 t326.length co14] 25 (0, 0)) (by (with_reducible repeat (first | refine kN_ ?_ _ | refine kD_ ?_ | refine kA_ ?_ _)); exact BK331.out) hb); have n5_ := aS_ (blk_below (g := gb332) (o := .cells #[.int .i64 t329, .int .i64 t330] 29 (0, 0)) (by (with_reducible repeat (first | refine kN_ ?_ _ | refine kD_ ?_ | refine kA_ ?_ _)); exact BK332.out) hb); have n6_ := aS_ (blk_below (g := gb338) (o := .cells #[.slice Ao24 t333.length co24] 25 (0, 0)) (by (with_reducible repeat (first | refine kN_ ?_ _ | refine kD_ ?_ | refine kA_ ?_ _)); exact BK338.out) hb); have n7_ := aS_ (blk_below (g := gb339) (o := .cells #[.int .i64 t336, .int .i64 t337] 29 (0, 0)) (by (with_reducible repeat (first | refine kN_ ?_ _ | refine kD_ ?_ | refine kA_ ?_ _)); exact BK339.out) hb); have n8_ := aS_ (below_step (by repeat (first | (with_reducible first | exact HB.out | apply bA_ | apply bN_ | apply bD_ | refine below_set ?_ GE325.out | refine below_set ?_ GE331.out | refine below_set ?_ GE332.out | refine below_set ?_ GE338.out | refine below_set ?_ GE339.out) | exact HB.out)) hb); clear HO_326000; clear HO_332000; clear HO_339000; clear BK325; clear BK331; clear BK332; clear BK338; clear BK339; clear HB; have HO_326000 := n0_; have HO_332000 := n1_; have HO_339000 := n2_; have BK325 := n3_; have BK331 := n4_; have BK332 := n5_; have BK338 := n6_; have BK339 := n7_; have HB := n8_; clear n0_ n1_ n2_ n3_ n4_ n5_ n6_ n7_ n8_; (try clear hb); (try clear hb2); (try clear hk); (try clear hi); have hnb191 := NB332_338.out; have hnc191 := NB338_332.out; have hnb192 := NB332_339.out; have hnc192 := NB339_332.out; have hcz193_0 : w190.cell? ⟨gb332, 0, none⟩ = some (.int .i64 t329) := (blk_cell BK332.out 0).trans rfl; have hcz193_1 : w190.cell? ⟨gb332, 1, none⟩ = some (.int .i64 t330) := (blk_cell BK332.out 1).trans rfl; have hfz193_0 := blk_frozen BK332.out 0; have hfz193_1 := blk_frozen BK332.out 1; have hcz194_0 : w190.cell? ⟨gb331, 0, none⟩ = some (.slice Ao14 t326.length co14) := (blk_cell BK331.out 0).trans rfl; have hfz194_0 := blk_frozen BK331.out 0; have hcz195_0 : w190.cell? ⟨gb325, 0, none⟩ = some (.slice Ao9 t320.length co9) := (blk_cell BK325.out 0).trans rfl; have hfz195_0 := blk_frozen BK325.out 0) | ((with_reducible refine gate_callee (f := 14) rfl ?_); refine goesL_ (some 96) rfl rfl Try.func14 (by kernel_rfl) rfl #[.agg #[.slice Ao14 t326.length co14], .agg #[.slice Ao9 t320.length co9]] rfl (by (try simp only [List.map_toArray, List.map_cons, List.map_nil]); first | done | rfl | (simp only [List.length_drop, List.length_take]; rfl)) ?_; (with_reducible refine (laws_tgMap.calls kj50 _ _ t326 _ _ t320 true _ ?side1 ?side2 ?side3 ?side4 A158.out).mono ?_); (case side1 => repeat (first | exact (Kd.R_reads' HO_332000.out).2.2 | (with_reducible refine Kd.C_alloc ?_ _) | (with_reducible refine Kd.C_drewN ?_ _) | (with_reducible refine Kd.C_drew ?_))); (case side2 => exact (Kd.R_reads' HO_332000.out).2.1); (case side3 => repeat (first | exact (Kd.R_reads' HO_326000.out).2.2 | (with_reducible refine Kd.C_alloc ?_ _) | (with_reducible refine Kd.C_drewN ?_ _) | (with_reducible refine Kd.C_drew ?_))); (case side4 => exact (Kd.R_reads' HO_326000.out).2.1); rintro e w196 ⟨rfl, hb⟩; refine ⟨_, rfl, ?_⟩; have n0_ := aS_ (Kd.R_below (by (with_reducible repeat (first | apply rA_ | apply rN_ | apply rD_)); exact HO_326000.out) hb); have n1_ := aS_ (Kd.R_below (by (with_reducible repeat (first | apply rA_ | apply rN_ | apply rD_)); exact HO_332000.out) hb); have n2_ := aS_ (Kd.R_below (by (with_reducible repeat (first | apply rA_ | apply rN_ | apply rD_)); exact HO_339000.out) hb); have n3_ := aS_ (blk_below (g := gb325) (o := .cells #[.slice Ao9 t320.length co9] 25 (0, 0)) (by (with_reducible repeat (first | refine kN_ ?_ _ | refine kD_ ?_ | refine kA_ ?_ _)); exact BK325.out) hb); have n4_ := aS_ (blk_below (g := gb331) (o := .cells #[.slice Ao14 t326.length co14] 25 (0, 0)) (by (with_reducible repeat (first | refine kN_ ?_ _ | refine kD_ ?_ | refine kA_ ?_ _)); exact BK331.out) hb); have n5_ := aS_ (blk_below (g := gb332) (o := .cells #[.int .i64 t329, .int .i64 t330] 29 (0, 0)) (by (with_reducible repeat (first | refine kN_ ?_ _ | refine kD_ ?_ | refine kA_ ?_ _)); exact BK332.out) hb); have n6_ := aS_ (blk_below (g := gb338) (o := .cells #[.slice Ao24 t333.length co24] 25 (0, 0)) (by (with_reducible repeat (first | refine kN_ ?_ _ | refine kD_ ?_ | refine kA_ ?_ _)); exact BK338.out) hb); have n7_ := aS_ (blk_below (g := gb339) (o := .cells #[.int .i64 t336, .int .i64 t337] 29 (0, 0)) (by (with_reducible repeat (first | refine kN_ ?_ _ | refine kD_ ?_ | refine kA_ ?_ _)); exact BK339.out) hb); have n8_ := aS_ (below_step (by repeat (first | (with_reducible first | exact HB.out | apply bA_ | apply bN_ | apply bD_ | refine below_set ?_ GE325.out | refine below_set ?_ GE331.out | refine below_set ?_ GE332.out | refine below_set ?_ GE338.out | refine below_set ?_ GE339.out) | exact HB.out)) hb); clear HO_326000; clear HO_332000; clear HO_339000; clear BK325; clear BK331; clear BK332; clear BK338; clear BK339; clear HB; have HO_326000 := n0_; have HO_332000 := n1_; have HO_339000 := n2_; have BK325 := n3_; have BK331 := n4_; have BK332 := n5_; have BK338 := n6_; have BK339 := n7_; have HB := n8_; clear n0_ n1_ n2_ n3_ n4_ n5_ n6_ n7_ n8_; (try clear hb); (try clear hb2); (try clear hk); (try clear hi); have hcz197_0 : w196.cell? ⟨gb332, 0, none⟩ = some (.int .i64 t329) := (blk_cell BK332.out 0).trans rfl; have hcz197_1 : w196.cell? ⟨gb332, 1, none⟩ = some (.int .i64 t330) := (blk_cell BK332.out 1).trans rfl; have hfz197_0 := blk_frozen BK332.out 0; have hfz197_1 := blk_frozen BK332.out 1; have hcz198_0 : w196.cell? ⟨gb325, 0, none⟩ = some (.slice Ao9 t320.length co9) := (blk_cell BK325.out 0).trans rfl; have hfz198_0 := blk_frozen BK325.out 0))
                          go_ret
                          exact ⟨by first | rfl | (simp [errW_none, errW_some] <;> rfl) | (simp [*, errW_none, errW_some] <;> rfl), by repeat (first | (with_reducible first | exact HB.out | apply bA_ | apply bN_ | apply bD_ | refine below_set ?_ GE325.out | refine below_set ?_ GE331.out | refine below_set ?_ GE332.out | refine below_set ?_ GE338.out | refine below_set ?_ GE339.out) | exact HB.out)⟩
                      · rw [if_neg c160] at H
                        have c160b0 : ((t329 == 1) == (t346 == 2)) = false := by simpa using c160
                        (try (have c160b1 : decide ((t329 == 1) = (t346 == 2)) = false := by simpa using c160))
                        (try (have c160b2 : ((t329 == 1) == (t346 == 2)) = false := by simpa using c160))
                        (try (have c160b3 : ¬ ((t329 == 1) = (t346 == 2)) := by simpa using c160))
                        clear c160
                        exact absurd (Option.some.inj H) (by rw [HT.out]; decide)
                    · replace c159 := Bool.eq_false_iff.mpr c159
                      subst c159
                      have H1 : (some false) = some r := by rw [if_neg (show ¬ (false = true) by decide)] at H; exact H
                      clear H
                      have H := H1
                      clear H1
                      exact absurd (Option.some.inj H) (by rw [HT.out]; decide)
                · replace c102 := Bool.eq_false_iff.mpr c102
                  subst c102
                  have H1 : (some false) = some r := by rw [if_neg (show ¬ (false = true) by decide)] at H; exact H
                  clear H
                  have H := H1
                  clear H1
                  exact absurd (Option.some.inj H) (by rw [HT.out]; decide)

/-- THE ONE PURE STATEMENT of laws_FnMapPut: yours. -/
def laws_FnMapPut.Pure : Prop := ∀ (l0 : List Int), l0.length ≤ maxLen → l0.length * 1 ≤ 140737488351232 → (∀ x ∈ l0, (Lit.int .u8 x).wf = true) → ∃ k, laws_FnMapPut.f k l0 = some true
theorem laws_FnMapPut.walk (P : laws_FnMapPut.Pure) (a0 : Option Addr) (len0 cap0 : Nat) (z0 : List Int) (w : World) (w0 : (a0 = none ∧ len0 = 0 ∧ cap0 = 0 ∧ z0 = []) ∨ ∃ x, a0 = some x ∧ len0 ≤ cap0 ∧ cap0 ≤ maxLen ∧ z0.length = cap0 ∧ (∀ i, i < z0.length → w.cell? (x.add i) = some (.int .u8 (z0.getD i 0))) ∧ ∀ n ∈ z0, (Lit.int .u8 n).wf = true) (y0 : len0 * 1 ≤ 140737488351232) :
    Calls Try.prog 9 #[.slice a0 len0 cap0] w fun e w' => e = .returned (.bool true) ∧ Below w.heap.size w w' := by
  obtain ⟨l0, rfl, hr0, hm0, hw0, hc0⟩ := ReadsInt.ofRowC w0
  obtain ⟨k, h⟩ := P l0 hm0 y0 hw0
  refine (laws_FnMapPut.calls k _ _ l0 true w (Kd.C_of_reads (d := (0 : Int)) (h1 := fun _ => rfl) hr0) hc0 rfl h).mono ?_
  rintro e w' ⟨rfl, hd⟩
  exact ⟨rfl, hd⟩

end Go.Proofs.Ytabihpjgkkmnjaa.GFnMapPut
