/- The functions that the law reaches, as plain Lean functions, and that the machine comes to their answers: laid by a program of this session. Conditions: none. -/
import Derived.Test.YtdeedopjhkfplaaGFnWrdMakex0
import Derived.Test.YtdeedopjhkfplaaGFnWrdMakex1
import Derived.Test.YtdeedopjhkfplaaGFnWrdMakex2
namespace Go.Proofs.Ytdeedopjhkfplaa.GFnWrdMake
open Go.RowKit Go.Proofs.YtdeedopjhkfplaaW.PrintWords Go.Proofs.YtdeedopjhkfplaaW.PrintLast Go.Proofs.YtdeedopjhkfplaaW.PrintMore
attribute [local go_sem] max2_int min2_int max_two min_two max_three min_three max_four min_four   -- for this text's walks alone
set_option linter.unusedVariables false
set_option linter.unusedSimpArgs false

/-! ### laws_FnWrdMake: function 5 -/
def laws_FnWrdMake.f (k : Nat) (l0 : List Int) (l1 : List Int) : Option (Bool) := if (l0.length : Int) > 1048576 then (some true) else (if (l1.length : Int) > 1048576 then (some true) else ((spec_DrawWrdMake.f k l0).bind fun bt145 => ((spec_DrawWrdTo.f k l1).bind fun t147 => ((impl_WrdMake.f k bt145.1 bt145.2).bind fun t148 => ((spec_WrdMake.f bt145.1 bt145.2).bind fun t149 => (if t148 = t149 then ((impl_WrdTo.f t147).bind fun t150 => ((spec_WrdTo.f t147).bind fun t151 => (if t150 = t151 then ((impl_WrdMark.f t147).bind fun t152 => ((spec_WrdMark.f t147).bind fun t153 => (if (t152 != t153) = true then (some false) else (if t147 ≥ 0 then (if t147 ≤ 19 then ((impl_WrdMake.f k t150 t152).bind fun t154 => (if t154 = t147 then (if bt145.1 < 0 then (if t148 = 0 then ((laws_tgOk.f k).bind fun t155 => (some t155)) else (some false)) else (if bt145.1 > 9 then (if t148 = 0 then ((laws_tgOk.f k).bind fun t156 => (some t156)) else (some false)) else ((impl_WrdTo.f t148).bind fun t157 => (if t157 = bt145.1 then ((impl_WrdMark.f t148).bind fun t158 => (if (t158 == bt145.2) = true then ((laws_tgOk.f k).bind fun t159 => (some t159)) else (some false))) else (some false))))) else (some false))) else (if bt145.1 < 0 then (if t148 = 0 then ((laws_tgOk.f k).bind fun t160 => (some t160)) else (some false)) else (if bt145.1 > 9 then (if t148 = 0 then ((laws_tgOk.f k).bind fun t161 => (some t161)) else (some false)) else ((impl_WrdTo.f t148).bind fun t162 => (if t162 = bt145.1 then ((impl_WrdMark.f t148).bind fun t163 => (if (t163 == bt145.2) = true then ((laws_tgOk.f k).bind fun t164 => (some t164)) else (some false))) else (some false)))))) else (if bt145.1 < 0 then (if t148 = 0 then ((laws_tgOk.f k).bind fun t165 => (some t165)) else (some false)) else (if bt145.1 > 9 then (if t148 = 0 then ((laws_tgOk.f k).bind fun t166 => (some t166)) else (some false)) else ((impl_WrdTo.f t148).bind fun t167 => (if t167 = bt145.1 then ((impl_WrdMark.f t148).bind fun t168 => (if (t168 == bt145.2) = true then ((laws_tgOk.f k).bind fun t169 => (some t169)) else (some false))) else (some false))))))))) else (some false)))) else (some false)))))))
theorem laws_FnWrdMake.mono : ∀ a0 a1 k, LeO (laws_FnWrdMake.f k a0 a1) (laws_FnWrdMake.f (k + 1) a0 a1) := by
  intro a0 a1 k
  unfold laws_FnWrdMake.f
  repeat' first
      | (with_reducible exact impl_WrdMake.mono _ _ _)
      | (with_reducible exact laws_tgOk.mono _)
      | (with_reducible exact spec_DrawWrdMake.mono _ _)
      | (with_reducible exact spec_DrawWrdTo.mono _ _)
      | (with_reducible exact LeO.refl _)
      | (with_reducible exact LeO.none _)
      | (with_reducible refine LeO.ite ?_ ?_)
      | (with_reducible refine LeO.bind ?_ (fun _ => ?_))
      | exact impl_WrdMake.mono _ _ _
      | exact laws_tgOk.mono _
      | exact spec_DrawWrdMake.mono _ _
      | exact spec_DrawWrdTo.mono _ _
      | exact LeO.none _
      | refine LeO.ite ?_ ?_
      | refine LeO.bind ?_ (fun _ => ?_)
set_option maxHeartbeats 8000000 in
set_option maxRecDepth 100000 in
theorem laws_FnWrdMake.calls (k : Nat) (A0 : Option Addr) (c0 : Nat) (l0 : List Int) (A1 : Option Addr) (c1 : Nat) (l1 : List Int) (r : Bool) (w : World) (hr0 : Kd.C (Kd.int .u8) w A0 l0.length l0) (hc0 : l0.length ≤ c0) (hr1 : Kd.C (Kd.int .u8) w A1 l1.length l1) (hc1 : l1.length ≤ c1) (ht_ : r = true) (h : laws_FnWrdMake.f k l0 l1 = some r) :
    Calls Try.prog 5 #[.slice A0 l0.length c0, .slice A1 l1.length c1] w fun e w' => e = .returned (.bool r) ∧ Below w.heap.size w w' := by
  have HR0 := Aside0.mk hr0
  have HC0 := Aside0.mk hc0
  clear hr0 hc0
  have HR1 := Aside0.mk hr1
  have HC1 := Aside0.mk hc1
  clear hr1 hc1
  have HB := Aside0.mk (Below.refl w.heap.size w)
  have HT := Aside0.mk ht_
  clear ht_
  have H : (if (l0.length : Int) > 1048576 then (some true) else (if (l1.length : Int) > 1048576 then (some true) else ((spec_DrawWrdMake.f k l0).bind fun bt145 => ((spec_DrawWrdTo.f k l1).bind fun t147 => ((impl_WrdMake.f k bt145.1 bt145.2).bind fun t148 => ((spec_WrdMake.f bt145.1 bt145.2).bind fun t149 => (if t148 = t149 then ((impl_WrdTo.f t147).bind fun t150 => ((spec_WrdTo.f t147).bind fun t151 => (if t150 = t151 then ((impl_WrdMark.f t147).bind fun t152 => ((spec_WrdMark.f t147).bind fun t153 => (if (t152 != t153) = true then (some false) else (if t147 ≥ 0 then (if t147 ≤ 19 then ((impl_WrdMake.f k t150 t152).bind fun t154 => (if t154 = t147 then (if bt145.1 < 0 then (if t148 = 0 then ((laws_tgOk.f k).bind fun t155 => (some t155)) else (some false)) else (if bt145.1 > 9 then (if t148 = 0 then ((laws_tgOk.f k).bind fun t156 => (some t156)) else (some false)) else ((impl_WrdTo.f t148).bind fun t157 => (if t157 = bt145.1 then ((impl_WrdMark.f t148).bind fun t158 => (if (t158 == bt145.2) = true then ((laws_tgOk.f k).bind fun t159 => (some t159)) else (some false))) else (some false))))) else (some false))) else (if bt145.1 < 0 then (if t148 = 0 then ((laws_tgOk.f k).bind fun t160 => (some t160)) else (some false)) else (if bt145.1 > 9 then (if t148 = 0 then ((laws_tgOk.f k).bind fun t161 => (some t161)) else (some false)) else ((impl_WrdTo.f t148).bind fun t162 => (if t162 = bt145.1 then ((impl_WrdMark.f t148).bind fun t163 => (if (t163 == bt145.2) = true then ((laws_tgOk.f k).bind fun t164 => (some t164)) else (some false))) else (some false)))))) else (if bt145.1 < 0 then (if t148 = 0 then ((laws_tgOk.f k).bind fun t165 => (some t165)) else (some false)) else (if bt145.1 > 9 then (if t148 = 0 then ((laws_tgOk.f k).bind fun t166 => (some t166)) else (some false)) else ((impl_WrdTo.f t148).bind fun t167 => (if t167 = bt145.1 then ((impl_WrdMark.f t148).bind fun t168 => (if (t168 == bt145.2) = true then ((laws_tgOk.f k).bind fun t169 => (some t169)) else (some false))) else (some false))))))))) else (some false)))) else (some false)))))))) = some r := h
  clear h
  by_cases c3 : (l0.length : Int) > 1048576
  · rw [if_pos c3] at H
    have c3b0 : decide (1048576 < (l0.length : Int)) = true := decide_eq_true c3
    have c3b1 : decide (1048576 < l0.length) = true := decide_eq_true (by omega)
    clear c3
    obtain rfl := Option.some.inj H
    go_enter Try.func5, Try.ntmps5
    go_wp2
    go_ret
    exact ⟨by first | rfl | (simp [errW_none, errW_some] <;> rfl) | (simp [*, errW_none, errW_some] <;> rfl), by repeat (first | (with_reducible first | exact HB.out | apply below_alloc | apply pw_below_drewN | apply below_drew1) | exact HB.out)⟩
  · rw [if_neg c3] at H
    have c3b0 : decide (1048576 < (l0.length : Int)) = false := decide_eq_false c3
    have c3b1 : decide (1048576 < l0.length) = false := decide_eq_false (by omega)
    clear c3
    by_cases c4 : (l1.length : Int) > 1048576
    · rw [if_pos c4] at H
      have c4b0 : decide (1048576 < (l1.length : Int)) = true := decide_eq_true c4
      have c4b1 : decide (1048576 < l1.length) = true := decide_eq_true (by omega)
      clear c4
      obtain rfl := Option.some.inj H
      go_enter Try.func5, Try.ntmps5
      go_wp2
      go_ret
      exact ⟨by first | rfl | (simp [errW_none, errW_some] <;> rfl) | (simp [*, errW_none, errW_some] <;> rfl), by repeat (first | (with_reducible first | exact HB.out | apply below_alloc | apply pw_below_drewN | apply below_drew1) | exact HB.out)⟩
    · rw [if_neg c4] at H
      have c4b0 : decide (1048576 < (l1.length : Int)) = false := decide_eq_false c4
      have c4b1 : decide (1048576 < l1.length) = false := decide_eq_false (by omega)
      clear c4
      replace H := Option.bind_eq_some_iff.mp H
      obtain ⟨⟨t145, t146⟩, A50, H⟩ := H
      replace H : ((spec_DrawWrdTo.f k l1).bind fun t147 => ((impl_WrdMake.f k t145 t146).bind fun t148 => ((spec_WrdMake.f t145 t146).bind fun t149 => (if t148 = t149 then ((impl_WrdTo.f t147).bind fun t150 => ((spec_WrdTo.f t147).bind fun t151 => (if t150 = t151 then ((impl_WrdMark.f t147).bind fun t152 => ((spec_WrdMark.f t147).bind fun t153 => (if (t152 != t153) = true then (some false) else (if t147 ≥ 0 then (if t147 ≤ 19 then ((impl_WrdMake.f k t150 t152).bind fun t154 => (if t154 = t147 then (if t145 < 0 then (if t148 = 0 then ((laws_tgOk.f k).bind fun t155 => (some t155)) else (some false)) else (if t145 > 9 then (if t148 = 0 then ((laws_tgOk.f k).bind fun t156 => (some t156)) else (some false)) else ((impl_WrdTo.f t148).bind fun t157 => (if t157 = t145 then ((impl_WrdMark.f t148).bind fun t158 => (if (t158 == t146) = true then ((laws_tgOk.f k).bind fun t159 => (some t159)) else (some false))) else (some false))))) else (some false))) else (if t145 < 0 then (if t148 = 0 then ((laws_tgOk.f k).bind fun t160 => (some t160)) else (some false)) else (if t145 > 9 then (if t148 = 0 then ((laws_tgOk.f k).bind fun t161 => (some t161)) else (some false)) else ((impl_WrdTo.f t148).bind fun t162 => (if t162 = t145 then ((impl_WrdMark.f t148).bind fun t163 => (if (t163 == t146) = true then ((laws_tgOk.f k).bind fun t164 => (some t164)) else (some false))) else (some false)))))) else (if t145 < 0 then (if t148 = 0 then ((laws_tgOk.f k).bind fun t165 => (some t165)) else (some false)) else (if t145 > 9 then (if t148 = 0 then ((laws_tgOk.f k).bind fun t166 => (some t166)) else (some false)) else ((impl_WrdTo.f t148).bind fun t167 => (if t167 = t145 then ((impl_WrdMark.f t148).bind fun t168 => (if (t168 == t146) = true then ((laws_tgOk.f k).bind fun t169 => (some t169)) else (some false))) else (some false))))))))) else (some false)))) else (some false))))) = some r := H
      have A5 := Aside0.mk A50
      clear A50
      replace H := Option.bind_eq_some_iff.mp H
      obtain ⟨t147, A60, H⟩ := H
      replace H : ((impl_WrdMake.f k t145 t146).bind fun t148 => ((spec_WrdMake.f t145 t146).bind fun t149 => (if t148 = t149 then ((impl_WrdTo.f t147).bind fun t150 => ((spec_WrdTo.f t147).bind fun t151 => (if t150 = t151 then ((impl_WrdMark.f t147).bind fun t152 => ((spec_WrdMark.f t147).bind fun t153 => (if (t152 != t153) = true then (some false) else (if t147 ≥ 0 then (if t147 ≤ 19 then ((impl_WrdMake.f k t150 t152).bind fun t154 => (if t154 = t147 then (if t145 < 0 then (if t148 = 0 then ((laws_tgOk.f k).bind fun t155 => (some t155)) else (some false)) else (if t145 > 9 then (if t148 = 0 then ((laws_tgOk.f k).bind fun t156 => (some t156)) else (some false)) else ((impl_WrdTo.f t148).bind fun t157 => (if t157 = t145 then ((impl_WrdMark.f t148).bind fun t158 => (if (t158 == t146) = true then ((laws_tgOk.f k).bind fun t159 => (some t159)) else (some false))) else (some false))))) else (some false))) else (if t145 < 0 then (if t148 = 0 then ((laws_tgOk.f k).bind fun t160 => (some t160)) else (some false)) else (if t145 > 9 then (if t148 = 0 then ((laws_tgOk.f k).bind fun t161 => (some t161)) else (some false)) else ((impl_WrdTo.f t148).bind fun t162 => (if t162 = t145 then ((impl_WrdMark.f t148).bind fun t163 => (if (t163 == t146) = true then ((laws_tgOk.f k).bind fun t164 => (some t164)) else (some false))) else (some false)))))) else (if t145 < 0 then (if t148 = 0 then ((laws_tgOk.f k).bind fun t165 => (some t165)) else (some false)) else (if t145 > 9 then (if t148 = 0 then ((laws_tgOk.f k).bind fun t166 => (some t166)) else (some false)) else ((impl_WrdTo.f t148).bind fun t167 => (if t167 = t145 then ((impl_WrdMark.f t148).bind fun t168 => (if (t168 == t146) = true then ((laws_tgOk.f k).bind fun t169 => (some t169)) else (some false))) else (some false))))))))) else (some false)))) else (some false)))) = some r := H
      have A6 := Aside0.mk A60
      clear A60
      replace H := Option.bind_eq_some_iff.mp H
      obtain ⟨t148, A70, H⟩ := H
      replace H : ((spec_WrdMake.f t145 t146).bind fun t149 => (if t148 = t149 then ((impl_WrdTo.f t147).bind fun t150 => ((spec_WrdTo.f t147).bind fun t151 => (if t150 = t151 then ((impl_WrdMark.f t147).bind fun t152 => ((spec_WrdMark.f t147).bind fun t153 => (if (t152 != t153) = true then (some false) else (if t147 ≥ 0 then (if t147 ≤ 19 then ((impl_WrdMake.f k t150 t152).bind fun t154 => (if t154 = t147 then (if t145 < 0 then (if t148 = 0 then ((laws_tgOk.f k).bind fun t155 => (some t155)) else (some false)) else (if t145 > 9 then (if t148 = 0 then ((laws_tgOk.f k).bind fun t156 => (some t156)) else (some false)) else ((impl_WrdTo.f t148).bind fun t157 => (if t157 = t145 then ((impl_WrdMark.f t148).bind fun t158 => (if (t158 == t146) = true then ((laws_tgOk.f k).bind fun t159 => (some t159)) else (some false))) else (some false))))) else (some false))) else (if t145 < 0 then (if t148 = 0 then ((laws_tgOk.f k).bind fun t160 => (some t160)) else (some false)) else (if t145 > 9 then (if t148 = 0 then ((laws_tgOk.f k).bind fun t161 => (some t161)) else (some false)) else ((impl_WrdTo.f t148).bind fun t162 => (if t162 = t145 then ((impl_WrdMark.f t148).bind fun t163 => (if (t163 == t146) = true then ((laws_tgOk.f k).bind fun t164 => (some t164)) else (some false))) else (some false)))))) else (if t145 < 0 then (if t148 = 0 then ((laws_tgOk.f k).bind fun t165 => (some t165)) else (some false)) else (if t145 > 9 then (if t148 = 0 then ((laws_tgOk.f k).bind fun t166 => (some t166)) else (some false)) else ((impl_WrdTo.f t148).bind fun t167 => (if t167 = t145 then ((impl_WrdMark.f t148).bind fun t168 => (if (t168 == t146) = true then ((laws_tgOk.f k).bind fun t169 => (some t169)) else (some false))) else (some false))))))))) else (some false)))) else (some false))) = some r := H
      have A7 := Aside0.mk A70
      clear A70
      replace H := Option.bind_eq_some_iff.mp H
      obtain ⟨t149, A80, H⟩ := H
      replace H : (if t148 = t149 then ((impl_WrdTo.f t147).bind fun t150 => ((spec_WrdTo.f t147).bind fun t151 => (if t150 = t151 then ((impl_WrdMark.f t147).bind fun t152 => ((spec_WrdMark.f t147).bind fun t153 => (if (t152 != t153) = true then (some false) else (if t147 ≥ 0 then (if t147 ≤ 19 then ((impl_WrdMake.f k t150 t152).bind fun t154 => (if t154 = t147 then (if t145 < 0 then (if t148 = 0 then ((laws_tgOk.f k).bind fun t155 => (some t155)) else (some false)) else (if t145 > 9 then (if t148 = 0 then ((laws_tgOk.f k).bind fun t156 => (some t156)) else (some false)) else ((impl_WrdTo.f t148).bind fun t157 => (if t157 = t145 then ((impl_WrdMark.f t148).bind fun t158 => (if (t158 == t146) = true then ((laws_tgOk.f k).bind fun t159 => (some t159)) else (some false))) else (some false))))) else (some false))) else (if t145 < 0 then (if t148 = 0 then ((laws_tgOk.f k).bind fun t160 => (some t160)) else (some false)) else (if t145 > 9 then (if t148 = 0 then ((laws_tgOk.f k).bind fun t161 => (some t161)) else (some false)) else ((impl_WrdTo.f t148).bind fun t162 => (if t162 = t145 then ((impl_WrdMark.f t148).bind fun t163 => (if (t163 == t146) = true then ((laws_tgOk.f k).bind fun t164 => (some t164)) else (some false))) else (some false)))))) else (if t145 < 0 then (if t148 = 0 then ((laws_tgOk.f k).bind fun t165 => (some t165)) else (some false)) else (if t145 > 9 then (if t148 = 0 then ((laws_tgOk.f k).bind fun t166 => (some t166)) else (some false)) else ((impl_WrdTo.f t148).bind fun t167 => (if t167 = t145 then ((impl_WrdMark.f t148).bind fun t168 => (if (t168 == t146) = true then ((laws_tgOk.f k).bind fun t169 => (some t169)) else (some false))) else (some false))))))))) else (some false)))) else (some false)) = some r := H
      have A8 := Aside0.mk A80
      clear A80
      by_cases c9 : t148 = t149
      · rw [if_pos c9] at H
        have c9b0 : (t148 == t149) = true := beq_iff_eq.mpr c9
        have c9b1 : (t148 != t149) = false := bne_eq_false_iff_eq.mpr c9
        clear c9
        replace H := Option.bind_eq_some_iff.mp H
        obtain ⟨t150, A100, H⟩ := H
        replace H : ((spec_WrdTo.f t147).bind fun t151 => (if t150 = t151 then ((impl_WrdMark.f t147).bind fun t152 => ((spec_WrdMark.f t147).bind fun t153 => (if (t152 != t153) = true then (some false) else (if t147 ≥ 0 then (if t147 ≤ 19 then ((impl_WrdMake.f k t150 t152).bind fun t154 => (if t154 = t147 then (if t145 < 0 then (if t148 = 0 then ((laws_tgOk.f k).bind fun t155 => (some t155)) else (some false)) else (if t145 > 9 then (if t148 = 0 then ((laws_tgOk.f k).bind fun t156 => (some t156)) else (some false)) else ((impl_WrdTo.f t148).bind fun t157 => (if t157 = t145 then ((impl_WrdMark.f t148).bind fun t158 => (if (t158 == t146) = true then ((laws_tgOk.f k).bind fun t159 => (some t159)) else (some false))) else (some false))))) else (some false))) else (if t145 < 0 then (if t148 = 0 then ((laws_tgOk.f k).bind fun t160 => (some t160)) else (some false)) else (if t145 > 9 then (if t148 = 0 then ((laws_tgOk.f k).bind fun t161 => (some t161)) else (some false)) else ((impl_WrdTo.f t148).bind fun t162 => (if t162 = t145 then ((impl_WrdMark.f t148).bind fun t163 => (if (t163 == t146) = true then ((laws_tgOk.f k).bind fun t164 => (some t164)) else (some false))) else (some false)))))) else (if t145 < 0 then (if t148 = 0 then ((laws_tgOk.f k).bind fun t165 => (some t165)) else (some false)) else (if t145 > 9 then (if t148 = 0 then ((laws_tgOk.f k).bind fun t166 => (some t166)) else (some false)) else ((impl_WrdTo.f t148).bind fun t167 => (if t167 = t145 then ((impl_WrdMark.f t148).bind fun t168 => (if (t168 == t146) = true then ((laws_tgOk.f k).bind fun t169 => (some t169)) else (some false))) else (some false))))))))) else (some false))) = some r := H
        have A10 := Aside0.mk A100
        clear A100
        replace H := Option.bind_eq_some_iff.mp H
        obtain ⟨t151, A110, H⟩ := H
        replace H : (if t150 = t151 then ((impl_WrdMark.f t147).bind fun t152 => ((spec_WrdMark.f t147).bind fun t153 => (if (t152 != t153) = true then (some false) else (if t147 ≥ 0 then (if t147 ≤ 19 then ((impl_WrdMake.f k t150 t152).bind fun t154 => (if t154 = t147 then (if t145 < 0 then (if t148 = 0 then ((laws_tgOk.f k).bind fun t155 => (some t155)) else (some false)) else (if t145 > 9 then (if t148 = 0 then ((laws_tgOk.f k).bind fun t156 => (some t156)) else (some false)) else ((impl_WrdTo.f t148).bind fun t157 => (if t157 = t145 then ((impl_WrdMark.f t148).bind fun t158 => (if (t158 == t146) = true then ((laws_tgOk.f k).bind fun t159 => (some t159)) else (some false))) else (some false))))) else (some false))) else (if t145 < 0 then (if t148 = 0 then ((laws_tgOk.f k).bind fun t160 => (some t160)) else (some false)) else (if t145 > 9 then (if t148 = 0 then ((laws_tgOk.f k).bind fun t161 => (some t161)) else (some false)) else ((impl_WrdTo.f t148).bind fun t162 => (if t162 = t145 then ((impl_WrdMark.f t148).bind fun t163 => (if (t163 == t146) = true then ((laws_tgOk.f k).bind fun t164 => (some t164)) else (some false))) else (some false)))))) else (if t145 < 0 then (if t148 = 0 then ((laws_tgOk.f k).bind fun t165 => (some t165)) else (some false)) else (if t145 > 9 then (if t148 = 0 then ((laws_tgOk.f k).bind fun t166 => (some t166)) else (some false)) else ((impl_WrdTo.f t148).bind fun t167 => (if t167 = t145 then ((impl_WrdMark.f t148).bind fun t168 => (if (t168 == t146) = true then ((laws_tgOk.f k).bind fun t169 => (some t169)) else (some false))) else (some false))))))))) else (some false)) = some r := H
        have A11 := Aside0.mk A110
        clear A110
        by_cases c12 : t150 = t151
        · rw [if_pos c12] at H
          have c12b0 : (t150 == t151) = true := beq_iff_eq.mpr c12
          have c12b1 : (t150 != t151) = false := bne_eq_false_iff_eq.mpr c12
          clear c12
          replace H := Option.bind_eq_some_iff.mp H
          obtain ⟨t152, A130, H⟩ := H
          replace H : ((spec_WrdMark.f t147).bind fun t153 => (if (t152 != t153) = true then (some false) else (if t147 ≥ 0 then (if t147 ≤ 19 then ((impl_WrdMake.f k t150 t152).bind fun t154 => (if t154 = t147 then (if t145 < 0 then (if t148 = 0 then ((laws_tgOk.f k).bind fun t155 => (some t155)) else (some false)) else (if t145 > 9 then (if t148 = 0 then ((laws_tgOk.f k).bind fun t156 => (some t156)) else (some false)) else ((impl_WrdTo.f t148).bind fun t157 => (if t157 = t145 then ((impl_WrdMark.f t148).bind fun t158 => (if (t158 == t146) = true then ((laws_tgOk.f k).bind fun t159 => (some t159)) else (some false))) else (some false))))) else (some false))) else (if t145 < 0 then (if t148 = 0 then ((laws_tgOk.f k).bind fun t160 => (some t160)) else (some false)) else (if t145 > 9 then (if t148 = 0 then ((laws_tgOk.f k).bind fun t161 => (some t161)) else (some false)) else ((impl_WrdTo.f t148).bind fun t162 => (if t162 = t145 then ((impl_WrdMark.f t148).bind fun t163 => (if (t163 == t146) = true then ((laws_tgOk.f k).bind fun t164 => (some t164)) else (some false))) else (some false)))))) else (if t145 < 0 then (if t148 = 0 then ((laws_tgOk.f k).bind fun t165 => (some t165)) else (some false)) else (if t145 > 9 then (if t148 = 0 then ((laws_tgOk.f k).bind fun t166 => (some t166)) else (some false)) else ((impl_WrdTo.f t148).bind fun t167 => (if t167 = t145 then ((impl_WrdMark.f t148).bind fun t168 => (if (t168 == t146) = true then ((laws_tgOk.f k).bind fun t169 => (some t169)) else (some false))) else (some false)))))))) = some r := H
          have A13 := Aside0.mk A130
          clear A130
          replace H := Option.bind_eq_some_iff.mp H
          obtain ⟨t153, A140, H⟩ := H
          replace H : (if (t152 != t153) = true then (some false) else (if t147 ≥ 0 then (if t147 ≤ 19 then ((impl_WrdMake.f k t150 t152).bind fun t154 => (if t154 = t147 then (if t145 < 0 then (if t148 = 0 then ((laws_tgOk.f k).bind fun t155 => (some t155)) else (some false)) else (if t145 > 9 then (if t148 = 0 then ((laws_tgOk.f k).bind fun t156 => (some t156)) else (some false)) else ((impl_WrdTo.f t148).bind fun t157 => (if t157 = t145 then ((impl_WrdMark.f t148).bind fun t158 => (if (t158 == t146) = true then ((laws_tgOk.f k).bind fun t159 => (some t159)) else (some false))) else (some false))))) else (some false))) else (if t145 < 0 then (if t148 = 0 then ((laws_tgOk.f k).bind fun t160 => (some t160)) else (some false)) else (if t145 > 9 then (if t148 = 0 then ((laws_tgOk.f k).bind fun t161 => (some t161)) else (some false)) else ((impl_WrdTo.f t148).bind fun t162 => (if t162 = t145 then ((impl_WrdMark.f t148).bind fun t163 => (if (t163 == t146) = true then ((laws_tgOk.f k).bind fun t164 => (some t164)) else (some false))) else (some false)))))) else (if t145 < 0 then (if t148 = 0 then ((laws_tgOk.f k).bind fun t165 => (some t165)) else (some false)) else (if t145 > 9 then (if t148 = 0 then ((laws_tgOk.f k).bind fun t166 => (some t166)) else (some false)) else ((impl_WrdTo.f t148).bind fun t167 => (if t167 = t145 then ((impl_WrdMark.f t148).bind fun t168 => (if (t168 == t146) = true then ((laws_tgOk.f k).bind fun t169 => (some t169)) else (some false))) else (some false))))))) = some r := H
          have A14 := Aside0.mk A140
          clear A140
          by_cases c15 : (t152 != t153) = true
          · rw [if_pos c15] at H
            have c15b0 : (t152 != t153) = true := c15
            (try (have c15b1 : decide (t152 = t153) = false := by simpa using c15))
            (try (have c15b2 : (t152 == t153) = false := by simpa using c15))
            (try (have c15b3 : ¬ (t152 = t153) := by simpa using c15))
            clear c15
            exact absurd (Option.some.inj H) (by rw [HT.out]; decide)
          · rw [if_neg c15] at H
            have c15b0 : (t152 != t153) = false := by simpa using c15
            (try (have c15b1 : decide (t152 = t153) = true := by simpa using c15))
            (try (have c15b2 : (t152 == t153) = true := by simpa using c15))
            clear c15
            by_cases c16 : t147 ≥ 0
            · rw [if_pos c16] at H
              have c16b0 : decide (0 ≤ t147) = true := decide_eq_true c16
              clear c16
              by_cases c17 : t147 ≤ 19
              · rw [if_pos c17] at H
                have c17b0 : decide (t147 ≤ 19) = true := decide_eq_true c17
                clear c17
                replace H := Option.bind_eq_some_iff.mp H
                obtain ⟨t154, A180, H⟩ := H
                replace H : (if t154 = t147 then (if t145 < 0 then (if t148 = 0 then ((laws_tgOk.f k).bind fun t155 => (some t155)) else (some false)) else (if t145 > 9 then (if t148 = 0 then ((laws_tgOk.f k).bind fun t156 => (some t156)) else (some false)) else ((impl_WrdTo.f t148).bind fun t157 => (if t157 = t145 then ((impl_WrdMark.f t148).bind fun t158 => (if (t158 == t146) = true then ((laws_tgOk.f k).bind fun t159 => (some t159)) else (some false))) else (some false))))) else (some false)) = some r := H
                have A18 := Aside0.mk A180
                clear A180
                by_cases c19 : t154 = t147
                · rw [if_pos c19] at H
                  have c19b0 : (t154 == t147) = true := beq_iff_eq.mpr c19
                  have c19b1 : (t154 != t147) = false := bne_eq_false_iff_eq.mpr c19
                  clear c19
                  by_cases c20 : t145 < 0
                  · rw [if_pos c20] at H
                    have c20b0 : decide (t145 < 0) = true := decide_eq_true c20
                    clear c20
                    by_cases c21 : t148 = 0
                    · rw [if_pos c21] at H
                      have c21b0 : (t148 == 0) = true := beq_iff_eq.mpr c21
                      have c21b1 : (t148 != 0) = false := bne_eq_false_iff_eq.mpr c21
                      clear c21
                      replace H := Option.bind_eq_some_iff.mp H
                      obtain ⟨t155, A220, H⟩ := H
                      replace H : (some t155) = some r := H
                      have A22 := Aside0.mk A220
                      clear A220
                      obtain rfl := Option.some.inj H
                      go_enter Try.func5, Try.ntmps5
                      go_wp2_with (first | ((with_reducible refine gate_callee (f := 20) rfl ?_); refine goesL_ (some 19) rfl rfl Try.func20 (by kernel_rfl) rfl #[.slice A0 l0.length c0] rfl (by (try simp only [List.map_toArray, List.map_cons, List.map_nil]); first | done | rfl | (simp only [List.length_drop, List.length_take]; rfl)) ?_; (with_reducible refine (spec_DrawWrdMake.calls k _ _ l0 t145 t146 _ ?side1 ?side2 A5.out).mono ?_); (case side1 => repeat (first | exact HR0.out | (with_reducible refine Kd.C_alloc ?_ _) | (with_reducible refine Kd.C_drewN ?_ _) | (with_reducible refine Kd.C_drew ?_))); (case side2 => exact HC0.out); rintro e w23 ⟨rfl, hb⟩; refine ⟨_, rfl, ?_⟩; have n0_ := Aside0.mk (below_step (by repeat (first | (with_reducible first | exact HB.out | apply below_alloc | apply pw_below_drewN | apply below_drew1) | exact HB.out)) hb); clear HB; have HB := n0_; clear n0_; (try clear hb); (try clear hb2); (try clear hk); (try clear hi)) | ((with_reducible refine gate_callee (f := 21) rfl ?_); refine goesL_ (some 23) rfl rfl Try.func21 (by kernel_rfl) rfl #[.slice A1 l1.length c1] rfl (by (try simp only [List.map_toArray, List.map_cons, List.map_nil]); first | done | rfl | (simp only [List.length_drop, List.length_take]; rfl)) ?_; (with_reducible refine (spec_DrawWrdTo.calls k _ _ l1 t147 _ ?side1 ?side2 A6.out).mono ?_); (case side1 => repeat (first | exact (Kd.C_below HR1.out HB.out) | (with_reducible refine Kd.C_alloc ?_ _) | (with_reducible refine Kd.C_drewN ?_ _) | (with_reducible refine Kd.C_drew ?_))); (case side2 => exact HC1.out); rintro e w24 ⟨rfl, hb⟩; refine ⟨_, rfl, ?_⟩; have n0_ := Aside0.mk (below_step (by repeat (first | (with_reducible first | exact HB.out | apply below_alloc | apply pw_below_drewN | apply below_drew1) | exact HB.out)) hb); clear HB; have HB := n0_; clear n0_; (try clear hb); (try clear hb2); (try clear hk); (try clear hi)) | ((with_reducible refine gate_callee (f := 22) rfl ?_); refine goesL_ (some 26) rfl rfl Try.func22 (by kernel_rfl) rfl #[.int .i64 t145, .bool t146] rfl (by (try simp only [List.map_toArray, List.map_cons, List.map_nil]); first | done | rfl | (simp only [List.length_drop, List.length_take]; rfl)) ?_; (with_reducible refine (impl_WrdMake.calls k t145 t146 t148 _ A7.out).mono ?_); rintro e w' ⟨rfl, ⟨nd, rfl⟩⟩; refine ⟨_, rfl, ?_⟩) | ((with_reducible refine gate_callee (f := 23) rfl ?_); refine goesL_ (some 30) rfl rfl Try.func23 (by kernel_rfl) rfl #[.int .i64 t145, .bool t146] rfl (by (try simp only [List.map_toArray, List.map_cons, List.map_nil]); first | done | rfl | (simp only [List.length_drop, List.length_take]; rfl)) ?_; (with_reducible refine (spec_WrdMake.calls t145 t146 t149 _ A8.out).mono ?_); rintro e w' ⟨rfl, ⟨nd, rfl⟩⟩; refine ⟨_, rfl, ?_⟩) | (go_at_call 24; (with_reducible refine (impl_WrdTo.calls t147 t150 _ A10.out).mono ?_); rintro e w' ⟨rfl, ⟨nd, rfl⟩⟩) | (go_at_call 25; (with_reducible refine (spec_WrdTo.calls t147 t151 _ A11.out).mono ?_); rintro e w' ⟨rfl, ⟨nd, rfl⟩⟩) | (go_at_call 26; (with_reducible refine (impl_WrdMark.calls t147 t152 _ A13.out).mono ?_); rintro e w' ⟨rfl, ⟨nd, rfl⟩⟩) | (go_at_call 27; (with_reducible refine (spec_WrdMark.calls t147 t153 _ A14.out).mono ?_); rintro e w' ⟨rfl, ⟨nd, rfl⟩⟩) | (go_at_call 22; (with_reducible refine (impl_WrdMake.calls k t150 t152 t154 _ A18.out).mono ?_); rintro e w' ⟨rfl, ⟨nd, rfl⟩⟩) | (go_at_call 19; (with_reducible refine (laws_tgOk.calls k  t155 _ A22.out).mono ?_); rintro e w25 ⟨rfl, hb⟩; have n0_ := Aside0.mk (below_step (by repeat (first | (with_reducible first | exact HB.out | apply below_alloc | apply pw_below_drewN | apply below_drew1) | exact HB.out)) hb); clear HB; have HB := n0_; clear n0_; (try clear hb); (try clear hb2); (try clear hk); (try clear hi)))
                      go_ret
                      exact ⟨by first | rfl | (simp [errW_none, errW_some] <;> rfl) | (simp [*, errW_none, errW_some] <;> rfl), by repeat (first | (with_reducible first | exact HB.out | apply below_alloc | apply pw_below_drewN | apply below_drew1) | exact HB.out)⟩
                    · rw [if_neg c21] at H
                      have c21b0 : (t148 == 0) = false := beq_eq_false_iff_ne.mpr c21
                      have c21b1 : (t148 != 0) = true := bne_iff_ne.mpr c21
                      exact absurd (Option.some.inj H) (by rw [HT.out]; decide)
                  · rw [if_neg c20] at H
                    have c20b0 : decide (t145 < 0) = false := decide_eq_false c20
                    clear c20
                    by_cases c26 : t145 > 9
                    · rw [if_pos c26] at H
                      have c26b0 : decide (9 < t145) = true := decide_eq_true c26
                      clear c26
                      by_cases c27 : t148 = 0
                      · rw [if_pos c27] at H
                        have c27b0 : (t148 == 0) = true := beq_iff_eq.mpr c27
                        have c27b1 : (t148 != 0) = false := bne_eq_false_iff_eq.mpr c27
                        clear c27
                        replace H := Option.bind_eq_some_iff.mp H
                        obtain ⟨t156, A280, H⟩ := H
                        replace H : (some t156) = some r := H
                        have A28 := Aside0.mk A280
                        clear A280
                        obtain rfl := Option.some.inj H
                        go_enter Try.func5, Try.ntmps5
                        go_wp2_with (first | ((with_reducible refine gate_callee (f := 20) rfl ?_); refine goesL_ (some 19) rfl rfl Try.func20 (by kernel_rfl) rfl #[.slice A0 l0.length c0] rfl (by (try simp only [List.map_toArray, List.map_cons, List.map_nil]); first | done | rfl | (simp only [List.length_drop, List.length_take]; rfl)) ?_; (with_reducible refine (spec_DrawWrdMake.calls k _ _ l0 t145 t146 _ ?side1 ?side2 A5.out).mono ?_); (case side1 => repeat (first | exact HR0.out | (with_reducible refine Kd.C_alloc ?_ _) | (with_reducible refine Kd.C_drewN ?_ _) | (with_reducible refine Kd.C_drew ?_))); (case side2 => exact HC0.out); rintro e w29 ⟨rfl, hb⟩; refine ⟨_, rfl, ?_⟩; have n0_ := Aside0.mk (below_step (by repeat (first | (with_reducible first | exact HB.out | apply below_alloc | apply pw_below_drewN | apply below_drew1) | exact HB.out)) hb); clear HB; have HB := n0_; clear n0_; (try clear hb); (try clear hb2); (try clear hk); (try clear hi)) | ((with_reducible refine gate_callee (f := 21) rfl ?_); refine goesL_ (some 23) rfl rfl Try.func21 (by kernel_rfl) rfl #[.slice A1 l1.length c1] rfl (by (try simp only [List.map_toArray, List.map_cons, List.map_nil]); first | done | rfl | (simp only [List.length_drop, List.length_take]; rfl)) ?_; (with_reducible refine (spec_DrawWrdTo.calls k _ _ l1 t147 _ ?side1 ?side2 A6.out).mono ?_); (case side1 => repeat (first | exact (Kd.C_below HR1.out HB.out) | (with_reducible refine Kd.C_alloc ?_ _) | (with_reducible refine Kd.C_drewN ?_ _) | (with_reducible refine Kd.C_drew ?_))); (case side2 => exact HC1.out); rintro e w30 ⟨rfl, hb⟩; refine ⟨_, rfl, ?_⟩; have n0_ := Aside0.mk (below_step (by repeat (first | (with_reducible first | exact HB.out | apply below_alloc | apply pw_below_drewN | apply below_drew1) | exact HB.out)) hb); clear HB; have HB := n0_; clear n0_; (try clear hb); (try clear hb2); (try clear hk); (try clear hi)) | ((with_reducible refine gate_callee (f := 22) rfl ?_); refine goesL_ (some 26) rfl rfl Try.func22 (by kernel_rfl) rfl #[.int .i64 t145, .bool t146] rfl (by (try simp only [List.map_toArray, List.map_cons, List.map_nil]); first | done | rfl | (simp only [List.length_drop, List.length_take]; rfl)) ?_; (with_reducible refine (impl_WrdMake.calls k t145 t146 t148 _ A7.out).mono ?_); rintro e w' ⟨rfl, ⟨nd, rfl⟩⟩; refine ⟨_, rfl, ?_⟩) | ((with_reducible refine gate_callee (f := 23) rfl ?_); refine goesL_ (some 30) rfl rfl Try.func23 (by kernel_rfl) rfl #[.int .i64 t145, .bool t146] rfl (by (try simp only [List.map_toArray, List.map_cons, List.map_nil]); first | done | rfl | (simp only [List.length_drop, List.length_take]; rfl)) ?_; (with_reducible refine (spec_WrdMake.calls t145 t146 t149 _ A8.out).mono ?_); rintro e w' ⟨rfl, ⟨nd, rfl⟩⟩; refine ⟨_, rfl, ?_⟩) | (go_at_call 24; (with_reducible refine (impl_WrdTo.calls t147 t150 _ A10.out).mono ?_); rintro e w' ⟨rfl, ⟨nd, rfl⟩⟩) | (go_at_call 25; (with_reducible refine (spec_WrdTo.calls t147 t151 _ A11.out).mono ?_); rintro e w' ⟨rfl, ⟨nd, rfl⟩⟩) | (go_at_call 26; (with_reducible refine (impl_WrdMark.calls t147 t152 _ A13.out).mono ?_); rintro e w' ⟨rfl, ⟨nd, rfl⟩⟩) | (go_at_call 27; (with_reducible refine (spec_WrdMark.calls t147 t153 _ A14.out).mono ?_); rintro e w' ⟨rfl, ⟨nd, rfl⟩⟩) | (go_at_call 22; (with_reducible refine (impl_WrdMake.calls k t150 t152 t154 _ A18.out).mono ?_); rintro e w' ⟨rfl, ⟨nd, rfl⟩⟩) | (go_at_call 19; (with_reducible refine (laws_tgOk.calls k  t156 _ A28.out).mono ?_); rintro e w31 ⟨rfl, hb⟩; have n0_ := Aside0.mk (below_step (by repeat (first | (with_reducible first | exact HB.out | apply below_alloc | apply pw_below_drewN | apply below_drew1) | exact HB.out)) hb); clear HB; have HB := n0_; clear n0_; (try clear hb); (try clear hb2); (try clear hk); (try clear hi)))
                        go_ret
                        exact ⟨by first | rfl | (simp [errW_none, errW_some] <;> rfl) | (simp [*, errW_none, errW_some] <;> rfl), by repeat (first | (with_reducible first | exact HB.out | apply below_alloc | apply pw_below_drewN | apply below_drew1) | exact HB.out)⟩
                      · rw [if_neg c27] at H
                        have c27b0 : (t148 == 0) = false := beq_eq_false_iff_ne.mpr c27
                        have c27b1 : (t148 != 0) = true := bne_iff_ne.mpr c27
                        exact absurd (Option.some.inj H) (by rw [HT.out]; decide)
                    · rw [if_neg c26] at H
                      have c26b0 : decide (9 < t145) = false := decide_eq_false c26
                      clear c26
                      replace H := Option.bind_eq_some_iff.mp H
                      obtain ⟨t157, A320, H⟩ := H
                      replace H : (if t157 = t145 then ((impl_WrdMark.f t148).bind fun t158 => (if (t158 == t146) = true then ((laws_tgOk.f k).bind fun t159 => (some t159)) else (some false))) else (some false)) = some r := H
                      have A32 := Aside0.mk A320
                      clear A320
                      by_cases c33 : t157 = t145
                      · rw [if_pos c33] at H
                        have c33b0 : (t157 == t145) = true := beq_iff_eq.mpr c33
                        have c33b1 : (t157 != t145) = false := bne_eq_false_iff_eq.mpr c33
                        clear c33
                        replace H := Option.bind_eq_some_iff.mp H
                        obtain ⟨t158, A340, H⟩ := H
                        replace H : (if (t158 == t146) = true then ((laws_tgOk.f k).bind fun t159 => (some t159)) else (some false)) = some r := H
                        have A34 := Aside0.mk A340
                        clear A340
                        by_cases c35 : (t158 == t146) = true
                        · rw [if_pos c35] at H
                          have c35b0 : (t158 == t146) = true := c35
                          (try (have c35b1 : decide (t158 = t146) = true := by simpa using c35))
                          (try (have c35b2 : (t158 == t146) = true := by simpa using c35))
                          clear c35
                          replace H := Option.bind_eq_some_iff.mp H
                          obtain ⟨t159, A360, H⟩ := H
                          replace H : (some t159) = some r := H
                          have A36 := Aside0.mk A360
                          clear A360
                          obtain rfl := Option.some.inj H
                          go_enter Try.func5, Try.ntmps5
                          go_wp2_with (first | ((with_reducible refine gate_callee (f := 20) rfl ?_); refine goesL_ (some 19) rfl rfl Try.func20 (by kernel_rfl) rfl #[.slice A0 l0.length c0] rfl (by (try simp only [List.map_toArray, List.map_cons, List.map_nil]); first | done | rfl | (simp only [List.length_drop, List.length_take]; rfl)) ?_; (with_reducible refine (spec_DrawWrdMake.calls k _ _ l0 t145 t146 _ ?side1 ?side2 A5.out).mono ?_); (case side1 => repeat (first | exact HR0.out | (with_reducible refine Kd.C_alloc ?_ _) | (with_reducible refine Kd.C_drewN ?_ _) | (with_reducible refine Kd.C_drew ?_))); (case side2 => exact HC0.out); rintro e w37 ⟨rfl, hb⟩; refine ⟨_, rfl, ?_⟩; have n0_ := Aside0.mk (below_step (by repeat (first | (with_reducible first | exact HB.out | apply below_alloc | apply pw_below_drewN | apply below_drew1) | exact HB.out)) hb); clear HB; have HB := n0_; clear n0_; (try clear hb); (try clear hb2); (try clear hk); (try clear hi)) | ((with_reducible refine gate_callee (f := 21) rfl ?_); refine goesL_ (some 23) rfl rfl Try.func21 (by kernel_rfl) rfl #[.slice A1 l1.length c1] rfl (by (try simp only [List.map_toArray, List.map_cons, List.map_nil]); first | done | rfl | (simp only [List.length_drop, List.length_take]; rfl)) ?_; (with_reducible refine (spec_DrawWrdTo.calls k _ _ l1 t147 _ ?side1 ?side2 A6.out).mono ?_); (case side1 => repeat (first | exact (Kd.C_below HR1.out HB.out) | (with_reducible refine Kd.C_alloc ?_ _) | (with_reducible refine Kd.C_drewN ?_ _) | (with_reducible refine Kd.C_drew ?_))); (case side2 => exact HC1.out); rintro e w38 ⟨rfl, hb⟩; refine ⟨_, rfl, ?_⟩; have n0_ := Aside0.mk (below_step (by repeat (first | (with_reducible first | exact HB.out | apply below_alloc | apply pw_below_drewN | apply below_drew1) | exact HB.out)) hb); clear HB; have HB := n0_; clear n0_; (try clear hb); (try clear hb2); (try clear hk); (try clear hi)) | ((with_reducible refine gate_callee (f := 22) rfl ?_); refine goesL_ (some 26) rfl rfl Try.func22 (by kernel_rfl) rfl #[.int .i64 t145, .bool t146] rfl (by (try simp only [List.map_toArray, List.map_cons, List.map_nil]); first | done | rfl | (simp only [List.length_drop, List.length_take]; rfl)) ?_; (with_reducible refine (impl_WrdMake.calls k t145 t146 t148 _ A7.out).mono ?_); rintro e w' ⟨rfl, ⟨nd, rfl⟩⟩; refine ⟨_, rfl, ?_⟩) | ((with_reducible refine gate_callee (f := 23) rfl ?_); refine goesL_ (some 30) rfl rfl Try.func23 (by kernel_rfl) rfl #[.int .i64 t145, .bool t146] rfl (by (try simp only [List.map_toArray, List.map_cons, List.map_nil]); first | done | rfl | (simp only [List.length_drop, List.length_take]; rfl)) ?_; (with_reducible refine (spec_WrdMake.calls t145 t146 t149 _ A8.out).mono ?_); rintro e w' ⟨rfl, ⟨nd, rfl⟩⟩; refine ⟨_, rfl, ?_⟩) | (go_at_call 24; (with_reducible refine (impl_WrdTo.calls t147 t150 _ A10.out).mono ?_); rintro e w' ⟨rfl, ⟨nd, rfl⟩⟩) | (go_at_call 25; (with_reducible refine (spec_WrdTo.calls t147 t151 _ A11.out).mono ?_); rintro e w' ⟨rfl, ⟨nd, rfl⟩⟩) | (go_at_call 26; (with_reducible refine (impl_WrdMark.calls t147 t152 _ A13.out).mono ?_); rintro e w' ⟨rfl, ⟨nd, rfl⟩⟩) | (go_at_call 27; (with_reducible refine (spec_WrdMark.calls t147 t153 _ A14.out).mono ?_); rintro e w' ⟨rfl, ⟨nd, rfl⟩⟩) | (go_at_call 22; (with_reducible refine (impl_WrdMake.calls k t150 t152 t154 _ A18.out).mono ?_); rintro e w' ⟨rfl, ⟨nd, rfl⟩⟩) | ((with_reducible refine gate_callee (f := 24) rfl ?_); refine goesL_ (some 73) rfl rfl Try.func24 (by kernel_rfl) rfl #[.int .i64 t148] rfl (by (try simp only [List.map_toArray, List.map_cons, List.map_nil]); first | done | rfl | (simp only [List.length_drop, List.length_take]; rfl)) ?_; (with_reducible refine (impl_WrdTo.calls t148 t157 _ A32.out).mono ?_); rintro e w' ⟨rfl, ⟨nd, rfl⟩⟩; refine ⟨_, rfl, ?_⟩) | (go_at_call 26; (with_reducible refine (impl_WrdMark.calls t148 t158 _ A34.out).mono ?_); rintro e w' ⟨rfl, ⟨nd, rfl⟩⟩) | (go_at_call 19; (with_reducible refine (laws_tgOk.calls k  t159 _ A36.out).mono ?_); rintro e w39 ⟨rfl, hb⟩; have n0_ := Aside0.mk (below_step (by repeat (first | (with_reducible first | exact HB.out | apply below_alloc | apply pw_below_drewN | apply below_drew1) | exact HB.out)) hb); clear HB; have HB := n0_; clear n0_; (try clear hb); (try clear hb2); (try clear hk); (try clear hi)))
                          go_ret
                          exact ⟨by first | rfl | (simp [errW_none, errW_some] <;> rfl) | (simp [*, errW_none, errW_some] <;> rfl), by repeat (first | (with_reducible first | exact HB.out | apply below_alloc | apply pw_below_drewN | apply below_drew1) | exact HB.out)⟩
                        · rw [if_neg c35] at H
                          have c35b0 : (t158 == t146) = false := by simpa using c35
                          (try (have c35b1 : decide (t158 = t146) = false := by simpa using c35))
                          (try (have c35b2 : (t158 == t146) = false := by simpa using c35))
                          (try (have c35b3 : ¬ (t158 = t146) := by simpa using c35))
                          clear c35
                          exact absurd (Option.some.inj H) (by rw [HT.out]; decide)
                      · rw [if_neg c33] at H
                        have c33b0 : (t157 == t145) = false := beq_eq_false_iff_ne.mpr c33
                        have c33b1 : (t157 != t145) = true := bne_iff_ne.mpr c33
                        exact absurd (Option.some.inj H) (by rw [HT.out]; decide)
                · rw [if_neg c19] at H
                  have c19b0 : (t154 == t147) = false := beq_eq_false_iff_ne.mpr c19
                  have c19b1 : (t154 != t147) = true := bne_iff_ne.mpr c19
                  exact absurd (Option.some.inj H) (by rw [HT.out]; decide)
              · rw [if_neg c17] at H
                have c17b0 : decide (t147 ≤ 19) = false := decide_eq_false c17
                clear c17
                by_cases c40 : t145 < 0
                · rw [if_pos c40] at H
                  have c40b0 : decide (t145 < 0) = true := decide_eq_true c40
                  clear c40
                  by_cases c41 : t148 = 0
                  · rw [if_pos c41] at H
                    have c41b0 : (t148 == 0) = true := beq_iff_eq.mpr c41
                    have c41b1 : (t148 != 0) = false := bne_eq_false_iff_eq.mpr c41
                    clear c41
                    replace H := Option.bind_eq_some_iff.mp H
                    obtain ⟨t160, A420, H⟩ := H
                    replace H : (some t160) = some r := H
                    have A42 := Aside0.mk A420
                    clear A420
                    obtain rfl := Option.some.inj H
                    go_enter Try.func5, Try.ntmps5
                    go_wp2_with (first | ((with_reducible refine gate_callee (f := 20) rfl ?_); refine goesL_ (some 19) rfl rfl Try.func20 (by kernel_rfl) rfl #[.slice A0 l0.length c0] rfl (by (try simp only [List.map_toArray, List.map_cons, List.map_nil]); first | done | rfl | (simp only [List.length_drop, List.length_take]; rfl)) ?_; (with_reducible refine (spec_DrawWrdMake.calls k _ _ l0 t145 t146 _ ?side1 ?side2 A5.out).mono ?_); (case side1 => repeat (first | exact HR0.out | (with_reducible refine Kd.C_alloc ?_ _) | (with_reducible refine Kd.C_drewN ?_ _) | (with_reducible refine Kd.C_drew ?_))); (case side2 => exact HC0.out); rintro e w43 ⟨rfl, hb⟩; refine ⟨_, rfl, ?_⟩; have n0_ := Aside0.mk (below_step (by repeat (first | (with_reducible first | exact HB.out | apply below_alloc | apply pw_below_drewN | apply below_drew1) | exact HB.out)) hb); clear HB; have HB := n0_; clear n0_; (try clear hb); (try clear hb2); (try clear hk); (try clear hi)) | ((with_reducible refine gate_callee (f := 21) rfl ?_); refine goesL_ (some 23) rfl rfl Try.func21 (by kernel_rfl) rfl #[.slice A1 l1.length c1] rfl (by (try simp only [List.map_toArray, List.map_cons, List.map_nil]); first | done | rfl | (simp only [List.length_drop, List.length_take]; rfl)) ?_; (with_reducible refine (spec_DrawWrdTo.calls k _ _ l1 t147 _ ?side1 ?side2 A6.out).mono ?_); (case side1 => repeat (first | exact (Kd.C_below HR1.out HB.out) | (with_reducible refine Kd.C_alloc ?_ _) | (with_reducible refine Kd.C_drewN ?_ _) | (with_reducible refine Kd.C_drew ?_))); (case side2 => exact HC1.out); rintro e w44 ⟨rfl, hb⟩; refine ⟨_, rfl, ?_⟩; have n0_ := Aside0.mk (below_step (by repeat (first | (with_reducible first | exact HB.out | apply below_alloc | apply pw_below_drewN | apply below_drew1) | exact HB.out)) hb); clear HB; have HB := n0_; clear n0_; (try clear hb); (try clear hb2); (try clear hk); (try clear hi)) | ((with_reducible refine gate_callee (f := 22) rfl ?_); refine goesL_ (some 26) rfl rfl Try.func22 (by kernel_rfl) rfl #[.int .i64 t145, .bool t146] rfl (by (try simp only [List.map_toArray, List.map_cons, List.map_nil]); first | done | rfl | (simp only [List.length_drop, List.length_take]; rfl)) ?_; (with_reducible refine (impl_WrdMake.calls k t145 t146 t148 _ A7.out).mono ?_); rintro e w' ⟨rfl, ⟨nd, rfl⟩⟩; refine ⟨_, rfl, ?_⟩) | ((with_reducible refine gate_callee (f := 23) rfl ?_); refine goesL_ (some 30) rfl rfl Try.func23 (by kernel_rfl) rfl #[.int .i64 t145, .bool t146] rfl (by (try simp only [List.map_toArray, List.map_cons, List.map_nil]); first | done | rfl | (simp only [List.length_drop, List.length_take]; rfl)) ?_; (with_reducible refine (spec_WrdMake.calls t145 t146 t149 _ A8.out).mono ?_); rintro e w' ⟨rfl, ⟨nd, rfl⟩⟩; refine ⟨_, rfl, ?_⟩) | (go_at_call 24; (with_reducible refine (impl_WrdTo.calls t147 t150 _ A10.out).mono ?_); rintro e w' ⟨rfl, ⟨nd, rfl⟩⟩) | (go_at_call 25; (with_reducible refine (spec_WrdTo.calls t147 t151 _ A11.out).mono ?_); rintro e w' ⟨rfl, ⟨nd, rfl⟩⟩) | (go_at_call 26; (with_reducible refine (impl_WrdMark.calls t147 t152 _ A13.out).mono ?_); rintro e w' ⟨rfl, ⟨nd, rfl⟩⟩) | (go_at_call 27; (with_reducible refine (spec_WrdMark.calls t147 t153 _ A14.out).mono ?_); rintro e w' ⟨rfl, ⟨nd, rfl⟩⟩) | (go_at_call 19; (with_reducible refine (laws_tgOk.calls k  t160 _ A42.out).mono ?_); rintro e w45 ⟨rfl, hb⟩; have n0_ := Aside0.mk (below_step (by repeat (first | (with_reducible first | exact HB.out | apply below_alloc | apply pw_below_drewN | apply below_drew1) | exact HB.out)) hb); clear HB; have HB := n0_; clear n0_; (try clear hb); (try clear hb2); (try clear hk); (try clear hi)))
                    go_ret
                    exact ⟨by first | rfl | (simp [errW_none, errW_some] <;> rfl) | (simp [*, errW_none, errW_some] <;> rfl), by repeat (first | (with_reducible first | exact HB.out | apply below_alloc | apply pw_below_drewN | apply below_drew1) | exact HB.out)⟩
                  · rw [if_neg c41] at H
                    have c41b0 : (t148 == 0) = false := beq_eq_false_iff_ne.mpr c41
                    have c41b1 : (t148 != 0) = true := bne_iff_ne.mpr c41
                    exact absurd (Option.some.inj H) (by rw [HT.out]; decide)
                · rw [if_neg c40] at H
                  have c40b0 : decide (t145 < 0) = false := decide_eq_false c40
                  clear c40
                  by_cases c46 : t145 > 9
                  · rw [if_pos c46] at H
                    have c46b0 : decide (9 < t145) = true := decide_eq_true c46
                    clear c46
                    by_cases c47 : t148 = 0
                    · rw [if_pos c47] at H
                      have c47b0 : (t148 == 0) = true := beq_iff_eq.mpr c47
                      have c47b1 : (t148 != 0) = false := bne_eq_false_iff_eq.mpr c47
                      clear c47
                      replace H := Option.bind_eq_some_iff.mp H
                      obtain ⟨t161, A480, H⟩ := H
                      replace H : (some t161) = some r := H
                      have A48 := Aside0.mk A480
                      clear A480
                      obtain rfl := Option.some.inj H
                      go_enter Try.func5, Try.ntmps5
                      go_wp2_with (first | ((with_reducible refine gate_callee (f := 20) rfl ?_); refine goesL_ (some 19) rfl rfl Try.func20 (by kernel_rfl) rfl #[.slice A0 l0.length c0] rfl (by (try simp only [List.map_toArray, List.map_cons, List.map_nil]); first | done | rfl | (simp only [List.length_drop, List.length_take]; rfl)) ?_; (with_reducible refine (spec_DrawWrdMake.calls k _ _ l0 t145 t146 _ ?side1 ?side2 A5.out).mono ?_); (case side1 => repeat (first | exact HR0.out | (with_reducible refine Kd.C_alloc ?_ _) | (with_reducible refine Kd.C_drewN ?_ _) | (with_reducible refine Kd.C_drew ?_))); (case side2 => exact HC0.out); rintro e w49 ⟨rfl, hb⟩; refine ⟨_, rfl, ?_⟩; have n0_ := Aside0.mk (below_step (by repeat (first | (with_reducible first | exact HB.out | apply below_alloc | apply pw_below_drewN | apply below_drew1) | exact HB.out)) hb); clear HB; have HB := n0_; clear n0_; (try clear hb); (try clear hb2); (try clear hk); (try clear hi)) | ((with_reducible refine gate_callee (f := 21) rfl ?_); refine goesL_ (some 23) rfl rfl Try.func21 (by kernel_rfl) rfl #[.slice A1 l1.length c1] rfl (by (try simp only [List.map_toArray, List.map_cons, List.map_nil]); first | done | rfl | (simp only [List.length_drop, List.length_take]; rfl)) ?_; (with_reducible refine (spec_DrawWrdTo.calls k _ _ l1 t147 _ ?side1 ?side2 A6.out).mono ?_); (case side1 => repeat (first | exact (Kd.C_below HR1.out HB.out) | (with_reducible refine Kd.C_alloc ?_ _) | (with_reducible refine Kd.C_drewN ?_ _) | (with_reducible refine Kd.C_drew ?_))); (case side2 => exact HC1.out); rintro e w50 ⟨rfl, hb⟩; refine ⟨_, rfl, ?_⟩; have n0_ := Aside0.mk (below_step (by repeat (first | (with_reducible first | exact HB.out | apply below_alloc | apply pw_below_drewN | apply below_drew1) | exact HB.out)) hb); clear HB; have HB := n0_; clear n0_; (try clear hb); (try clear hb2); (try clear hk); (try clear hi)) | ((with_reducible refine gate_callee (f := 22) rfl ?_); refine goesL_ (some 26) rfl rfl Try.func22 (by kernel_rfl) rfl #[.int .i64 t145, .bool t146] rfl (by (try simp only [List.map_toArray, List.map_cons, List.map_nil]); first | done | rfl | (simp only [List.length_drop, List.length_take]; rfl)) ?_; (with_reducible refine (impl_WrdMake.calls k t145 t146 t148 _ A7.out).mono ?_); rintro e w' ⟨rfl, ⟨nd, rfl⟩⟩; refine ⟨_, rfl, ?_⟩) | ((with_reducible refine gate_callee (f := 23) rfl ?_); refine goesL_ (some 30) rfl rfl Try.func23 (by kernel_rfl) rfl #[.int .i64 t145, .bool t146] rfl (by (try simp only [List.map_toArray, List.map_cons, List.map_nil]); first | done | rfl | (simp only [List.length_drop, List.length_take]; rfl)) ?_; (with_reducible refine (spec_WrdMake.calls t145 t146 t149 _ A8.out).mono ?_); rintro e w' ⟨rfl, ⟨nd, rfl⟩⟩; refine ⟨_, rfl, ?_⟩) | (go_at_call 24; (with_reducible refine (impl_WrdTo.calls t147 t150 _ A10.out).mono ?_); rintro e w' ⟨rfl, ⟨nd, rfl⟩⟩) | (go_at_call 25; (with_reducible refine (spec_WrdTo.calls t147 t151 _ A11.out).mono ?_); rintro e w' ⟨rfl, ⟨nd, rfl⟩⟩) | (go_at_call 26; (with_reducible refine (impl_WrdMark.calls t147 t152 _ A13.out).mono ?_); rintro e w' ⟨rfl, ⟨nd, rfl⟩⟩) | (go_at_call 27; (with_reducible refine (spec_WrdMark.calls t147 t153 _ A14.out).mono ?_); rintro e w' ⟨rfl, ⟨nd, rfl⟩⟩) | (go_at_call 19; (with_reducible refine (laws_tgOk.calls k  t161 _ A48.out).mono ?_); rintro e w51 ⟨rfl, hb⟩; have n0_ := Aside0.mk (below_step (by repeat (first | (with_reducible first | exact HB.out | apply below_alloc | apply pw_below_drewN | apply below_drew1) | exact HB.out)) hb); clear HB; have HB := n0_; clear n0_; (try clear hb); (try clear hb2); (try clear hk); (try clear hi)))
                      go_ret
                      exact ⟨by first | rfl | (simp [errW_none, errW_some] <;> rfl) | (simp [*, errW_none, errW_some] <;> rfl), by repeat (first | (with_reducible first | exact HB.out | apply below_alloc | apply pw_below_drewN | apply below_drew1) | exact HB.out)⟩
                    · rw [if_neg c47] at H
                      have c47b0 : (t148 == 0) = false := beq_eq_false_iff_ne.mpr c47
                      have c47b1 : (t148 != 0) = true := bne_iff_ne.mpr c47
                      exact absurd (Option.some.inj H) (by rw [HT.out]; decide)
                  · rw [if_neg c46] at H
                    have c46b0 : decide (9 < t145) = false := decide_eq_false c46
                    clear c46
                    replace H := Option.bind_eq_some_iff.mp H
                    obtain ⟨t162, A520, H⟩ := H
                    replace H : (if t162 = t145 then ((impl_WrdMark.f t148).bind fun t163 => (if (t163 == t146) = true then ((laws_tgOk.f k).bind fun t164 => (some t164)) else (some false))) else (some false)) = some r := H
                    have A52 := Aside0.mk A520
                    clear A520
                    by_cases c53 : t162 = t145
                    · rw [if_pos c53] at H
                      have c53b0 : (t162 == t145) = true := beq_iff_eq.mpr c53
                      have c53b1 : (t162 != t145) = false := bne_eq_false_iff_eq.mpr c53
                      clear c53
                      replace H := Option.bind_eq_some_iff.mp H
                      obtain ⟨t163, A540, H⟩ := H
                      replace H : (if (t163 == t146) = true then ((laws_tgOk.f k).bind fun t164 => (some t164)) else (some false)) = some r := H
                      have A54 := Aside0.mk A540
                      clear A540
                      by_cases c55 : (t163 == t146) = true
                      · rw [if_pos c55] at H
                        have c55b0 : (t163 == t146) = true := c55
                        (try (have c55b1 : decide (t163 = t146) = true := by simpa using c55))
                        (try (have c55b2 : (t163 == t146) = true := by simpa using c55))
                        clear c55
                        replace H := Option.bind_eq_some_iff.mp H
                        obtain ⟨t164, A560, H⟩ := H
                        replace H : (some t164) = some r := H
                        have A56 := Aside0.mk A560
                        clear A560
                        obtain rfl := Option.some.inj H
                        go_enter Try.func5, Try.ntmps5
                        go_wp2_with (first | ((with_reducible refine gate_callee (f := 20) rfl ?_); refine goesL_ (some 19) rfl rfl Try.func20 (by kernel_rfl) rfl #[.slice A0 l0.length c0] rfl (by (try simp only [List.map_toArray, List.map_cons, List.map_nil]); first | done | rfl | (simp only [List.length_drop, List.length_take]; rfl)) ?_; (with_reducible refine (spec_DrawWrdMake.calls k _ _ l0 t145 t146 _ ?side1 ?side2 A5.out).mono ?_); (case side1 => repeat (first | exact HR0.out | (with_reducible refine Kd.C_alloc ?_ _) | (with_reducible refine Kd.C_drewN ?_ _) | (with_reducible refine Kd.C_drew ?_))); (case side2 => exact HC0.out); rintro e w57 ⟨rfl, hb⟩; refine ⟨_, rfl, ?_⟩; have n0_ := Aside0.mk (below_step (by repeat (first | (with_reducible first | exact HB.out | apply below_alloc | apply pw_below_drewN | apply below_drew1) | exact HB.out)) hb); clear HB; have HB := n0_; clear n0_; (try clear hb); (try clear hb2); (try clear hk); (try clear hi)) | ((with_reducible refine gate_callee (f := 21) rfl ?_); refine goesL_ (some 23) rfl rfl Try.func21 (by kernel_rfl) rfl #[.slice A1 l1.length c1] rfl (by (try simp only [List.map_toArray, List.map_cons, List.map_nil]); first | done | rfl | (simp only [List.length_drop, List.length_take]; rfl)) ?_; (with_reducible refine (spec_DrawWrdTo.calls k _ _ l1 t147 _ ?side1 ?side2 A6.out).mono ?_); (case side1 => repeat (first | exact (Kd.C_below HR1.out HB.out) | (with_reducible refine Kd.C_alloc ?_ _) | (with_reducible refine Kd.C_drewN ?_ _) | (with_reducible refine Kd.C_drew ?_))); (case side2 => exact HC1.out); rintro e w58 ⟨rfl, hb⟩; refine ⟨_, rfl, ?_⟩; have n0_ := Aside0.mk (below_step (by repeat (first | (with_reducible first | exact HB.out | apply below_alloc | apply pw_below_drewN | apply below_drew1) | exact HB.out)) hb); clear HB; have HB := n0_; clear n0_; (try clear hb); (try clear hb2); (try clear hk); (try clear hi)) | ((with_reducible refine gate_callee (f := 22) rfl ?_); refine goesL_ (some 26) rfl rfl Try.func22 (by kernel_rfl) rfl #[.int .i64 t145, .bool t146] rfl (by (try simp only [List.map_toArray, List.map_cons, List.map_nil]); first | done | rfl | (simp only [List.length_drop, List.length_take]; rfl)) ?_; (with_reducible refine (impl_WrdMake.calls k t145 t146 t148 _ A7.out).mono ?_); rintro e w' ⟨rfl, ⟨nd, rfl⟩⟩; refine ⟨_, rfl, ?_⟩) | ((with_reducible refine gate_callee (f := 23) rfl ?_); refine goesL_ (some 30) rfl rfl Try.func23 (by kernel_rfl) rfl #[.int .i64 t145, .bool t146] rfl (by (try simp only [List.map_toArray, List.map_cons, List.map_nil]); first | done | rfl | (simp only [List.length_drop, List.length_take]; rfl)) ?_; (with_reducible refine (spec_WrdMake.calls t145 t146 t149 _ A8.out).mono ?_); rintro e w' ⟨rfl, ⟨nd, rfl⟩⟩; refine ⟨_, rfl, ?_⟩) | (go_at_call 24; (with_reducible refine (impl_WrdTo.calls t147 t150 _ A10.out).mono ?_); rintro e w' ⟨rfl, ⟨nd, rfl⟩⟩) | (go_at_call 25; (with_reducible refine (spec_WrdTo.calls t147 t151 _ A11.out).mono ?_); rintro e w' ⟨rfl, ⟨nd, rfl⟩⟩) | (go_at_call 26; (with_reducible refine (impl_WrdMark.calls t147 t152 _ A13.out).mono ?_); rintro e w' ⟨rfl, ⟨nd, rfl⟩⟩) | (go_at_call 27; (with_reducible refine (spec_WrdMark.calls t147 t153 _ A14.out).mono ?_); rintro e w' ⟨rfl, ⟨nd, rfl⟩⟩) | ((with_reducible refine gate_callee (f := 24) rfl ?_); refine goesL_ (some 73) rfl rfl Try.func24 (by kernel_rfl) rfl #[.int .i64 t148] rfl (by (try simp only [List.map_toArray, List.map_cons, List.map_nil]); first | done | rfl | (simp only [List.length_drop, List.length_take]; rfl)) ?_; (with_reducible refine (impl_WrdTo.calls t148 t162 _ A52.out).mono ?_); rintro e w' ⟨rfl, ⟨nd, rfl⟩⟩; refine ⟨_, rfl, ?_⟩) | (go_at_call 26; (with_reducible refine (impl_WrdMark.calls t148 t163 _ A54.out).mono ?_); rintro e w' ⟨rfl, ⟨nd, rfl⟩⟩) | (go_at_call 19; (with_reducible refine (laws_tgOk.calls k  t164 _ A56.out).mono ?_); rintro e w59 ⟨rfl, hb⟩; have n0_ := Aside0.mk (below_step (by repeat (first | (with_reducible first | exact HB.out | apply below_alloc | apply pw_below_drewN | apply below_drew1) | exact HB.out)) hb); clear HB; have HB := n0_; clear n0_; (try clear hb); (try clear hb2); (try clear hk); (try clear hi)))
                        go_ret
                        exact ⟨by first | rfl | (simp [errW_none, errW_some] <;> rfl) | (simp [*, errW_none, errW_some] <;> rfl), by repeat (first | (with_reducible first | exact HB.out | apply below_alloc | apply pw_below_drewN | apply below_drew1) | exact HB.out)⟩
                      · rw [if_neg c55] at H
                        have c55b0 : (t163 == t146) = false := by simpa using c55
                        (try (have c55b1 : decide (t163 = t146) = false := by simpa using c55))
                        (try (have c55b2 : (t163 == t146) = false := by simpa using c55))
                        (try (have c55b3 : ¬ (t163 = t146) := by simpa using c55))
                        clear c55
                        exact absurd (Option.some.inj H) (by rw [HT.out]; decide)
                    · rw [if_neg c53] at H
                      have c53b0 : (t162 == t145) = false := beq_eq_false_iff_ne.mpr c53
                      have c53b1 : (t162 != t145) = true := bne_iff_ne.mpr c53
                      exact absurd (Option.some.inj H) (by rw [HT.out]; decide)
            · rw [if_neg c16] at H
              have c16b0 : decide (0 ≤ t147) = false := decide_eq_false c16
              clear c16
              by_cases c60 : t145 < 0
              · rw [if_pos c60] at H
                have c60b0 : decide (t145 < 0) = true := decide_eq_true c60
                clear c60
                by_cases c61 : t148 = 0
                · rw [if_pos c61] at H
                  have c61b0 : (t148 == 0) = true := beq_iff_eq.mpr c61
                  have c61b1 : (t148 != 0) = false := bne_eq_false_iff_eq.mpr c61
                  clear c61
                  replace H := Option.bind_eq_some_iff.mp H
                  obtain ⟨t165, A620, H⟩ := H
                  replace H : (some t165) = some r := H
                  have A62 := Aside0.mk A620
                  clear A620
                  obtain rfl := Option.some.inj H
                  go_enter Try.func5, Try.ntmps5
                  go_wp2_with (first | ((with_reducible refine gate_callee (f := 20) rfl ?_); refine goesL_ (some 19) rfl rfl Try.func20 (by kernel_rfl) rfl #[.slice A0 l0.length c0] rfl (by (try simp only [List.map_toArray, List.map_cons, List.map_nil]); first | done | rfl | (simp only [List.length_drop, List.length_take]; rfl)) ?_; (with_reducible refine (spec_DrawWrdMake.calls k _ _ l0 t145 t146 _ ?side1 ?side2 A5.out).mono ?_); (case side1 => repeat (first | exact HR0.out | (with_reducible refine Kd.C_alloc ?_ _) | (with_reducible refine Kd.C_drewN ?_ _) | (with_reducible refine Kd.C_drew ?_))); (case side2 => exact HC0.out); rintro e w63 ⟨rfl, hb⟩; refine ⟨_, rfl, ?_⟩; have n0_ := Aside0.mk (below_step (by repeat (first | (with_reducible first | exact HB.out | apply below_alloc | apply pw_below_drewN | apply below_drew1) | exact HB.out)) hb); clear HB; have HB := n0_; clear n0_; (try clear hb); (try clear hb2); (try clear hk); (try clear hi)) | ((with_reducible refine gate_callee (f := 21) rfl ?_); refine goesL_ (some 23) rfl rfl Try.func21 (by kernel_rfl) rfl #[.slice A1 l1.length c1] rfl (by (try simp only [List.map_toArray, List.map_cons, List.map_nil]); first | done | rfl | (simp only [List.length_drop, List.length_take]; rfl)) ?_; (with_reducible refine (spec_DrawWrdTo.calls k _ _ l1 t147 _ ?side1 ?side2 A6.out).mono ?_); (case side1 => repeat (first | exact (Kd.C_below HR1.out HB.out) | (with_reducible refine Kd.C_alloc ?_ _) | (with_reducible refine Kd.C_drewN ?_ _) | (with_reducible refine Kd.C_drew ?_))); (case side2 => exact HC1.out); rintro e w64 ⟨rfl, hb⟩; refine ⟨_, rfl, ?_⟩; have n0_ := Aside0.mk (below_step (by repeat (first | (with_reducible first | exact HB.out | apply below_alloc | apply pw_below_drewN | apply below_drew1) | exact HB.out)) hb); clear HB; have HB := n0_; clear n0_; (try clear hb); (try clear hb2); (try clear hk); (try clear hi)) | ((with_reducible refine gate_callee (f := 22) rfl ?_); refine goesL_ (some 26) rfl rfl Try.func22 (by kernel_rfl) rfl #[.int .i64 t145, .bool t146] rfl (by (try simp only [List.map_toArray, List.map_cons, List.map_nil]); first | done | rfl | (simp only [List.length_drop, List.length_take]; rfl)) ?_; (with_reducible refine (impl_WrdMake.calls k t145 t146 t148 _ A7.out).mono ?_); rintro e w' ⟨rfl, ⟨nd, rfl⟩⟩; refine ⟨_, rfl, ?_⟩) | ((with_reducible refine gate_callee (f := 23) rfl ?_); refine goesL_ (some 30) rfl rfl Try.func23 (by kernel_rfl) rfl #[.int .i64 t145, .bool t146] rfl (by (try simp only [List.map_toArray, List.map_cons, List.map_nil]); first | done | rfl | (simp only [List.length_drop, List.length_take]; rfl)) ?_; (with_reducible refine (spec_WrdMake.calls t145 t146 t149 _ A8.out).mono ?_); rintro e w' ⟨rfl, ⟨nd, rfl⟩⟩; refine ⟨_, rfl, ?_⟩) | (go_at_call 24; (with_reducible refine (impl_WrdTo.calls t147 t150 _ A10.out).mono ?_); rintro e w' ⟨rfl, ⟨nd, rfl⟩⟩) | (go_at_call 25; (with_reducible refine (spec_WrdTo.calls t147 t151 _ A11.out).mono ?_); rintro e w' ⟨rfl, ⟨nd, rfl⟩⟩) | (go_at_call 26; (with_reducible refine (impl_WrdMark.calls t147 t152 _ A13.out).mono ?_); rintro e w' ⟨rfl, ⟨nd, rfl⟩⟩) | (go_at_call 27; (with_reducible refine (spec_WrdMark.calls t147 t153 _ A14.out).mono ?_); rintro e w' ⟨rfl, ⟨nd, rfl⟩⟩) | (go_at_call 19; (with_reducible refine (laws_tgOk.calls k  t165 _ A62.out).mono ?_); rintro e w65 ⟨rfl, hb⟩; have n0_ := Aside0.mk (below_step (by repeat (first | (with_reducible first | exact HB.out | apply below_alloc | apply pw_below_drewN | apply below_drew1) | exact HB.out)) hb); clear HB; have HB := n0_; clear n0_; (try clear hb); (try clear hb2); (try clear hk); (try clear hi)))
                  go_ret
                  exact ⟨by first | rfl | (simp [errW_none, errW_some] <;> rfl) | (simp [*, errW_none, errW_some] <;> rfl), by repeat (first | (with_reducible first | exact HB.out | apply below_alloc | apply pw_below_drewN | apply below_drew1) | exact HB.out)⟩
                · rw [if_neg c61] at H
                  have c61b0 : (t148 == 0) = false := beq_eq_false_iff_ne.mpr c61
                  have c61b1 : (t148 != 0) = true := bne_iff_ne.mpr c61
                  exact absurd (Option.some.inj H) (by rw [HT.out]; decide)
              · rw [if_neg c60] at H
                have c60b0 : decide (t145 < 0) = false := decide_eq_false c60
                clear c60
                by_cases c66 : t145 > 9
                · rw [if_pos c66] at H
                  have c66b0 : decide (9 < t145) = true := decide_eq_true c66
                  clear c66
                  by_cases c67 : t148 = 0
                  · rw [if_pos c67] at H
                    have c67b0 : (t148 == 0) = true := beq_iff_eq.mpr c67
                    have c67b1 : (t148 != 0) = false := bne_eq_false_iff_eq.mpr c67
                    clear c67
                    replace H := Option.bind_eq_some_iff.mp H
                    obtain ⟨t166, A680, H⟩ := H
                    replace H : (some t166) = some r := H
                    have A68 := Aside0.mk A680
                    clear A680
                    obtain rfl := Option.some.inj H
                    go_enter Try.func5, Try.ntmps5
                    go_wp2_with (first | ((with_reducible refine gate_callee (f := 20) rfl ?_); refine goesL_ (some 19) rfl rfl Try.func20 (by kernel_rfl) rfl #[.slice A0 l0.length c0] rfl (by (try simp only [List.map_toArray, List.map_cons, List.map_nil]); first | done | rfl | (simp only [List.length_drop, List.length_take]; rfl)) ?_; (with_reducible refine (spec_DrawWrdMake.calls k _ _ l0 t145 t146 _ ?side1 ?side2 A5.out).mono ?_); (case side1 => repeat (first | exact HR0.out | (with_reducible refine Kd.C_alloc ?_ _) | (with_reducible refine Kd.C_drewN ?_ _) | (with_reducible refine Kd.C_drew ?_))); (case side2 => exact HC0.out); rintro e w69 ⟨rfl, hb⟩; refine ⟨_, rfl, ?_⟩; have n0_ := Aside0.mk (below_step (by repeat (first | (with_reducible first | exact HB.out | apply below_alloc | apply pw_below_drewN | apply below_drew1) | exact HB.out)) hb); clear HB; have HB := n0_; clear n0_; (try clear hb); (try clear hb2); (try clear hk); (try clear hi)) | ((with_reducible refine gate_callee (f := 21) rfl ?_); refine goesL_ (some 23) rfl rfl Try.func21 (by kernel_rfl) rfl #[.slice A1 l1.length c1] rfl (by (try simp only [List.map_toArray, List.map_cons, List.map_nil]); first | done | rfl | (simp only [List.length_drop, List.length_take]; rfl)) ?_; (with_reducible refine (spec_DrawWrdTo.calls k _ _ l1 t147 _ ?side1 ?side2 A6.out).mono ?_); (case side1 => repeat (first | exact (Kd.C_below HR1.out HB.out) | (with_reducible refine Kd.C_alloc ?_ _) | (with_reducible refine Kd.C_drewN ?_ _) | (with_reducible refine Kd.C_drew ?_))); (case side2 => exact HC1.out); rintro e w70 ⟨rfl, hb⟩; refine ⟨_, rfl, ?_⟩; have n0_ := Aside0.mk (below_step (by repeat (first | (with_reducible first | exact HB.out | apply below_alloc | apply pw_below_drewN | apply below_drew1) | exact HB.out)) hb); clear HB; have HB := n0_; clear n0_; (try clear hb); (try clear hb2); (try clear hk); (try clear hi)) | ((with_reducible refine gate_callee (f := 22) rfl ?_); refine goesL_ (some 26) rfl rfl Try.func22 (by kernel_rfl) rfl #[.int .i64 t145, .bool t146] rfl (by (try simp only [List.map_toArray, List.map_cons, List.map_nil]); first | done | rfl | (simp only [List.length_drop, List.length_take]; rfl)) ?_; (with_reducible refine (impl_WrdMake.calls k t145 t146 t148 _ A7.out).mono ?_); rintro e w' ⟨rfl, ⟨nd, rfl⟩⟩; refine ⟨_, rfl, ?_⟩) | ((with_reducible refine gate_callee (f := 23) rfl ?_); refine goesL_ (some 30) rfl rfl Try.func23 (by kernel_rfl) rfl #[.int .i64 t145, .bool t146] rfl (by (try simp only [List.map_toArray, List.map_cons, List.map_nil]); first | done | rfl | (simp only [List.length_drop, List.length_take]; rfl)) ?_; (with_reducible refine (spec_WrdMake.calls t145 t146 t149 _ A8.out).mono ?_); rintro e w' ⟨rfl, ⟨nd, rfl⟩⟩; refine ⟨_, rfl, ?_⟩) | (go_at_call 24; (with_reducible refine (impl_WrdTo.calls t147 t150 _ A10.out).mono ?_); rintro e w' ⟨rfl, ⟨nd, rfl⟩⟩) | (go_at_call 25; (with_reducible refine (spec_WrdTo.calls t147 t151 _ A11.out).mono ?_); rintro e w' ⟨rfl, ⟨nd, rfl⟩⟩) | (go_at_call 26; (with_reducible refine (impl_WrdMark.calls t147 t152 _ A13.out).mono ?_); rintro e w' ⟨rfl, ⟨nd, rfl⟩⟩) | (go_at_call 27; (with_reducible refine (spec_WrdMark.calls t147 t153 _ A14.out).mono ?_); rintro e w' ⟨rfl, ⟨nd, rfl⟩⟩) | (go_at_call 19; (with_reducible refine (laws_tgOk.calls k  t166 _ A68.out).mono ?_); rintro e w71 ⟨rfl, hb⟩; have n0_ := Aside0.mk (below_step (by repeat (first | (with_reducible first | exact HB.out | apply below_alloc | apply pw_below_drewN | apply below_drew1) | exact HB.out)) hb); clear HB; have HB := n0_; clear n0_; (try clear hb); (try clear hb2); (try clear hk); (try clear hi)))
                    go_ret
                    exact ⟨by first | rfl | (simp [errW_none, errW_some] <;> rfl) | (simp [*, errW_none, errW_some] <;> rfl), by repeat (first | (with_reducible first | exact HB.out | apply below_alloc | apply pw_below_drewN | apply below_drew1) | exact HB.out)⟩
                  · rw [if_neg c67] at H
                    have c67b0 : (t148 == 0) = false := beq_eq_false_iff_ne.mpr c67
                    have c67b1 : (t148 != 0) = true := bne_iff_ne.mpr c67
                    exact absurd (Option.some.inj H) (by rw [HT.out]; decide)
                · rw [if_neg c66] at H
                  have c66b0 : decide (9 < t145) = false := decide_eq_false c66
                  clear c66
                  replace H := Option.bind_eq_some_iff.mp H
                  obtain ⟨t167, A720, H⟩ := H
                  replace H : (if t167 = t145 then ((impl_WrdMark.f t148).bind fun t168 => (if (t168 == t146) = true then ((laws_tgOk.f k).bind fun t169 => (some t169)) else (some false))) else (some false)) = some r := H
                  have A72 := Aside0.mk A720
                  clear A720
                  by_cases c73 : t167 = t145
                  · rw [if_pos c73] at H
                    have c73b0 : (t167 == t145) = true := beq_iff_eq.mpr c73
                    have c73b1 : (t167 != t145) = false := bne_eq_false_iff_eq.mpr c73
                    clear c73
                    replace H := Option.bind_eq_some_iff.mp H
                    obtain ⟨t168, A740, H⟩ := H
                    replace H : (if (t168 == t146) = true then ((laws_tgOk.f k).bind fun t169 => (some t169)) else (some false)) = some r := H
                    have A74 := Aside0.mk A740
                    clear A740
                    by_cases c75 : (t168 == t146) = true
                    · rw [if_pos c75] at H
                      have c75b0 : (t168 == t146) = true := c75
                      (try (have c75b1 : decide (t168 = t146) = true := by simpa using c75))
                      (try (have c75b2 : (t168 == t146) = true := by simpa using c75))
                      clear c75
                      replace H := Option.bind_eq_some_iff.mp H
                      obtain ⟨t169, A760, H⟩ := H
                      replace H : (some t169) = some r := H
                      have A76 := Aside0.mk A760
                      clear A760
                      obtain rfl := Option.some.inj H
                      go_enter Try.func5, Try.ntmps5
                      go_wp2_with (first | ((with_reducible refine gate_callee (f := 20) rfl ?_); refine goesL_ (some 19) rfl rfl Try.func20 (by kernel_rfl) rfl #[.slice A0 l0.length c0] rfl (by (try simp only [List.map_toArray, List.map_cons, List.map_nil]); first | done | rfl | (simp only [List.length_drop, List.length_take]; rfl)) ?_; (with_reducible refine (spec_DrawWrdMake.calls k _ _ l0 t145 t146 _ ?side1 ?side2 A5.out).mono ?_); (case side1 => repeat (first | exact HR0.out | (with_reducible refine Kd.C_alloc ?_ _) | (with_reducible refine Kd.C_drewN ?_ _) | (with_reducible refine Kd.C_drew ?_))); (case side2 => exact HC0.out); rintro e w77 ⟨rfl, hb⟩; refine ⟨_, rfl, ?_⟩; have n0_ := Aside0.mk (below_step (by repeat (first | (with_reducible first | exact HB.out | apply below_alloc | apply pw_below_drewN | apply below_drew1) | exact HB.out)) hb); clear HB; have HB := n0_; clear n0_; (try clear hb); (try clear hb2); (try clear hk); (try clear hi)) | ((with_reducible refine gate_callee (f := 21) rfl ?_); refine goesL_ (some 23) rfl rfl Try.func21 (by kernel_rfl) rfl #[.slice A1 l1.length c1] rfl (by (try simp only [List.map_toArray, List.map_cons, List.map_nil]); first | done | rfl | (simp only [List.length_drop, List.length_take]; rfl)) ?_; (with_reducible refine (spec_DrawWrdTo.calls k _ _ l1 t147 _ ?side1 ?side2 A6.out).mono ?_); (case side1 => repeat (first | exact (Kd.C_below HR1.out HB.out) | (with_reducible refine Kd.C_alloc ?_ _) | (with_reducible refine Kd.C_drewN ?_ _) | (with_reducible refine Kd.C_drew ?_))); (case side2 => exact HC1.out); rintro e w78 ⟨rfl, hb⟩; refine ⟨_, rfl, ?_⟩; have n0_ := Aside0.mk (below_step (by repeat (first | (with_reducible first | exact HB.out | apply below_alloc | apply pw_below_drewN | apply below_drew1) | exact HB.out)) hb); clear HB; have HB := n0_; clear n0_; (try clear hb); (try clear hb2); (try clear hk); (try clear hi)) | ((with_reducible refine gate_callee (f := 22) rfl ?_); refine goesL_ (some 26) rfl rfl Try.func22 (by kernel_rfl) rfl #[.int .i64 t145, .bool t146] rfl (by (try simp only [List.map_toArray, List.map_cons, List.map_nil]); first | done | rfl | (simp only [List.length_drop, List.length_take]; rfl)) ?_; (with_reducible refine (impl_WrdMake.calls k t145 t146 t148 _ A7.out).mono ?_); rintro e w' ⟨rfl, ⟨nd, rfl⟩⟩; refine ⟨_, rfl, ?_⟩) | ((with_reducible refine gate_callee (f := 23) rfl ?_); refine goesL_ (some 30) rfl rfl Try.func23 (by kernel_rfl) rfl #[.int .i64 t145, .bool t146] rfl (by (try simp only [List.map_toArray, List.map_cons, List.map_nil]); first | done | rfl | (simp only [List.length_drop, List.length_take]; rfl)) ?_; (with_reducible refine (spec_WrdMake.calls t145 t146 t149 _ A8.out).mono ?_); rintro e w' ⟨rfl, ⟨nd, rfl⟩⟩; refine ⟨_, rfl, ?_⟩) | (go_at_call 24; (with_reducible refine (impl_WrdTo.calls t147 t150 _ A10.out).mono ?_); rintro e w' ⟨rfl, ⟨nd, rfl⟩⟩) | (go_at_call 25; (with_reducible refine (spec_WrdTo.calls t147 t151 _ A11.out).mono ?_); rintro e w' ⟨rfl, ⟨nd, rfl⟩⟩) | (go_at_call 26; (with_reducible refine (impl_WrdMark.calls t147 t152 _ A13.out).mono ?_); rintro e w' ⟨rfl, ⟨nd, rfl⟩⟩) | (go_at_call 27; (with_reducible refine (spec_WrdMark.calls t147 t153 _ A14.out).mono ?_); rintro e w' ⟨rfl, ⟨nd, rfl⟩⟩) | ((with_reducible refine gate_callee (f := 24) rfl ?_); refine goesL_ (some 73) rfl rfl Try.func24 (by kernel_rfl) rfl #[.int .i64 t148] rfl (by (try simp only [List.map_toArray, List.map_cons, List.map_nil]); first | done | rfl | (simp only [List.length_drop, List.length_take]; rfl)) ?_; (with_reducible refine (impl_WrdTo.calls t148 t167 _ A72.out).mono ?_); rintro e w' ⟨rfl, ⟨nd, rfl⟩⟩; refine ⟨_, rfl, ?_⟩) | (go_at_call 26; (with_reducible refine (impl_WrdMark.calls t148 t168 _ A74.out).mono ?_); rintro e w' ⟨rfl, ⟨nd, rfl⟩⟩) | (go_at_call 19; (with_reducible refine (laws_tgOk.calls k  t169 _ A76.out).mono ?_); rintro e w79 ⟨rfl, hb⟩; have n0_ := Aside0.mk (below_step (by repeat (first | (with_reducible first | exact HB.out | apply below_alloc | apply pw_below_drewN | apply below_drew1) | exact HB.out)) hb); clear HB; have HB := n0_; clear n0_; (try clear hb); (try clear hb2); (try clear hk); (try clear hi)))
                      go_ret
                      exact ⟨by first | rfl | (simp [errW_none, errW_some] <;> rfl) | (simp [*, errW_none, errW_some] <;> rfl), by repeat (first | (with_reducible first | exact HB.out | apply below_alloc | apply pw_below_drewN | apply below_drew1) | exact HB.out)⟩
                    · rw [if_neg c75] at H
                      have c75b0 : (t168 == t146) = false := by simpa using c75
                      (try (have c75b1 : decide (t168 = t146) = false := by simpa using c75))
                      (try (have c75b2 : (t168 == t146) = false := by simpa using c75))
                      (try (have c75b3 : ¬ (t168 = t146) := by simpa using c75))
                      clear c75
                      exact absurd (Option.some.inj H) (by rw [HT.out]; decide)
                  · rw [if_neg c73] at H
                    have c73b0 : (t167 == t145) = false := beq_eq_false_iff_ne.mpr c73
                    have c73b1 : (t167 != t145) = true := bne_iff_ne.mpr c73
                    exact absurd (Option.some.inj H) (by rw [HT.out]; decide)
        · rw [if_neg c12] at H
          have c12b0 : (t150 == t151) = false := beq_eq_false_iff_ne.mpr c12
          have c12b1 : (t150 != t151) = true := bne_iff_ne.mpr c12
          exact absurd (Option.some.inj H) (by rw [HT.out]; decide)
      · rw [if_neg c9] at H
        have c9b0 : (t148 == t149) = false := beq_eq_false_iff_ne.mpr c9
        have c9b1 : (t148 != t149) = true := bne_iff_ne.mpr c9
        exact absurd (Option.some.inj H) (by rw [HT.out]; decide)

/-- THE ONE PURE STATEMENT of laws_FnWrdMake: yours. -/
def laws_FnWrdMake.Pure : Prop := ∀ (l0 : List Int) (l1 : List Int), l0.length ≤ maxLen → l0.length * 1 ≤ 140737488351232 → (∀ x ∈ l0, (Lit.int .u8 x).wf = true) → l1.length ≤ maxLen → l1.length * 1 ≤ 140737488351232 → (∀ x ∈ l1, (Lit.int .u8 x).wf = true) → ∃ k, laws_FnWrdMake.f k l0 l1 = some true
theorem laws_FnWrdMake.walk (P : laws_FnWrdMake.Pure) (a0 : Option Addr) (len0 cap0 : Nat) (z0 : List Int) (a1 : Option Addr) (len1 cap1 : Nat) (z1 : List Int) (w : World) (w0 : (a0 = none ∧ len0 = 0 ∧ cap0 = 0 ∧ z0 = []) ∨ ∃ x, a0 = some x ∧ len0 ≤ cap0 ∧ cap0 ≤ maxLen ∧ z0.length = cap0 ∧ (∀ i, i < z0.length → w.cell? (x.add i) = some (.int .u8 (z0.getD i 0))) ∧ ∀ n ∈ z0, (Lit.int .u8 n).wf = true) (y0 : len0 * 1 ≤ 140737488351232) (w1 : (a1 = none ∧ len1 = 0 ∧ cap1 = 0 ∧ z1 = []) ∨ ∃ x, a1 = some x ∧ len1 ≤ cap1 ∧ cap1 ≤ maxLen ∧ z1.length = cap1 ∧ (∀ i, i < z1.length → w.cell? (x.add i) = some (.int .u8 (z1.getD i 0))) ∧ ∀ n ∈ z1, (Lit.int .u8 n).wf = true) (y1 : len1 * 1 ≤ 140737488351232) :
    Calls Try.prog 5 #[.slice a0 len0 cap0, .slice a1 len1 cap1] w fun e w' => e = .returned (.bool true) ∧ Below w.heap.size w w' := by
  obtain ⟨l0, rfl, hr0, hm0, hw0, hc0⟩ := ReadsInt.ofRowC w0
  obtain ⟨l1, rfl, hr1, hm1, hw1, hc1⟩ := ReadsInt.ofRowC w1
  obtain ⟨k, h⟩ := P l0 l1 hm0 y0 hw0 hm1 y1 hw1
  refine (laws_FnWrdMake.calls k _ _ l0 _ _ l1 true w (Kd.C_of_reads (d := (0 : Int)) (h1 := fun _ => rfl) hr0) hc0 (Kd.C_of_reads (d := (0 : Int)) (h1 := fun _ => rfl) hr1) hc1 rfl h).mono ?_
  rintro e w' ⟨rfl, hd⟩
  exact ⟨rfl, hd⟩

end Go.Proofs.Ytdeedopjhkfplaa.GFnWrdMake
