/- The functions that the law reaches, as plain Lean functions, and that the machine comes to their answers: laid by a program of this session. Conditions: none. -/
import Derived.Test.YtabihpjgkkmnjaaGFnMapPutx0
import Derived.Test.YtabihpjgkkmnjaaGFnMapPutx5
import Derived.Test.YtabihpjgkkmnjaaGFnMapPutx6
import Derived.Test.YtabihpjgkkmnjaaGFnMapPutx7
namespace Go.Proofs.Ytabihpjgkkmnjaa.GFnMapPut
open Go.RowKit Go.Proofs.YtabihpjgkkmnjaaW.PrintWords Go.Proofs.YtabihpjgkkmnjaaW.PrintLast Go.Proofs.YtabihpjgkkmnjaaW.PrintMore
attribute [local go_sem] max2_int min2_int max_two min_two max_three min_three max_four min_four   -- for this text's walks alone
set_option linter.unusedVariables false
set_option linter.unusedSimpArgs false
open Go.Proofs.YtabihpjgkkmnjaaW.PrintWords renaming pw_below_drewN → bN_, below_alloc → bA_, below_drew1 → bD_
open Go.Proofs.YtabihpjgkkmnjaaW.PrintWords.Aside0 renaming mk → aS_

/-! ### spec_l20Key: function 50 -/
def spec_l20Key.f (k : Nat) (s0_0 : List Int) (s0_1 : Int) (a1 : Int) : Option (Int × Int) := (spec_l20Rd_odd.f k s0_0 s0_1 a1).bind fun bt282 => (if bt282.1 = true then ((some (([(-1), 100, 9223372036854775807] : List Int) : List Int)).bind fun y284 => ((spec_l20Rd_pick.f k s0_0 bt282.2 3).bind fun bt287 => (if 0 ≤ bt287.1 then (if bt287.1 < (y284.length : Int) then (some (rd y284 bt287.1, bt287.2)) else (none)) else (none)))) else ((spec_l20Rd_pick.f k s0_0 bt282.2 10).bind fun bt290 => ((spec_l20Rd_pick.f k s0_0 bt290.2 10).bind fun bt292 => ((spec_l20Rd_pick.f k s0_0 bt292.2 100).bind fun bt294 => ((some (([bt290.1, bt292.1, bt294.1, 99] : List Int) : List Int)).bind fun y296 => ((spec_l20Rd_pick.f k s0_0 bt294.2 4).bind fun bt299 => (if 0 ≤ bt299.1 then (if bt299.1 < (y296.length : Int) then (some (rd y296 bt299.1, bt299.2)) else (none)) else (none))))))))
theorem spec_l20Key.mono : ∀ a0 a1 a2 k, LeO (spec_l20Key.f k a0 a1 a2) (spec_l20Key.f (k + 1) a0 a1 a2) := by
  intro a0 a1 a2 k
  unfold spec_l20Key.f
  repeat' first
      | (with_reducible exact spec_l20Rd_odd.mono _ _ _ _)
      | (with_reducible exact spec_l20Rd_pick.mono _ _ _ _)
      | (with_reducible exact LeO.refl _)
      | (with_reducible exact LeO.none _)
      | (with_reducible refine LeO.ite ?_ ?_)
      | (with_reducible refine LeO.bind ?_ (fun _ => ?_))
      | exact spec_l20Rd_odd.mono _ _ _ _
      | exact spec_l20Rd_pick.mono _ _ _ _
      | exact LeO.none _
      | refine LeO.ite ?_ ?_
      | refine LeO.bind ?_ (fun _ => ?_)
set_option maxHeartbeats 8000000 in
set_option maxRecDepth 100000 in
theorem spec_l20Key.calls (k : Nat) (g : Nat) (s0_0 : List Int) (s0_1 : Int) (a1 : Int) (r1 : Int) (r2 : Int) (w0 w : World) (hI : IsS77 w0 w g s0_0 s0_1) (hB : Below w0.heap.size w0 w) (h : spec_l20Key.f k s0_0 s0_1 a1 = some (r1, r2)) :
    Calls Try.prog 50 #[.pointer (some ⟨g, 0, none⟩), .int .i64 a1] w fun e w' => e = .returned (.int .i64 r1) ∧ IsS77 w0 w' g s0_0 r2 ∧ Below w0.heap.size w0 w' ∧ KeepBut w w' g none := by
  have HI0 := aS_ hI
  have HGS := aS_ (IsS77.lt hI)
  have HK := aS_ (KeepBut.refl w g none)
  have HL := aS_ hB.size
  clear hI
  have HW0 := aS_ hB.size
  have HB := aS_ hB
  clear hB
  have H : ((spec_l20Rd_odd.f k s0_0 s0_1 a1).bind fun bt282 => (if bt282.1 = true then ((some (([(-1), 100, 9223372036854775807] : List Int) : List Int)).bind fun y284 => ((spec_l20Rd_pick.f k s0_0 bt282.2 3).bind fun bt287 => (if 0 ≤ bt287.1 then (if bt287.1 < (y284.length : Int) then (some (rd y284 bt287.1, bt287.2)) else (none)) else (none)))) else ((spec_l20Rd_pick.f k s0_0 bt282.2 10).bind fun bt290 => ((spec_l20Rd_pick.f k s0_0 bt290.2 10).bind fun bt292 => ((spec_l20Rd_pick.f k s0_0 bt292.2 100).bind fun bt294 => ((some (([bt290.1, bt292.1, bt294.1, 99] : List Int) : List Int)).bind fun y296 => ((spec_l20Rd_pick.f k s0_0 bt294.2 4).bind fun bt299 => (if 0 ≤ bt299.1 then (if bt299.1 < (y296.length : Int) then (some (rd y296 bt299.1, bt299.2)) else (none)) else (none))))))))) = some (r1, r2) := h
  clear h
  replace H := Option.bind_eq_some_iff.mp H
  obtain ⟨⟨t282, t283⟩, A30, H⟩ := H
  replace H : (if t282 = true then ((some (([(-1), 100, 9223372036854775807] : List Int) : List Int)).bind fun y284 => ((spec_l20Rd_pick.f k s0_0 t283 3).bind fun bt287 => (if 0 ≤ bt287.1 then (if bt287.1 < (y284.length : Int) then (some (rd y284 bt287.1, bt287.2)) else (none)) else (none)))) else ((spec_l20Rd_pick.f k s0_0 t283 10).bind fun bt290 => ((spec_l20Rd_pick.f k s0_0 bt290.2 10).bind fun bt292 => ((spec_l20Rd_pick.f k s0_0 bt292.2 100).bind fun bt294 => ((some (([bt290.1, bt292.1, bt294.1, 99] : List Int) : List Int)).bind fun y296 => ((spec_l20Rd_pick.f k s0_0 bt294.2 4).bind fun bt299 => (if 0 ≤ bt299.1 then (if bt299.1 < (y296.length : Int) then (some (rd y296 bt299.1, bt299.2)) else (none)) else (none)))))))) = some (r1, r2) := H
  have A3 := aS_ A30
  clear A30
  by_cases c4 : t282 = true
  · subst c4
    have H1 : ((some (([(-1), 100, 9223372036854775807] : List Int) : List Int)).bind fun y284 => ((spec_l20Rd_pick.f k s0_0 t283 3).bind fun bt287 => (if 0 ≤ bt287.1 then (if bt287.1 < (y284.length : Int) then (some (rd y284 bt287.1, bt287.2)) else (none)) else (none)))) = some (r1, r2) := by rw [if_pos rfl] at H; exact H
    clear H
    have H := H1
    clear H1
    obtain ⟨y284, hy284⟩ : ∃ y_ : List Int, y_ = (([(-1), 100, 9223372036854775807] : List Int)) := ⟨_, rfl⟩
    replace H : ((spec_l20Rd_pick.f k s0_0 t283 3).bind fun bt287 => (if 0 ≤ bt287.1 then (if bt287.1 < (y284.length : Int) then (some (rd y284 bt287.1, bt287.2)) else (none)) else (none))) = some (r1, r2) := by first | (rw [hy284]; with_reducible exact H) | (have H2_ := (Option.bind_some _ _).symm.trans H; rw [hy284]; with_reducible exact H2_) | (have H2_ := (Option.bind_some _ _).symm.trans H; with_reducible exact H2_) | with_reducible exact H | (rw [hy284]; exact H) | exact H
    have Ny284 := aS_ hy284
    clear hy284
    replace H := Option.bind_eq_some_iff.mp H
    obtain ⟨⟨t287, t288⟩, A50, H⟩ := H
    replace H : (if 0 ≤ t287 then (if t287 < (y284.length : Int) then (some (rd y284 t287, t288)) else (none)) else (none)) = some (r1, r2) := H
    have A5 := aS_ A50
    clear A50
    by_cases c6 : 0 ≤ t287
    · rw [if_pos c6] at H
      have c6b0 : decide (0 ≤ t287) = true := decide_eq_true c6
      clear c6
      by_cases c7 : t287 < (y284.length : Int)
      · rw [if_pos c7] at H
        have c7b0 : decide (t287 < (y284.length : Int)) = true := decide_eq_true c7
        clear c7
        simp only [Option.some.injEq, Prod.mk.injEq] at H
        obtain ⟨rfl, rfl⟩ := H
        go_enter Try.func50, Try.ntmps50
        go_wp2_with (first | ((with_reducible refine gate_callee (f := 63) rfl ?_); refine goesL_ (some 7) rfl rfl Try.func63 (by kernel_rfl) rfl #[.pointer (some ⟨g, 0, none⟩), .int .i64 a1] rfl (by (try simp only [List.map_toArray, List.map_cons, List.map_nil]); first | done | rfl | (simp only [List.length_drop, List.length_take]; rfl)) ?_; (with_reducible refine (spec_l20Rd_odd.calls k g s0_0 s0_1 a1 true t283 w0 _ ?side1 ?side2 A3.out).mono ?_); (case side1 => repeat (first | (with_reducible first | exact HI0.out | apply IsS77.alloc | apply IsS77.drewN | apply IsS77.drew | apply IsS77.set_1) | exact HI0.out)); (case side2 => repeat (first | (with_reducible first | exact HB.out | apply bA_ | apply bN_ | apply bD_ | refine below_set ?_ (IsS77.ge HI0.out)) | exact HB.out)); rintro e w8 ⟨rfl, hi, hb, hk⟩; refine ⟨_, rfl, ?_⟩; have n0_ := aS_ (KeepBut.trans (by repeat (first | (with_reducible first | exact HK.out | apply KeepBut.set_ | apply keep_drewN | apply keep_drew | apply keep_alloc) | exact HK.out)) hk (.inl rfl)); have n1_ := aS_ (hb); have n2_ := aS_ (hi); clear HK; clear HB; clear HI0; have HK := n0_; have HB := n1_; have HI0 := n2_; clear n0_ n1_ n2_; (try clear hb); (try clear hb2); (try clear hk); (try clear hi)) | ((with_reducible refine gate_dst (N := 8) rfl ?_); refine Kd.R_lit (Kd.int .i64) _ 3 ?hg (N := 8) ?hd (xs := ([(-1), 100, 9223372036854775807] : List Int)) (inner := [.int .i64 (-1), .int .i64 100, .int .i64 9223372036854775807]) (ok := fun _ => True) (okp := fun _ => True) ?hr ?hp (fun _ hk => hk) trivial (Below.refl _ _) (Nat.le_refl _) (by simp) ?_; (case hd => rfl); (case hg => rfl); (case hr => first | (go_simp; done) | (go_simp; rfl)); (case hp => exact (Reps.one (show Kd.M (Kd.int .i64) _ _ _ (-1) [.int .i64 (-1)] from rfl) (Reps.one (show Kd.M (Kd.int .i64) _ _ _ 100 [.int .i64 100] from rfl) (Reps.one (show Kd.M (Kd.int .i64) _ _ _ 9223372036854775807 [.int .i64 9223372036854775807] from rfl) (Reps.none _ _))))); intro v285 w9 ho10 hb hg_ hnew_; clear hg_ hnew_; (first | rw [← Ny284.out] at ho10 | (simp only [Int.reduceToNat] at ho10; rw [← Ny284.out] at ho10)); have n0_ := aS_ (Kd.R_lower ho10 (keep_size (w := w) (g := g) (row := none) (by repeat (first | (with_reducible first | exact HK.out | apply KeepBut.set_ | apply keep_drewN | apply keep_drew | apply keep_alloc) | exact HK.out)))); have n1_ := aS_ (IsS77.below (by repeat (first | (with_reducible first | exact HI0.out | apply IsS77.alloc | apply IsS77.drewN | apply IsS77.drew | apply IsS77.set_1) | exact HI0.out)) hb); have n2_ := aS_ (KeepBut.trans (by repeat (first | (with_reducible first | exact HK.out | apply KeepBut.set_ | apply keep_drewN | apply keep_drew | apply keep_alloc) | exact HK.out)) (KeepBut.of_below hb g none) (.inl rfl)); have n3_ := aS_ (below_step (by repeat (first | (with_reducible first | exact HB.out | apply bA_ | apply bN_ | apply bD_ | refine below_set ?_ (IsS77.ge HI0.out)) | exact HB.out)) hb); clear HI0; clear HK; clear HB; have HO286 := n0_; have HI0 := n1_; have HK := n2_; have HB := n3_; clear n0_ n1_ n2_ n3_; clear hb ho10) | ((with_reducible refine gate_callee (f := 57) rfl ?_); refine goesL_ (some 10) rfl rfl Try.func57 (by kernel_rfl) rfl #[.pointer (some ⟨g, 0, none⟩), .int .i64 3] rfl (by (try simp only [List.map_toArray, List.map_cons, List.map_nil]); first | done | rfl | (simp only [List.length_drop, List.length_take]; rfl)) ?_; (with_reducible refine (spec_l20Rd_pick.calls k g s0_0 t283 3 t287 t288 w0 _ ?side1 ?side2 A5.out).mono ?_); (case side1 => repeat (first | (with_reducible first | exact HI0.out | apply IsS77.alloc | apply IsS77.drewN | apply IsS77.drew | apply IsS77.set_1) | exact HI0.out)); (case side2 => repeat (first | (with_reducible first | exact HB.out | apply bA_ | apply bN_ | apply bD_ | refine below_set ?_ (IsS77.ge HI0.out)) | exact HB.out)); rintro e w11 ⟨rfl, hi, hb, hk⟩; refine ⟨_, rfl, ?_⟩; have n0_ := aS_ (Kd.R_mono (Kd.R_keep (IsS77.apart (show IsS77 w0 _ g s0_0 t283 from by repeat (first | (with_reducible first | exact HI0.out | apply IsS77.alloc | apply IsS77.drewN | apply IsS77.drew | apply IsS77.set_1) | exact HI0.out)) (by (with_reducible repeat (first | apply Kd.R_alloc | apply Kd.R_drewN | apply Kd.R_drew)); exact HO286.out) (by decide)) hk (fun _ h => h.2)) (fun _ h => h.1)); have n1_ := aS_ (KeepBut.trans (by repeat (first | (with_reducible first | exact HK.out | apply KeepBut.set_ | apply keep_drewN | apply keep_drew | apply keep_alloc) | exact HK.out)) hk (.inl rfl)); have n2_ := aS_ (hb); have n3_ := aS_ (hi); clear HO286; clear HK; clear HB; clear HI0; have HO286 := n0_; have HK := n1_; have HB := n2_; have HI0 := n3_; clear n0_ n1_ n2_ n3_; (try clear hb); (try clear hb2); (try clear hk); (try clear hi); obtain ⟨Ao12, co12, eo12⟩ := Kd.R_slice HO286.out; subst eo12; have p289 : 0 ≤ (t287 : Int) := of_decide_eq_true (by first | (with_reducible assumption) | assumption); have q289 : t287 < (y284.length : Int) := of_decide_eq_true (by first | (with_reducible assumption) | assumption); obtain ⟨ad289, e289, hx289_0⟩ := Kd.at_int (Kd.R_reads' HO286.out).2.2 t287 p289 q289; cases e289; replace p289 := eq_true p289; replace q289 := eq_true q289))
        go_ret
        exact ⟨by first | rfl | (simp [errW_none, errW_some] <;> rfl) | (simp [*, errW_none, errW_some] <;> rfl), by repeat (first | (with_reducible first | exact HI0.out | apply IsS77.alloc | apply IsS77.drewN | apply IsS77.drew | apply IsS77.set_1) | exact HI0.out), by repeat (first | (with_reducible first | exact HB.out | apply bA_ | apply bN_ | apply bD_ | refine below_set ?_ (IsS77.ge HI0.out)) | exact HB.out), by repeat (first | (with_reducible first | exact HK.out | apply KeepBut.set_ | apply keep_drewN | apply keep_drew | apply keep_alloc) | exact HK.out)⟩
      · rw [if_neg c7] at H
        exact absurd H (by simp)
    · rw [if_neg c6] at H
      exact absurd H (by simp)
  · replace c4 := Bool.eq_false_iff.mpr c4
    subst c4
    have H1 : ((spec_l20Rd_pick.f k s0_0 t283 10).bind fun bt290 => ((spec_l20Rd_pick.f k s0_0 bt290.2 10).bind fun bt292 => ((spec_l20Rd_pick.f k s0_0 bt292.2 100).bind fun bt294 => ((some (([bt290.1, bt292.1, bt294.1, 99] : List Int) : List Int)).bind fun y296 => ((spec_l20Rd_pick.f k s0_0 bt294.2 4).bind fun bt299 => (if 0 ≤ bt299.1 then (if bt299.1 < (y296.length : Int) then (some (rd y296 bt299.1, bt299.2)) else (none)) else (none))))))) = some (r1, r2) := by rw [if_neg (show ¬ (false = true) by decide)] at H; exact H
    clear H
    have H := H1
    clear H1
    replace H := Option.bind_eq_some_iff.mp H
    obtain ⟨⟨t290, t291⟩, A130, H⟩ := H
    replace H : ((spec_l20Rd_pick.f k s0_0 t291 10).bind fun bt292 => ((spec_l20Rd_pick.f k s0_0 bt292.2 100).bind fun bt294 => ((some (([t290, bt292.1, bt294.1, 99] : List Int) : List Int)).bind fun y296 => ((spec_l20Rd_pick.f k s0_0 bt294.2 4).bind fun bt299 => (if 0 ≤ bt299.1 then (if bt299.1 < (y296.length : Int) then (some (rd y296 bt299.1, bt299.2)) else (none)) else (none)))))) = some (r1, r2) := H
    have A13 := aS_ A130
    clear A130
    replace H := Option.bind_eq_some_iff.mp H
    obtain ⟨⟨t292, t293⟩, A140, H⟩ := H
    replace H : ((spec_l20Rd_pick.f k s0_0 t293 100).bind fun bt294 => ((some (([t290, t292, bt294.1, 99] : List Int) : List Int)).bind fun y296 => ((spec_l20Rd_pick.f k s0_0 bt294.2 4).bind fun bt299 => (if 0 ≤ bt299.1 then (if bt299.1 < (y296.length : Int) then (some (rd y296 bt299.1, bt299.2)) else (none)) else (none))))) = some (r1, r2) := H
    have A14 := aS_ A140
    clear A140
    replace H := Option.bind_eq_some_iff.mp H
    obtain ⟨⟨t294, t295⟩, A150, H⟩ := H
    replace H : ((some (([t290, t292, t294, 99] : List Int) : List Int)).bind fun y296 => ((spec_l20Rd_pick.f k s0_0 t295 4).bind fun bt299 => (if 0 ≤ bt299.1 then (if bt299.1 < (y296.length : Int) then (some (rd y296 bt299.1, bt299.2)) else (none)) else (none)))) = some (r1, r2) := H
    have A15 := aS_ A150
    clear A150
    obtain ⟨y296, hy296⟩ : ∃ y_ : List Int, y_ = (([t290, t292, t294, 99] : List Int)) := ⟨_, rfl⟩
    replace H : ((spec_l20Rd_pick.f k s0_0 t295 4).bind fun bt299 => (if 0 ≤ bt299.1 then (if bt299.1 < (y296.length : Int) then (some (rd y296 bt299.1, bt299.2)) else (none)) else (none))) = some (r1, r2) := by first | (rw [hy296]; with_reducible exact H) | (have H2_ := (Option.bind_some _ _).symm.trans H; rw [hy296]; with_reducible exact H2_) | (have H2_ := (Option.bind_some _ _).symm.trans H; with_reducible exact H2_) | with_reducible exact H | (rw [hy296]; exact H) | exact H
    have Ny296 := aS_ hy296
    clear hy296
    replace H := Option.bind_eq_some_iff.mp H
    obtain ⟨⟨t299, t300⟩, A160, H⟩ := H
    replace H : (if 0 ≤ t299 then (if t299 < (y296.length : Int) then (some (rd y296 t299, t300)) else (none)) else (none)) = some (r1, r2) := H
    have A16 := aS_ A160
    clear A160
    by_cases c17 : 0 ≤ t299
    · rw [if_pos c17] at H
      have c17b0 : decide (0 ≤ t299) = true := decide_eq_true c17
      clear c17
      by_cases c18 : t299 < (y296.length : Int)
      · rw [if_pos c18] at H
        have c18b0 : decide (t299 < (y296.length : Int)) = true := decide_eq_true c18
        clear c18
        simp only [Option.some.injEq, Prod.mk.injEq] at H
        obtain ⟨rfl, rfl⟩ := H
        go_enter Try.func50, Try.ntmps50
        go_wp2_with (first | ((with_reducible refine gate_callee (f := 63) rfl ?_); refine goesL_ (some 7) rfl rfl Try.func63 (by kernel_rfl) rfl #[.pointer (some ⟨g, 0, none⟩), .int .i64 a1] rfl (by (try simp only [List.map_toArray, List.map_cons, List.map_nil]); first | done | rfl | (simp only [List.length_drop, List.length_take]; rfl)) ?_; (with_reducible refine (spec_l20Rd_odd.calls k g s0_0 s0_1 a1 false t283 w0 _ ?side1 ?side2 A3.out).mono ?_); (case side1 => repeat (first | (with_reducible first | exact HI0.out | apply IsS77.alloc | apply IsS77.drewN | apply IsS77.drew | apply IsS77.set_1) | exact HI0.out)); (case side2 => repeat (first | (with_reducible first | exact HB.out | apply bA_ | apply bN_ | apply bD_ | refine below_set ?_ (IsS77.ge HI0.out)) | exact HB.out)); rintro e w19 ⟨rfl, hi, hb, hk⟩; refine ⟨_, rfl, ?_⟩; have n0_ := aS_ (KeepBut.trans (by repeat (first | (with_reducible first | exact HK.out | apply KeepBut.set_ | apply keep_drewN | apply keep_drew | apply keep_alloc) | exact HK.out)) hk (.inl rfl)); have n1_ := aS_ (hb); have n2_ := aS_ (hi); clear HK; clear HB; clear HI0; have HK := n0_; have HB := n1_; have HI0 := n2_; clear n0_ n1_ n2_; (try clear hb); (try clear hb2); (try clear hk); (try clear hi)) | ((with_reducible refine gate_callee (f := 57) rfl ?_); refine goesL_ (some 14) rfl rfl Try.func57 (by kernel_rfl) rfl #[.pointer (some ⟨g, 0, none⟩), .int .i64 10] rfl (by (try simp only [List.map_toArray, List.map_cons, List.map_nil]); first | done | rfl | (simp only [List.length_drop, List.length_take]; rfl)) ?_; (with_reducible refine (spec_l20Rd_pick.calls k g s0_0 t283 10 t290 t291 w0 _ ?side1 ?side2 A13.out).mono ?_); (case side1 => repeat (first | (with_reducible first | exact HI0.out | apply IsS77.alloc | apply IsS77.drewN | apply IsS77.drew | apply IsS77.set_1) | exact HI0.out)); (case side2 => repeat (first | (with_reducible first | exact HB.out | apply bA_ | apply bN_ | apply bD_ | refine below_set ?_ (IsS77.ge HI0.out)) | exact HB.out)); rintro e w20 ⟨rfl, hi, hb, hk⟩; refine ⟨_, rfl, ?_⟩; have n0_ := aS_ (KeepBut.trans (by repeat (first | (with_reducible first | exact HK.out | apply KeepBut.set_ | apply keep_drewN | apply keep_drew | apply keep_alloc) | exact HK.out)) hk (.inl rfl)); have n1_ := aS_ (hb); have n2_ := aS_ (hi); clear HK; clear HB; clear HI0; have HK := n0_; have HB := n1_; have HI0 := n2_; clear n0_ n1_ n2_; (try clear hb); (try clear hb2); (try clear hk); (try clear hi)) | ((with_reducible refine gate_callee (f := 57) rfl ?_); refine goesL_ (some 16) rfl rfl Try.func57 (by kernel_rfl) rfl #[.pointer (some ⟨g, 0, none⟩), .int .i64 10] rfl (by (try simp only [List.map_toArray, List.map_cons, List.map_nil]); first | done | rfl | (simp only [List.length_drop, List.length_take]; rfl)) ?_; (with_reducible refine (spec_l20Rd_pick.calls k g s0_0 t291 10 t292 t293 w0 _ ?side1 ?side2 A14.out).mono ?_); (case side1 => repeat (first | (with_reducible first | exact HI0.out | apply IsS77.alloc | apply IsS77.drewN | apply IsS77.drew | apply IsS77.set_1) | exact HI0.out)); (case side2 => repeat (first | (with_reducible first | exact HB.out | apply bA_ | apply bN_ | apply bD_ | refine below_set ?_ (IsS77.ge HI0.out)) | exact HB.out)); rintro e w21 ⟨rfl, hi, hb, hk⟩; refine ⟨_, rfl, ?_⟩; have n0_ := aS_ (KeepBut.trans (by repeat (first | (with_reducible first | exact HK.out | apply KeepBut.set_ | apply keep_drewN | apply keep_drew | apply keep_alloc) | exact HK.out)) hk (.inl rfl)); have n1_ := aS_ (hb); have n2_ := aS_ (hi); clear HK; clear HB; clear HI0; have HK := n0_; have HB := n1_; have HI0 := n2_; clear n0_ n1_ n2_; (try clear hb); (try clear hb2); (try clear hk); (try clear hi)) | ((with_reducible refine gate_callee (f := 57) rfl ?_); refine goesL_ (some 18) rfl rfl Try.func57 (by kernel_rfl) rfl #[.pointer (some ⟨g, 0, none⟩), .int .i64 100] rfl (by (try simp only [List.map_toArray, List.map_cons, List.map_nil]); first | done | rfl | (simp only [List.length_drop, List.length_take]; rfl)) ?_; (with_reducible refine (spec_l20Rd_pick.calls k g s0_0 t293 100 t294 t295 w0 _ ?side1 ?side2 A15.out).mono ?_); (case side1 => repeat (first | (with_reducible first | exact HI0.out | apply IsS77.alloc | apply IsS77.drewN | apply IsS77.drew | apply IsS77.set_1) | exact HI0.out)); (case side2 => repeat (first | (with_reducible first | exact HB.out | apply bA_ | apply bN_ | apply bD_ | refine below_set ?_ (IsS77.ge HI0.out)) | exact HB.out)); rintro e w22 ⟨rfl, hi, hb, hk⟩; refine ⟨_, rfl, ?_⟩; have n0_ := aS_ (KeepBut.trans (by repeat (first | (with_reducible first | exact HK.out | apply KeepBut.set_ | apply keep_drewN | apply keep_drew | apply keep_alloc) | exact HK.out)) hk (.inl rfl)); have n1_ := aS_ (hb); have n2_ := aS_ (hi); clear HK; clear HB; clear HI0; have HK := n0_; have HB := n1_; have HI0 := n2_; clear n0_ n1_ n2_; (try clear hb); (try clear hb2); (try clear hk); (try clear hi)) | ((with_reducible refine gate_dst (N := 19) rfl ?_); refine Kd.R_lit (Kd.int .i64) _ 3 ?hg (N := 19) ?hd (xs := ([t290, t292, t294, 99] : List Int)) (inner := [.int .i64 t290, .int .i64 t292, .int .i64 t294, .int .i64 99]) (ok := fun _ => True) (okp := fun _ => True) ?hr ?hp (fun _ hk => hk) trivial (Below.refl _ _) (Nat.le_refl _) (by simp) ?_; (case hd => rfl); (case hg => rfl); (case hr => first | (go_simp; done) | (go_simp; rfl)); (case hp => exact (Reps.one (show Kd.M (Kd.int .i64) _ _ _ t290 [.int .i64 t290] from rfl) (Reps.one (show Kd.M (Kd.int .i64) _ _ _ t292 [.int .i64 t292] from rfl) (Reps.one (show Kd.M (Kd.int .i64) _ _ _ t294 [.int .i64 t294] from rfl) (Reps.one (show Kd.M (Kd.int .i64) _ _ _ 99 [.int .i64 99] from rfl) (Reps.none _ _)))))); intro v297 w23 ho24 hb hg_ hnew_; clear hg_ hnew_; (first | rw [← Ny296.out] at ho24 | (simp only [Int.reduceToNat] at ho24; rw [← Ny296.out] at ho24)); have n0_ := aS_ (Kd.R_lower ho24 (keep_size (w := w) (g := g) (row := none) (by repeat (first | (with_reducible first | exact HK.out | apply KeepBut.set_ | apply keep_drewN | apply keep_drew | apply keep_alloc) | exact HK.out)))); have n1_ := aS_ (IsS77.below (by repeat (first | (with_reducible first | exact HI0.out | apply IsS77.alloc | apply IsS77.drewN | apply IsS77.drew | apply IsS77.set_1) | exact HI0.out)) hb); have n2_ := aS_ (KeepBut.trans (by repeat (first | (with_reducible first | exact HK.out | apply KeepBut.set_ | apply keep_drewN | apply keep_drew | apply keep_alloc) | exact HK.out)) (KeepBut.of_below hb g none) (.inl rfl)); have n3_ := aS_ (below_step (by repeat (first | (with_reducible first | exact HB.out | apply bA_ | apply bN_ | apply bD_ | refine below_set ?_ (IsS77.ge HI0.out)) | exact HB.out)) hb); clear HI0; clear HK; clear HB; have HO298 := n0_; have HI0 := n1_; have HK := n2_; have HB := n3_; clear n0_ n1_ n2_ n3_; clear hb ho24) | ((with_reducible refine gate_callee (f := 57) rfl ?_); refine goesL_ (some 21) rfl rfl Try.func57 (by kernel_rfl) rfl #[.pointer (some ⟨g, 0, none⟩), .int .i64 4] rfl (by (try simp only [List.map_toArray, List.map_cons, List.map_nil]); first | done | rfl | (simp only [List.length_drop, List.length_take]; rfl)) ?_; (with_reducible refine (spec_l20Rd_pick.calls k g s0_0 t295 4 t299 t300 w0 _ ?side1 ?side2 A16.out).mono ?_); (case side1 => repeat (first | (with_reducible first | exact HI0.out | apply IsS77.alloc | apply IsS77.drewN | apply IsS77.drew | apply IsS77.set_1) | exact HI0.out)); (case side2 => repeat (first | (with_reducible first | exact HB.out | apply bA_ | apply bN_ | apply bD_ | refine below_set ?_ (IsS77.ge HI0.out)) | exact HB.out)); rintro e w25 ⟨rfl, hi, hb, hk⟩; refine ⟨_, rfl, ?_⟩; have n0_ := aS_ (Kd.R_mono (Kd.R_keep (IsS77.apart (show IsS77 w0 _ g s0_0 t295 from by repeat (first | (with_reducible first | exact HI0.out | apply IsS77.alloc | apply IsS77.drewN | apply IsS77.drew | apply IsS77.set_1) | exact HI0.out)) (by (with_reducible repeat (first | apply Kd.R_alloc | apply Kd.R_drewN | apply Kd.R_drew)); exact HO298.out) (by decide)) hk (fun _ h => h.2)) (fun _ h => h.1)); have n1_ := aS_ (KeepBut.trans (by repeat (first | (with_reducible first | exact HK.out | apply KeepBut.set_ | apply keep_drewN | apply keep_drew | apply keep_alloc) | exact HK.out)) hk (.inl rfl)); have n2_ := aS_ (hb); have n3_ := aS_ (hi); clear HO298; clear HK; clear HB; clear HI0; have HO298 := n0_; have HK := n1_; have HB := n2_; have HI0 := n3_; clear n0_ n1_ n2_ n3_; (try clear hb); (try clear hb2); (try clear hk); (try clear hi); obtain ⟨Ao26, co26, eo26⟩ := Kd.R_slice HO298.out; subst eo26; have p301 : 0 ≤ (t299 : Int) := of_decide_eq_true (by first | (with_reducible assumption) | assumption); have q301 : t299 < (y296.length : Int) := of_decide_eq_true (by first | (with_reducible assumption) | assumption); obtain ⟨ad301, e301, hx301_0⟩ := Kd.at_int (Kd.R_reads' HO298.out).2.2 t299 p301 q301; cases e301; replace p301 := eq_true p301; replace q301 := eq_true q301))
        go_ret
        exact ⟨by first | rfl | (simp [errW_none, errW_some] <;> rfl) | (simp [*, errW_none, errW_some] <;> rfl), by repeat (first | (with_reducible first | exact HI0.out | apply IsS77.alloc | apply IsS77.drewN | apply IsS77.drew | apply IsS77.set_1) | exact HI0.out), by repeat (first | (with_reducible first | exact HB.out | apply bA_ | apply bN_ | apply bD_ | refine below_set ?_ (IsS77.ge HI0.out)) | exact HB.out), by repeat (first | (with_reducible first | exact HK.out | apply KeepBut.set_ | apply keep_drewN | apply keep_drew | apply keep_alloc) | exact HK.out)⟩
      · rw [if_neg c18] at H
        exact absurd H (by simp)
    · rw [if_neg c17] at H
      exact absurd H (by simp)

/-! ### spec_DrawMapPut: function 35 -/
def spec_DrawMapPut.f (k : Nat) (l0 : List Int) : Option ((List (S39)) × Int × Int) := (spec_l20Open.f l0).bind fun bt303 => ((spec_l20Map.f k bt303.1 bt303.2 9).bind fun bt306 => ((spec_l20Key.f k bt303.1 bt306.2 9).bind fun bt310 => ((spec_l20Rd_pick.f k bt303.1 bt310.2 10).bind fun bt312 => ((some (([bt312.1, 999, 1000, (-1), 5] : List Int) : List Int)).bind fun y314 => ((spec_l20Rd_pick.f k bt303.1 bt312.2 5).bind fun bt317 => (if 0 ≤ bt317.1 then (if bt317.1 < (y314.length : Int) then (some (bt306.1, bt310.1, rd y314 bt317.1)) else (none)) else (none)))))))
theorem spec_DrawMapPut.mono : ∀ a0 k, LeO (spec_DrawMapPut.f k a0) (spec_DrawMapPut.f (k + 1) a0) := by
  intro a0 k
  unfold spec_DrawMapPut.f
  repeat' first
      | (with_reducible exact spec_l20Key.mono _ _ _ _)
      | (with_reducible exact spec_l20Map.mono _ _ _ _)
      | (with_reducible exact spec_l20Rd_pick.mono _ _ _ _)
      | (with_reducible exact LeO.refl _)
      | (with_reducible exact LeO.none _)
      | (with_reducible refine LeO.ite ?_ ?_)
      | (with_reducible refine LeO.bind ?_ (fun _ => ?_))
      | exact spec_l20Key.mono _ _ _ _
      | exact spec_l20Map.mono _ _ _ _
      | exact spec_l20Rd_pick.mono _ _ _ _
      | exact LeO.none _
      | refine LeO.ite ?_ ?_
      | refine LeO.bind ?_ (fun _ => ?_)
def spec_DrawMapPut.T2 : Bool × List (List Nat × List Nat) := (true, [([], []), ([0], [0]), ([], []), ([2, 1], [2]), ([], []), ([4, 3], [4]), ([5], [5]), ([], []), ([7, 5], [7]), ([6, 8], [6, 8]), ([9], [9]), ([1, 8, 0, 1], [1]), ([3, 11, 0, 1, 2, 3, 11], [3]), ([10, 12, 0, 1, 2, 3, 4, 5, 6, 7, 8, 9, 10, 11, 12], [10])])
def spec_DrawMapPut.B2 : List Nat := [0, 1, 0, 7, 0, 31, 63, 0, 191, 511, 1023, 447, 2495, 8191]
theorem spec_DrawMapPut.tab2 : rtab .any (opsOf Try.f35 2) = spec_DrawMapPut.T2 := by kernel_rfl
theorem spec_DrawMapPut.bits2 : waitsOk spec_DrawMapPut.T2.2 spec_DrawMapPut.B2 = true := by kernel_rfl
set_option maxHeartbeats 8000000 in
set_option maxRecDepth 100000 in
theorem spec_DrawMapPut.calls (k : Nat) (A0 : Option Addr) (c0 : Nat) (l0 : List Int) (r1 : List (S39)) (r2 : Int) (r3 : Int) (w : World) (hr0 : Kd.C (Kd.int .u8) w A0 l0.length l0) (hc0 : l0.length ≤ c0) (h : spec_DrawMapPut.f k l0 = some (r1, r2, r3)) :
    Calls Try.prog 35 #[.slice A0 l0.length c0] w fun e w' => ∃ v0_ : Value, e = .returned (.tuple #[.agg #[v0_], .int .i64 r2, .int .i64 r3]) ∧ Kd.R k39 39 w' w.heap.size (fun _ => True) v0_ r1 ∧ Below w.heap.size w w' := by
  have hu25 := Try.underlying25
  have HR0 := aS_ hr0
  have HC0 := aS_ hc0
  clear hr0 hc0
  have HB := aS_ (Below.refl w.heap.size w)
  have H : ((spec_l20Open.f l0).bind fun bt303 => ((spec_l20Map.f k bt303.1 bt303.2 9).bind fun bt306 => ((spec_l20Key.f k bt303.1 bt306.2 9).bind fun bt310 => ((spec_l20Rd_pick.f k bt303.1 bt310.2 10).bind fun bt312 => ((some (([bt312.1, 999, 1000, (-1), 5] : List Int) : List Int)).bind fun y314 => ((spec_l20Rd_pick.f k bt303.1 bt312.2 5).bind fun bt317 => (if 0 ≤ bt317.1 then (if bt317.1 < (y314.length : Int) then (some (bt306.1, bt310.1, rd y314 bt317.1)) else (none)) else (none)))))))) = some (r1, r2, r3) := h
  clear h
  replace H := Option.bind_eq_some_iff.mp H
  obtain ⟨⟨t303, t304⟩, A20, H⟩ := H
  replace H : ((spec_l20Map.f k t303 t304 9).bind fun bt306 => ((spec_l20Key.f k t303 bt306.2 9).bind fun bt310 => ((spec_l20Rd_pick.f k t303 bt310.2 10).bind fun bt312 => ((some (([bt312.1, 999, 1000, (-1), 5] : List Int) : List Int)).bind fun y314 => ((spec_l20Rd_pick.f k t303 bt312.2 5).bind fun bt317 => (if 0 ≤ bt317.1 then (if bt317.1 < (y314.length : Int) then (some (bt306.1, bt310.1, rd y314 bt317.1)) else (none)) else (none))))))) = some (r1, r2, r3) := H
  have A2 := aS_ A20
  clear A20
  replace H := Option.bind_eq_some_iff.mp H
  obtain ⟨⟨t306, t309⟩, A30, H⟩ := H
  replace H : ((spec_l20Key.f k t303 t309 9).bind fun bt310 => ((spec_l20Rd_pick.f k t303 bt310.2 10).bind fun bt312 => ((some (([bt312.1, 999, 1000, (-1), 5] : List Int) : List Int)).bind fun y314 => ((spec_l20Rd_pick.f k t303 bt312.2 5).bind fun bt317 => (if 0 ≤ bt317.1 then (if bt317.1 < (y314.length : Int) then (some (t306, bt310.1, rd y314 bt317.1)) else (none)) else (none)))))) = some (r1, r2, r3) := H
  have A3 := aS_ A30
  clear A30
  replace H := Option.bind_eq_some_iff.mp H
  obtain ⟨⟨t310, t311⟩, A40, H⟩ := H
  replace H : ((spec_l20Rd_pick.f k t303 t311 10).bind fun bt312 => ((some (([bt312.1, 999, 1000, (-1), 5] : List Int) : List Int)).bind fun y314 => ((spec_l20Rd_pick.f k t303 bt312.2 5).bind fun bt317 => (if 0 ≤ bt317.1 then (if bt317.1 < (y314.length : Int) then (some (t306, t310, rd y314 bt317.1)) else (none)) else (none))))) = some (r1, r2, r3) := H
  have A4 := aS_ A40
  clear A40
  replace H := Option.bind_eq_some_iff.mp H
  obtain ⟨⟨t312, t313⟩, A50, H⟩ := H
  replace H : ((some (([t312, 999, 1000, (-1), 5] : List Int) : List Int)).bind fun y314 => ((spec_l20Rd_pick.f k t303 t313 5).bind fun bt317 => (if 0 ≤ bt317.1 then (if bt317.1 < (y314.length : Int) then (some (t306, t310, rd y314 bt317.1)) else (none)) else (none)))) = some (r1, r2, r3) := H
  have A5 := aS_ A50
  clear A50
  obtain ⟨y314, hy314⟩ : ∃ y_ : List Int, y_ = (([t312, 999, 1000, (-1), 5] : List Int)) := ⟨_, rfl⟩
  replace H : ((spec_l20Rd_pick.f k t303 t313 5).bind fun bt317 => (if 0 ≤ bt317.1 then (if bt317.1 < (y314.length : Int) then (some (t306, t310, rd y314 bt317.1)) else (none)) else (none))) = some (r1, r2, r3) := by first | (rw [hy314]; with_reducible exact H) | (have H2_ := (Option.bind_some _ _).symm.trans H; rw [hy314]; with_reducible exact H2_) | (have H2_ := (Option.bind_some _ _).symm.trans H; with_reducible exact H2_) | with_reducible exact H | (rw [hy314]; exact H) | exact H
  have Ny314 := aS_ hy314
  clear hy314
  replace H := Option.bind_eq_some_iff.mp H
  obtain ⟨⟨t317, t318⟩, A60, H⟩ := H
  replace H : (if 0 ≤ t317 then (if t317 < (y314.length : Int) then (some (t306, t310, rd y314 t317)) else (none)) else (none)) = some (r1, r2, r3) := H
  have A6 := aS_ A60
  clear A60
  by_cases c7 : 0 ≤ t317
  · rw [if_pos c7] at H
    have c7b0 : decide (0 ≤ t317) = true := decide_eq_true c7
    clear c7
    by_cases c8 : t317 < (y314.length : Int)
    · rw [if_pos c8] at H
      have c8b0 : decide (t317 < (y314.length : Int)) = true := decide_eq_true c8
      clear c8
      simp only [Option.some.injEq, Prod.mk.injEq] at H
      obtain ⟨rfl, rfl, rfl⟩ := H
      go_enter Try.func35, Try.ntmps35
      try go_wp2_with (first | ((with_reducible refine gate_dst (N := 2) rfl ?_); refine box_event ?hg (N := 2) ?hd (cs := #[.slice none 0 0]) (t := 25) ?hr ?_; (case hd => rfl); (case hg => rfl); (case hr => first | (go_simp; done) | (go_simp; rfl)); intro gb302 hg w9 hbox hb; have n0_ := aS_ (below_step (by repeat (first | (with_reducible first | exact HB.out | apply bA_ | apply bN_ | apply bD_) | exact HB.out)) hb); have n1_ := aS_ (hbox); have n2_ := aS_ ((by rw [hg]; exact (below_size (by repeat (first | (with_reducible first | exact HB.out | apply bA_ | apply bN_ | apply bD_) | exact HB.out))) : w.heap.size ≤ gb302)); have n3_ := aS_ ((by rw [hg]; exact (below_size (by repeat (first | (with_reducible first | exact HB.out | apply bA_ | apply bN_ | apply bD_) | exact HB.out))) : w.heap.size ≤ gb302)); clear HB; have HB := n0_; have BK302 := n1_; have GW302 := n2_; have GE302 := n3_; clear n0_ n1_ n2_ n3_; clear hb hbox hg) | ((with_reducible refine gate_callee (f := 48) rfl ?_); refine goesL_ (some 7) rfl rfl Try.func48 (by kernel_rfl) rfl #[.slice A0 l0.length c0] rfl (by (try simp only [List.map_toArray, List.map_cons, List.map_nil]); first | done | rfl | (simp only [List.length_drop, List.length_take]; rfl)) ?_; (with_reducible refine (spec_l20Open.calls _ _ l0 t303 t304 w _ ?side1 ?side2 ?side3 A2.out).mono ?_); (case side1 => repeat (first | (with_reducible first | exact HB.out | apply bA_ | apply bN_ | apply bD_ | refine below_set ?_ GE302.out) | exact HB.out)); (case side2 => exact HR0.out); (case side3 => exact HC0.out); rintro e w10 ⟨g305, rfl, hi, hb, hb2⟩; refine ⟨_, rfl, ?_⟩; have n0_ := aS_ (blk_below (g := gb302) (o := .cells #[.slice none 0 0] 25 (0, 0)) (by (with_reducible repeat (first | refine blk_drewN ?_ _ | refine blk_drew ?_ | refine blk_alloc ?_ _)); exact BK302.out) hb2); have n1_ := aS_ (hb); have n2_ := aS_ (hi); have n3_ := aS_ (IsS77.ne_blk hi (blk_below (g := gb302) (o := .cells #[.slice none 0 0] 25 (0, 0)) (by (with_reducible repeat (first | refine blk_drewN ?_ _ | refine blk_drew ?_ | refine blk_alloc ?_ _)); exact BK302.out) hb2) (by decide)); have n4_ := aS_ (Ne.symm (IsS77.ne_blk hi (blk_below (g := gb302) (o := .cells #[.slice none 0 0] 25 (0, 0)) (by (with_reducible repeat (first | refine blk_drewN ?_ _ | refine blk_drew ?_ | refine blk_alloc ?_ _)); exact BK302.out) hb2) (by decide))); clear BK302; clear HB; have BK302 := n0_; have HB := n1_; have HI305 := n2_; have NB305_302 := n3_; have NB302_305 := n4_; clear n0_ n1_ n2_ n3_ n4_; (try clear hb); (try clear hb2); (try clear hk); (try clear hi)))
      have pi319 : (0 ≤ (t317 : Int)) = True := eq_true (of_decide_eq_true (by first | (with_reducible assumption) | assumption))
      have qi319 : (t317 < (y314.length : Int)) = True := eq_true (of_decide_eq_true (by first | (with_reducible assumption) | assumption))
      have n0_ := aS_ (blk_drew BK302.out)
      have n1_ := aS_ (IsS77.drew HI305.out)
      have n2_ := aS_ (bD_ HB.out)
      clear BK302
      clear HI305
      clear HB
      have BK302 := n0_
      have HI305 := n1_
      have HB := n2_
      clear n0_ n1_ n2_
      refine start_ (n := 14) (S := fun w' => True) (ds := []) #[false, false, false, false, false, false, false, false, false, false, false, false, false, false] (by kernel_rfl) rfl rfl trivial (fun hHeld => ?_); refine with_tabW spec_DrawMapPut.tab2 spec_DrawMapPut.bits2 (fun HT_ HW_ => ?_)
      generalize w10.drew = w11 at BK302 HI305 HB hHeld ⊢
      refine pure_ (i := 0) (N := some 8) (v := ?_) (a' := ?_) #[true, false, false, false, false, false, false, false, false, false, false, false, false, false] rfl rfl (any_of HT_.out (by kernel_rfl)) (fun _ _ _ h => h) (Or.inl ⟨by rfl, ?_⟩) ?_ ?_
      rotate_left
      · intro w'
        go_simp
        with_reducible rfl
      rotate_left
      · simp only [Act.put, List.setIfInBounds_toArray, List.set_cons_zero, List.set_cons_succ, i64_w, i32_w]
        rfl
      refine pure_ (i := 2) (N := some 10) (v := ?_) (a' := ?_) #[true, false, true, false, false, false, false, false, false, false, false, false, false, false] rfl rfl (any_of HT_.out (by kernel_rfl)) (fun _ _ _ h => h) (Or.inl ⟨by rfl, ?_⟩) ?_ ?_
      rotate_left
      · intro w'
        go_simp
        with_reducible rfl
      rotate_left
      · simp only [Act.put, List.setIfInBounds_toArray, List.set_cons_zero, List.set_cons_succ, i64_w, i32_w]
        rfl
      refine pure_ (i := 4) (N := some 12) (v := ?_) (a' := ?_) #[true, false, true, false, true, false, false, false, false, false, false, false, false, false] rfl rfl (any_of HT_.out (by kernel_rfl)) (fun _ _ _ h => h) (Or.inl ⟨by rfl, ?_⟩) ?_ ?_
      rotate_left
      · intro w'
        go_simp
        with_reducible rfl
      rotate_left
      · simp only [Act.put, List.setIfInBounds_toArray, List.set_cons_zero, List.set_cons_succ, i64_w, i32_w]
        rfl
      refine pure_ (i := 7) (N := some 15) (v := ?_) (a' := ?_) #[true, false, true, false, true, false, false, true, false, false, false, false, false, false] rfl rfl (any_of HT_.out (by kernel_rfl)) (fun _ _ _ h => h) (Or.inl ⟨by rfl, ?_⟩) ?_ ?_
      rotate_left
      · intro w'
        go_simp
        with_reducible rfl
      rotate_left
      · simp only [Act.put, List.setIfInBounds_toArray, List.set_cons_zero, List.set_cons_succ, i64_w, i32_w]
        rfl
      refine inv_at [1, 3, 5, 6, 8, 9, 10, 11, 12, 13] (fun a0_ b a w' => ∃ (v307 : Value) (v315 : Value) (adz_v315 : Addr) (m1_ : Value) (m9_ : Value), a = putSel a0_ b [(1, 9, m1_), (3, 11, .int .i64 t310), (5, 13, .int .i64 t312), (6, 14, v315), (8, 16, .int .i64 t317), (9, 17, m9_), (10, 18, .int .i64 (rd y314 t317)), (12, 3, .int .i64 t310), (13, 4, .int .i64 (rd y314 t317))] ∧ (b 11 = false → w'.heap[gb302]? = some (.cells #[.slice none 0 0] 25 (0, 0))) ∧ (b 1 = false → IsS77 w w' g305 t303 t304) ∧ (Below w.heap.size w w') ∧ (b 1 = true → Kd.R k39 39 w' w.heap.size (fun _ => True) v307 t306) ∧ (b 1 = true → b 3 = false → IsS77 w w' g305 t303 t309) ∧ (b 3 = true → b 5 = false → IsS77 w w' g305 t303 t311) ∧ (b 5 = true → b 8 = false → IsS77 w w' g305 t303 t313) ∧ (b 6 = true → Kd.R (Kd.int .i64) 3 w' w.heap.size (fun _ => True) v315 y314) ∧ (b 6 = true → ∃ c_, (v315 : Value) = .slice (some adz_v315) y314.length c_) ∧ (b 8 = true → IsS77 w w' g305 t303 t318) ∧ (b 11 = true → w'.heap[gb302]? = some (.cells #[v307] 25 (0, 0))) ∧ (b 1 = true → (m1_ : Value) = .agg #[v307]) ∧ (b 9 = true → (m9_ : Value) = .pointer (some (adz_v315.add (t317).toNat)))) HT_.out HW_.out (by kernel_rfl) (by kernel_rfl) ?_ ?_ ?_
      · exact ⟨.bool false, .bool false, ⟨0, 0, none⟩, .bool false, .bool false, by simp only [putSel, Bool.false_eq_true, if_false], fun _ => BK302.out, fun _ => HI305.out, HB.out, fun h_ => absurd h_ (by decide), fun h_ => absurd h_ (by decide), fun h_ => absurd h_ (by decide), fun h_ => absurd h_ (by decide), fun h_ => absurd h_ (by decide), fun h_ => absurd h_ (by decide), fun h_ => absurd h_ (by decide), fun h_ => absurd h_ (by decide), fun h_ => absurd h_ (by decide), fun h_ => absurd h_ (by decide)⟩
      · skip
        clear BK302 HB HI305
        refine steps_cons ?_ ?_
        · rintro b a w' ⟨v307, v315, adz_v315, m1_, m9_, ha, Q_BK302, Q_HI305, Q_HB, Q_HO308, Q_HI305_e1, Q_HI305_e3, Q_HI305_e5, Q_HO316, Q_HA_HO316, Q_HI305_e8, Q_BK302_e11, Q_X1_, Q_X9_⟩ hb_ hon hoff
          refine ⟨_, rfl, fun K hK => ?_⟩
          have e8 : a.tmps[8]? = some (.pointer (some ⟨g305, 0, none⟩)) := by rw [ha]; exact (putSel_off rfl).trans rfl
          replace ha := aS_ ha
          have BK302 := aS_ (Q_BK302 (hoff 11 (by kernel_rfl)))
          have HI305 := aS_ (Q_HI305 hb_)
          have HB := aS_ Q_HB
          refine goes_ Try.func49 (by kernel_rfl) rfl #[.pointer (some ⟨g305, 0, none⟩), .int .i64 9] (by rfl) rfl rfl (by first | (simp only [List.map_toArray, List.map_cons, List.map_nil, Act.eval, Array.getD_eq_getD_getElem?, Option.getD_some, e8]; done) | (simp only [List.map_toArray, List.map_cons, List.map_nil, Act.eval, Array.getD_eq_getD_getElem?, Option.getD_some, e8]; rfl)) ?_
          with_reducible refine (spec_l20Map.calls k g305 t303 t304 9 t306 t309 w _ ?side1 ?side2 A3.out).mono ?_
          (case side1 => repeat (first | (with_reducible first | exact HI305.out | apply IsS77.alloc | apply IsS77.drewN | apply IsS77.drew | apply IsS77.set_1 | refine IsS77.far ?_ NB305_302.out _) | exact HI305.out))
          (case side2 => repeat (first | (with_reducible first | exact HB.out | apply bA_ | apply bN_ | apply bD_ | refine below_set ?_ (IsS77.ge HI305.out) | refine below_set ?_ GE302.out) | exact HB.out))
          rintro e w12 ⟨v307, rfl, ho0, hi, hb, hk⟩
          refine ⟨_, rfl, ?_⟩
          have n0_ := aS_ (KeepBut.blk hk (g' := gb302) (o := .cells #[.slice none 0 0] 25 (0, 0)) (by (with_reducible repeat (first | refine blk_drewN ?_ _ | refine blk_drew ?_ | refine blk_alloc ?_ _)); exact BK302.out) NB302_305.out (by simp))
          have n1_ := aS_ (Kd.R_lower ho0 (below_size (by repeat (first | (with_reducible first | exact HB.out | apply bA_ | apply bN_ | apply bD_ | refine below_set ?_ (IsS77.ge HI305.out) | refine below_set ?_ GE302.out) | exact HB.out))))
          have n2_ := aS_ (hb)
          have n3_ := aS_ (hi)
          clear BK302
          clear HB
          clear HI305
          have BK302 := n0_
          have HO308 := n1_
          have HB := n2_
          have HI305 := n3_
          clear n0_ n1_ n2_ n3_
          (try clear hb)
          (try clear hb2)
          (try clear hk)
          (try clear hi)
          (try clear ho0)
          refine hK.out _ _ ⟨v307, v315, adz_v315, (.agg #[v307]), m9_, (by rw [ha.out]; exact putSel_upk 0 hb_ rfl rfl rfl), fun _ => (by (with_reducible repeat (first | refine blk_drewN ?_ _ | refine blk_drew ?_ | refine blk_alloc ?_ _)); exact BK302.out), fun h0_ => absurd ((up_self b 1).symm.trans h0_) (by decide), (by repeat (first | (with_reducible first | exact HB.out | apply bA_ | apply bN_ | apply bD_ | refine below_set ?_ (IsS77.ge HI305.out) | refine below_set ?_ GE302.out) | exact HB.out)), fun _ => (by (with_reducible repeat (first | apply Kd.R_alloc | apply Kd.R_drewN | apply Kd.R_drew)); exact HO308.out), fun _ _ => (by repeat (first | (with_reducible first | exact HI305.out | apply IsS77.alloc | apply IsS77.drewN | apply IsS77.drew | apply IsS77.set_1 | refine IsS77.far ?_ NB305_302.out _) | exact HI305.out)), fun h0_ _ => absurd ((hoff 3 (by kernel_rfl)).symm.trans h0_) (by decide), fun h0_ _ => absurd ((hoff 5 (by kernel_rfl)).symm.trans h0_) (by decide), fun h0_ => absurd ((hoff 6 (by kernel_rfl)).symm.trans h0_) (by decide), fun h0_ => absurd ((hoff 6 (by kernel_rfl)).symm.trans h0_) (by decide), fun h0_ => absurd ((hoff 8 (by kernel_rfl)).symm.trans h0_) (by decide), fun h0_ => absurd ((hoff 11 (by kernel_rfl)).symm.trans h0_) (by decide), fun _ => rfl, fun h0_ => absurd ((hoff 9 (by kernel_rfl)).symm.trans h0_) (by decide)⟩
        refine steps_cons ?_ ?_
        · rintro b a w' ⟨v307, v315, adz_v315, m1_, m9_, ha, Q_BK302, Q_HI305, Q_HB, Q_HO308, Q_HI305_e1, Q_HI305_e3, Q_HI305_e5, Q_HO316, Q_HA_HO316, Q_HI305_e8, Q_BK302_e11, Q_X1_, Q_X9_⟩ hb_ hon hoff
          refine ⟨_, rfl, fun K hK => ?_⟩
          have e10 : a.tmps[10]? = some (.pointer (some ⟨g305, 0, none⟩)) := by rw [ha]; exact (putSel_off rfl).trans rfl
          replace ha := aS_ ha
          have BK302 := aS_ (Q_BK302 (hoff 11 (by kernel_rfl)))
          have HB := aS_ Q_HB
          have HO308 := aS_ (Q_HO308 (hon 1 (by kernel_rfl)))
          have HI305 := aS_ (Q_HI305_e1 (hon 1 (by kernel_rfl)) hb_)
          refine goes_ Try.func50 (by kernel_rfl) rfl #[.pointer (some ⟨g305, 0, none⟩), .int .i64 9] (by rfl) rfl rfl (by first | (simp only [List.map_toArray, List.map_cons, List.map_nil, Act.eval, Array.getD_eq_getD_getElem?, Option.getD_some, e10]; done) | (simp only [List.map_toArray, List.map_cons, List.map_nil, Act.eval, Array.getD_eq_getD_getElem?, Option.getD_some, e10]; rfl)) ?_
          with_reducible refine (spec_l20Key.calls k g305 t303 t309 9 t310 t311 w _ ?side1 ?side2 A4.out).mono ?_
          (case side1 => repeat (first | (with_reducible first | exact HI305.out | apply IsS77.alloc | apply IsS77.drewN | apply IsS77.drew | apply IsS77.set_1 | refine IsS77.far ?_ NB305_302.out _) | exact HI305.out))
          (case side2 => repeat (first | (with_reducible first | exact HB.out | apply bA_ | apply bN_ | apply bD_ | refine below_set ?_ (IsS77.ge HI305.out) | refine below_set ?_ GE302.out) | exact HB.out))
          rintro e w14 ⟨rfl, hi, hb, hk⟩
          refine ⟨_, rfl, ?_⟩
          have n0_ := aS_ (KeepBut.blk hk (g' := gb302) (o := .cells #[.slice none 0 0] 25 (0, 0)) (by (with_reducible repeat (first | refine blk_drewN ?_ _ | refine blk_drew ?_ | refine blk_alloc ?_ _)); exact BK302.out) NB302_305.out (by simp))
          have n1_ := aS_ (Kd.R_mono (Kd.R_keep (IsS77.apart (show IsS77 w _ g305 t303 t309 from by repeat (first | (with_reducible first | exact HI305.out | apply IsS77.alloc | apply IsS77.drewN | apply IsS77.drew | apply IsS77.set_1 | refine IsS77.far ?_ NB305_302.out _) | exact HI305.out)) (by (with_reducible repeat (first | apply Kd.R_alloc | apply Kd.R_drewN | apply Kd.R_drew)); exact HO308.out) (by decide)) hk (fun _ h => h.2)) (fun _ h => h.1))
          have n2_ := aS_ (hb)
          have n3_ := aS_ (hi)
          clear BK302
          clear HO308
          clear HB
          clear HI305
          have BK302 := n0_
          have HO308 := n1_
          have HB := n2_
          have HI305 := n3_
          clear n0_ n1_ n2_ n3_
          (try clear hb)
          (try clear hb2)
          (try clear hk)
          (try clear hi)
          refine hK.out _ _ ⟨v307, v315, adz_v315, m1_, m9_, (by rw [ha.out]; exact putSel_upk 1 hb_ rfl rfl rfl), fun _ => (by (with_reducible repeat (first | refine blk_drewN ?_ _ | refine blk_drew ?_ | refine blk_alloc ?_ _)); exact BK302.out), fun h0_ => absurd ((hon 1 (by kernel_rfl)).symm.trans h0_) (by decide), (by repeat (first | (with_reducible first | exact HB.out | apply bA_ | apply bN_ | apply bD_ | refine below_set ?_ (IsS77.ge HI305.out) | refine below_set ?_ GE302.out) | exact HB.out)), fun _ => (by (with_reducible repeat (first | apply Kd.R_alloc | apply Kd.R_drewN | apply Kd.R_drew)); exact HO308.out), fun _ h1_ => absurd ((up_self b 3).symm.trans h1_) (by decide), fun _ _ => (by repeat (first | (with_reducible first | exact HI305.out | apply IsS77.alloc | apply IsS77.drewN | apply IsS77.drew | apply IsS77.set_1 | refine IsS77.far ?_ NB305_302.out _) | exact HI305.out)), fun h0_ _ => absurd ((hoff 5 (by kernel_rfl)).symm.trans h0_) (by decide), fun h0_ => absurd ((hoff 6 (by kernel_rfl)).symm.trans h0_) (by decide), fun h0_ => absurd ((hoff 6 (by kernel_rfl)).symm.trans h0_) (by decide), fun h0_ => absurd ((hoff 8 (by kernel_rfl)).symm.trans h0_) (by decide), fun h0_ => absurd ((hoff 11 (by kernel_rfl)).symm.trans h0_) (by decide), Q_X1_, fun h0_ => absurd ((hoff 9 (by kernel_rfl)).symm.trans h0_) (by decide)⟩
        refine steps_cons ?_ ?_
        · rintro b a w' ⟨v307, v315, adz_v315, m1_, m9_, ha, Q_BK302, Q_HI305, Q_HB, Q_HO308, Q_HI305_e1, Q_HI305_e3, Q_HI305_e5, Q_HO316, Q_HA_HO316, Q_HI305_e8, Q_BK302_e11, Q_X1_, Q_X9_⟩ hb_ hon hoff
          refine ⟨_, rfl, fun K hK => ?_⟩
          have e12 : a.tmps[12]? = some (.pointer (some ⟨g305, 0, none⟩)) := by rw [ha]; exact (putSel_off rfl).trans rfl
          replace ha := aS_ ha
          have BK302 := aS_ (Q_BK302 (hoff 11 (by kernel_rfl)))
          have HB := aS_ Q_HB
          have HO308 := aS_ (Q_HO308 (hon 1 (by kernel_rfl)))
          have HI305 := aS_ (Q_HI305_e3 (hon 3 (by kernel_rfl)) hb_)
          refine goes_ Try.func57 (by kernel_rfl) rfl #[.pointer (some ⟨g305, 0, none⟩), .int .i64 10] (by rfl) rfl rfl (by first | (simp only [List.map_toArray, List.map_cons, List.map_nil, Act.eval, Array.getD_eq_getD_getElem?, Option.getD_some, e12]; done) | (simp only [List.map_toArray, List.map_cons, List.map_nil, Act.eval, Array.getD_eq_getD_getElem?, Option.getD_some, e12]; rfl)) ?_
          with_reducible refine (spec_l20Rd_pick.calls k g305 t303 t311 10 t312 t313 w _ ?side1 ?side2 A5.out).mono ?_
          (case side1 => repeat (first | (with_reducible first | exact HI305.out | apply IsS77.alloc | apply IsS77.drewN | apply IsS77.drew | apply IsS77.set_1 | refine IsS77.far ?_ NB305_302.out _) | exact HI305.out))
          (case side2 => repeat (first | (with_reducible first | exact HB.out | apply bA_ | apply bN_ | apply bD_ | refine below_set ?_ (IsS77.ge HI305.out) | refine below_set ?_ GE302.out) | exact HB.out))
          rintro e w15 ⟨rfl, hi, hb, hk⟩
          refine ⟨_, rfl, ?_⟩
          have n0_ := aS_ (KeepBut.blk hk (g' := gb302) (o := .cells #[.slice none 0 0] 25 (0, 0)) (by (with_reducible repeat (first | refine blk_drewN ?_ _ | refine blk_drew ?_ | refine blk_alloc ?_ _)); exact BK302.out) NB302_305.out (by simp))
          have n1_ := aS_ (Kd.R_mono (Kd.R_keep (IsS77.apart (show IsS77 w _ g305 t303 t311 from by repeat (first | (with_reducible first | exact HI305.out | apply IsS77.alloc | apply IsS77.drewN | apply IsS77.drew | apply IsS77.set_1 | refine IsS77.far ?_ NB305_302.out _) | exact HI305.out)) (by (with_reducible repeat (first | apply Kd.R_alloc | apply Kd.R_drewN | apply Kd.R_drew)); exact HO308.out) (by decide)) hk (fun _ h => h.2)) (fun _ h => h.1))
          have n2_ := aS_ (hb)
          have n3_ := aS_ (hi)
          clear BK302
          clear HO308
          clear HB
          clear HI305
          have BK302 := n0_
          have HO308 := n1_
          have HB := n2_
          have HI305 := n3_
          clear n0_ n1_ n2_ n3_
          (try clear hb)
          (try clear hb2)
          (try clear hk)
          (try clear hi)
          refine hK.out _ _ ⟨v307, v315, adz_v315, m1_, m9_, (by rw [ha.out]; exact putSel_upk 2 hb_ rfl rfl rfl), fun _ => (by (with_reducible repeat (first | refine blk_drewN ?_ _ | refine blk_drew ?_ | refine blk_alloc ?_ _)); exact BK302.out), fun h0_ => absurd ((hon 1 (by kernel_rfl)).symm.trans h0_) (by decide), (by repeat (first | (with_reducible first | exact HB.out | apply bA_ | apply bN_ | apply bD_ | refine below_set ?_ (IsS77.ge HI305.out) | refine below_set ?_ GE302.out) | exact HB.out)), fun _ => (by (with_reducible repeat (first | apply Kd.R_alloc | apply Kd.R_drewN | apply Kd.R_drew)); exact HO308.out), fun _ h1_ => absurd ((hon 3 (by kernel_rfl)).symm.trans h1_) (by decide), fun _ h1_ => absurd ((up_self b 5).symm.trans h1_) (by decide), fun _ _ => (by repeat (first | (with_reducible first | exact HI305.out | apply IsS77.alloc | apply IsS77.drewN | apply IsS77.drew | apply IsS77.set_1 | refine IsS77.far ?_ NB305_302.out _) | exact HI305.out)), fun h0_ => absurd ((hoff 6 (by kernel_rfl)).symm.trans h0_) (by decide), fun h0_ => absurd ((hoff 6 (by kernel_rfl)).symm.trans h0_) (by decide), fun h0_ => absurd ((hoff 8 (by kernel_rfl)).symm.trans h0_) (by decide), fun h0_ => absurd ((hoff 11 (by kernel_rfl)).symm.trans h0_) (by decide), Q_X1_, fun h0_ => absurd ((hoff 9 (by kernel_rfl)).symm.trans h0_) (by decide)⟩
        refine steps_cons ?_ ?_
        · rintro b a w' ⟨v307, v315, adz_v315, m1_, m9_, ha, Q_BK302, Q_HI305, Q_HB, Q_HO308, Q_HI305_e1, Q_HI305_e3, Q_HI305_e5, Q_HO316, Q_HA_HO316, Q_HI305_e8, Q_BK302_e11, Q_X1_, Q_X9_⟩ hb_ hon hoff
          refine ⟨_, rfl, fun K hK => ?_⟩
          have e13 : a.tmps[13]? = some (.int .i64 t312) := by rw [ha]; exact putSel_on (e := (5, 13, .int .i64 t312)) 2 rfl rfl (hon 5 (by kernel_rfl)) rfl
          replace ha := aS_ ha
          have HB := aS_ Q_HB
          have HO308 := aS_ (Q_HO308 (hon 1 (by kernel_rfl)))
          refine Kd.R_lit_step (Kd.int .i64) _ 3 ?hg (N := 14) ?hd (xs := ([t312, 999, 1000, (-1), 5] : List Int)) (inner := [.int .i64 t312, .int .i64 999, .int .i64 1000, .int .i64 (-1), .int .i64 5]) (ok := fun _ => True) (okp := fun _ => True) ?hr ?hp (fun _ hk => hk) trivial (Below.refl _ _) (Nat.le_refl _) (by simp) ?_; (case hd => rfl); (case hg => rfl); (case hr => first | (go_simp; done) | (go_simp; rfl)); (case hp => exact (Reps.one (show Kd.M (Kd.int .i64) _ _ _ t312 [.int .i64 t312] from rfl) (Reps.one (show Kd.M (Kd.int .i64) _ _ _ 999 [.int .i64 999] from rfl) (Reps.one (show Kd.M (Kd.int .i64) _ _ _ 1000 [.int .i64 1000] from rfl) (Reps.one (show Kd.M (Kd.int .i64) _ _ _ (-1) [.int .i64 (-1)] from rfl) (Reps.one (show Kd.M (Kd.int .i64) _ _ _ 5 [.int .i64 5] from rfl) (Reps.none _ _)))))))
          intro v315 w16 ho17 hb hg_ hnew_
          clear hg_ hnew_
          (first | rw [← Ny314.out] at ho17 | (simp only [Int.reduceToNat] at ho17; rw [← Ny314.out] at ho17))
          have n0_ := aS_ (Kd.R_below (by (with_reducible repeat (first | apply Kd.R_alloc | apply Kd.R_drewN | apply Kd.R_drew)); exact HO308.out) hb)
          have n1_ := aS_ (Kd.R_lower ho17 (below_size (by repeat (first | (with_reducible first | exact HB.out | apply bA_ | apply bN_ | apply bD_ | refine below_set ?_ GE302.out) | exact HB.out))))
          have n4_ := aS_ (below_step (by repeat (first | (with_reducible first | exact HB.out | apply bA_ | apply bN_ | apply bD_ | refine below_set ?_ GE302.out) | exact HB.out)) hb)
          have z_BK302 := fun (h0_ : b 11 = false) => (show w16.heap[gb302]? = some (.cells #[.slice none 0 0] 25 (0, 0)) from by first | exact (blk_below (g := gb302) (o := .cells #[.slice none 0 0] 25 (0, 0)) (by (with_reducible repeat (first | refine blk_drewN ?_ _ | refine blk_drew ?_ | refine blk_alloc ?_ _)); exact (Q_BK302 h0_)) hb))
          have z_HI305_e5 := fun (h0_ : b 5 = true) (h1_ : b 8 = false) => (show IsS77 w w16 g305 t303 t313 from by first | exact (IsS77.below (by repeat (first | (with_reducible first | exact (Q_HI305_e5 h0_ h1_) | apply IsS77.alloc | apply IsS77.drewN | apply IsS77.drew | apply IsS77.set_1 | refine IsS77.far ?_ NB305_302.out _) | exact (Q_HI305_e5 h0_ h1_))) hb))
          have z_HI305_e8 := fun (h0_ : b 8 = true) => (show IsS77 w w16 g305 t303 t318 from by first | exact (IsS77.below (by repeat (first | (with_reducible first | exact (Q_HI305_e8 h0_) | apply IsS77.alloc | apply IsS77.drewN | apply IsS77.drew | apply IsS77.set_1 | refine IsS77.far ?_ NB305_302.out _) | exact (Q_HI305_e8 h0_))) hb))
          have z_BK302_e11 := fun (h0_ : b 11 = true) => (show w16.heap[gb302]? = some (.cells #[v307] 25 (0, 0)) from by first | exact (blk_below (g := gb302) (o := .cells #[v307] 25 (0, 0)) (by (with_reducible repeat (first | refine blk_drewN ?_ _ | refine blk_drew ?_ | refine blk_alloc ?_ _)); exact (Q_BK302_e11 h0_)) hb))
          clear HO308
          clear HB
          have HO308 := n0_
          have HO316 := n1_
          have HB := n4_
          clear n0_ n1_ n4_
          clear hb ho17
          obtain ⟨Ao18, co18, eo18⟩ := Kd.R_slice HO316.out
          subst eo18
          obtain ⟨ado18, fo18, _⟩ := Kd.at_int (Kd.R_reads' HO316.out).2.2 0 (by decide) (by rw [Ny314.out]; simp)
          cases fo18
          refine hK.out _ _ ⟨v307, .slice (some ado18) y314.length co18, ado18, m1_, m9_, (by rw [ha.out]; exact putSel_upk 3 hb_ rfl rfl rfl), z_BK302, fun h0_ => absurd ((hon 1 (by kernel_rfl)).symm.trans h0_) (by decide), (by repeat (first | (with_reducible first | exact HB.out | apply bA_ | apply bN_ | apply bD_ | refine below_set ?_ GE302.out) | exact HB.out)), fun _ => (by (with_reducible repeat (first | apply Kd.R_alloc | apply Kd.R_drewN | apply Kd.R_drew)); exact HO308.out), fun _ h1_ => absurd ((hon 3 (by kernel_rfl)).symm.trans h1_) (by decide), fun _ h1_ => absurd ((hon 5 (by kernel_rfl)).symm.trans h1_) (by decide), z_HI305_e5, fun _ => (by (with_reducible repeat (first | apply Kd.R_alloc | apply Kd.R_drewN | apply Kd.R_drew)); exact HO316.out), fun _ => ⟨_, rfl⟩, z_HI305_e8, z_BK302_e11, Q_X1_, fun h0_ => absurd ((hoff 9 (by kernel_rfl)).symm.trans h0_) (by decide)⟩
        refine steps_cons ?_ ?_
        · rintro b a w' ⟨v307, v315, adz_v315, m1_, m9_, ha, Q_BK302, Q_HI305, Q_HB, Q_HO308, Q_HI305_e1, Q_HI305_e3, Q_HI305_e5, Q_HO316, Q_HA_HO316, Q_HI305_e8, Q_BK302_e11, Q_X1_, Q_X9_⟩ hb_ hon hoff
          refine ⟨_, rfl, fun K hK => ?_⟩
          have e15 : a.tmps[15]? = some (.pointer (some ⟨g305, 0, none⟩)) := by rw [ha]; exact (putSel_off rfl).trans rfl
          replace ha := aS_ ha
          have BK302 := aS_ (Q_BK302 (hoff 11 (by kernel_rfl)))
          have HB := aS_ Q_HB
          have HO308 := aS_ (Q_HO308 (hon 1 (by kernel_rfl)))
          have HI305 := aS_ (Q_HI305_e5 (hon 5 (by kernel_rfl)) hb_)
          refine goes_ Try.func57 (by kernel_rfl) rfl #[.pointer (some ⟨g305, 0, none⟩), .int .i64 5] (by rfl) rfl rfl (by first | (simp only [List.map_toArray, List.map_cons, List.map_nil, Act.eval, Array.getD_eq_getD_getElem?, Option.getD_some, e15]; done) | (simp only [List.map_toArray, List.map_cons, List.map_nil, Act.eval, Array.getD_eq_getD_getElem?, Option.getD_some, e15]; rfl)) ?_
          with_reducible refine (spec_l20Rd_pick.calls k g305 t303 t313 5 t317 t318 w _ ?side1 ?side2 A6.out).mono ?_
          (case side1 => repeat (first | (with_reducible first | exact HI305.out | apply IsS77.alloc | apply IsS77.drewN | apply IsS77.drew | apply IsS77.set_1 | refine IsS77.far ?_ NB305_302.out _) | exact HI305.out))
          (case side2 => repeat (first | (with_reducible first | exact HB.out | apply bA_ | apply bN_ | apply bD_ | refine below_set ?_ (IsS77.ge HI305.out) | refine below_set ?_ GE302.out) | exact HB.out))
          rintro e w16 ⟨rfl, hi, hb, hk⟩
          refine ⟨_, rfl, ?_⟩
          have n0_ := aS_ (KeepBut.blk hk (g' := gb302) (o := .cells #[.slice none 0 0] 25 (0, 0)) (by (with_reducible repeat (first | refine blk_drewN ?_ _ | refine blk_drew ?_ | refine blk_alloc ?_ _)); exact BK302.out) NB302_305.out (by simp))
          have n1_ := aS_ (Kd.R_mono (Kd.R_keep (IsS77.apart (show IsS77 w _ g305 t303 t313 from by repeat (first | (with_reducible first | exact HI305.out | apply IsS77.alloc | apply IsS77.drewN | apply IsS77.drew | apply IsS77.set_1 | refine IsS77.far ?_ NB305_302.out _) | exact HI305.out)) (by (with_reducible repeat (first | apply Kd.R_alloc | apply Kd.R_drewN | apply Kd.R_drew)); exact HO308.out) (by decide)) hk (fun _ h => h.2)) (fun _ h => h.1))
          have n2_ := aS_ (hb)
          have n3_ := aS_ (hi)
          have z_HO316 := fun (h0_ : b 6 = true) => (show Kd.R (Kd.int .i64) 3 w16 w.heap.size (fun _ => True) v315 y314 from by first | exact (Kd.R_mono (Kd.R_keep (IsS77.apart (show IsS77 w _ g305 t303 t313 from by repeat (first | (with_reducible first | exact HI305.out | apply IsS77.alloc | apply IsS77.drewN | apply IsS77.drew | apply IsS77.set_1 | refine IsS77.far ?_ NB305_302.out _) | exact HI305.out)) (by (with_reducible repeat (first | apply Kd.R_alloc | apply Kd.R_drewN | apply Kd.R_drew)); exact (Q_HO316 h0_)) (by decide)) hk (fun _ h => h.2)) (fun _ h => h.1)) | exact Kd.R_mono (Kd.R_mono (Kd.R_keep (IsS77.apart (show IsS77 w _ g305 t303 t313 from by repeat (first | (with_reducible first | exact HI305.out | apply IsS77.alloc | apply IsS77.drewN | apply IsS77.drew | apply IsS77.set_1 | refine IsS77.far ?_ NB305_302.out _) | exact HI305.out)) (by (with_reducible repeat (first | apply Kd.R_alloc | apply Kd.R_drewN | apply Kd.R_drew)); exact (Q_HO316 h0_)) (by decide)) hk (fun _ h => h.2)) (fun _ h => h.1)) (fun _ h_ => by first | trivial | exact h_ | exact h_.1))
          clear BK302
          clear HO308
          clear HB
          clear HI305
          have BK302 := n0_
          have HO308 := n1_
          have HB := n2_
          have HI305 := n3_
          clear n0_ n1_ n2_ n3_
          (try clear hb)
          (try clear hb2)
          (try clear hk)
          (try clear hi)
          refine hK.out _ _ ⟨v307, v315, adz_v315, m1_, m9_, (by rw [ha.out]; exact putSel_upk 4 hb_ rfl rfl rfl), fun _ => (by (with_reducible repeat (first | refine blk_drewN ?_ _ | refine blk_drew ?_ | refine blk_alloc ?_ _)); exact BK302.out), fun h0_ => absurd ((hon 1 (by kernel_rfl)).symm.trans h0_) (by decide), (by repeat (first | (with_reducible first | exact HB.out | apply bA_ | apply bN_ | apply bD_ | refine below_set ?_ (IsS77.ge HI305.out) | refine below_set ?_ GE302.out) | exact HB.out)), fun _ => (by (with_reducible repeat (first | apply Kd.R_alloc | apply Kd.R_drewN | apply Kd.R_drew)); exact HO308.out), fun _ h1_ => absurd ((hon 3 (by kernel_rfl)).symm.trans h1_) (by decide), fun _ h1_ => absurd ((hon 5 (by kernel_rfl)).symm.trans h1_) (by decide), fun _ h1_ => absurd ((up_self b 8).symm.trans h1_) (by decide), z_HO316, Q_HA_HO316, fun _ => (by repeat (first | (with_reducible first | exact HI305.out | apply IsS77.alloc | apply IsS77.drewN | apply IsS77.drew | apply IsS77.set_1 | refine IsS77.far ?_ NB305_302.out _) | exact HI305.out)), fun h0_ => absurd ((hoff 11 (by kernel_rfl)).symm.trans h0_) (by decide), Q_X1_, fun h0_ => absurd ((hoff 9 (by kernel_rfl)).symm.trans h0_) (by decide)⟩
        refine steps_cons ?_ ?_
        · rintro b a w' ⟨v307, v315, adz_v315, m1_, m9_, ha, Q_BK302, Q_HI305, Q_HB, Q_HO308, Q_HI305_e1, Q_HI305_e3, Q_HI305_e5, Q_HO316, Q_HA_HO316, Q_HI305_e8, Q_BK302_e11, Q_X1_, Q_X9_⟩ hb_ hon hoff
          refine ⟨_, rfl, fun K hK => ?_⟩
          have e14 : a.tmps[14]? = some (v315) := by rw [ha]; exact putSel_on (e := (6, 14, v315)) 3 rfl rfl (hon 6 (by kernel_rfl)) rfl
          have e16 : a.tmps[16]? = some (.int .i64 t317) := by rw [ha]; exact putSel_on (e := (8, 16, .int .i64 t317)) 4 rfl rfl (hon 8 (by kernel_rfl)) rfl
          replace ha := aS_ ha
          have HB := aS_ Q_HB
          have HO308 := aS_ (Q_HO308 (hon 1 (by kernel_rfl)))
          have HO316 := aS_ (Q_HO316 (hon 6 (by kernel_rfl)))
          have HA_HO316 := aS_ (Q_HA_HO316 (hon 6 (by kernel_rfl)))
          have HI305 := aS_ (Q_HI305_e8 (hon 8 (by kernel_rfl)))
          obtain ⟨c_, hv_⟩ := HA_HO316.out
          rw [hv_] at e14
          refine value_ (w1 := w') (v := .pointer (some (adz_v315.add (t317).toNat))) (by rfl) rfl ?_ ?_
          · go_simp
            (try simp only [i64_w])
            try rfl
          refine hK.out _ _ ⟨v307, v315, adz_v315, m1_, (.pointer (some (adz_v315.add (t317).toNat))), (by rw [ha.out]; exact putSel_upk 5 hb_ rfl rfl rfl), Q_BK302, fun h0_ => absurd ((hon 1 (by kernel_rfl)).symm.trans h0_) (by decide), Q_HB, Q_HO308, fun _ h1_ => absurd ((hon 3 (by kernel_rfl)).symm.trans h1_) (by decide), fun _ h1_ => absurd ((hon 5 (by kernel_rfl)).symm.trans h1_) (by decide), fun _ h1_ => absurd ((hon 8 (by kernel_rfl)).symm.trans h1_) (by decide), Q_HO316, Q_HA_HO316, Q_HI305_e8, Q_BK302_e11, Q_X1_, fun _ => rfl⟩
        refine steps_cons ?_ ?_
        · rintro b a w' ⟨v307, v315, adz_v315, m1_, m9_, ha, Q_BK302, Q_HI305, Q_HB, Q_HO308, Q_HI305_e1, Q_HI305_e3, Q_HI305_e5, Q_HO316, Q_HA_HO316, Q_HI305_e8, Q_BK302_e11, Q_X1_, Q_X9_⟩ hb_ hon hoff
          refine ⟨_, rfl, fun K hK => ?_⟩
          have e17 : a.tmps[17]? = some (m9_) := by rw [ha]; exact putSel_on (e := (9, 17, m9_)) 5 rfl rfl (hon 9 (by kernel_rfl)) rfl
          rw [Q_X9_ (hon 9 (by kernel_rfl))] at e17
          replace ha := aS_ ha
          have HB := aS_ Q_HB
          have HO308 := aS_ (Q_HO308 (hon 1 (by kernel_rfl)))
          have HO316 := aS_ (Q_HO316 (hon 6 (by kernel_rfl)))
          have HA_HO316 := aS_ (Q_HA_HO316 (hon 6 (by kernel_rfl)))
          have HI305 := aS_ (Q_HI305_e8 (hon 8 (by kernel_rfl)))
          obtain ⟨c_, hv_⟩ := HA_HO316.out
          have hF_ := HO316.out
          rw [hv_] at hF_
          obtain ⟨ad_, ea_, hx_⟩ := Kd.at_int (Kd.R_reads' hF_).2.2 t317 (of_eq_true pi319) (of_eq_true qi319)
          cases ea_
          refine value_ (w1 := w') (v := .int .i64 (rd y314 t317)) (by rfl) rfl ?_ ?_
          · go_simp
            (try simp only [i64_w])
            try rfl
          refine hK.out _ _ ⟨v307, v315, adz_v315, m1_, m9_, (by rw [ha.out]; exact putSel_upk 6 hb_ rfl rfl rfl), Q_BK302, fun h0_ => absurd ((hon 1 (by kernel_rfl)).symm.trans h0_) (by decide), Q_HB, Q_HO308, fun _ h1_ => absurd ((hon 3 (by kernel_rfl)).symm.trans h1_) (by decide), fun _ h1_ => absurd ((hon 5 (by kernel_rfl)).symm.trans h1_) (by decide), fun _ h1_ => absurd ((hon 8 (by kernel_rfl)).symm.trans h1_) (by decide), Q_HO316, Q_HA_HO316, Q_HI305_e8, Q_BK302_e11, Q_X1_, Q_X9_⟩
        refine steps_cons ?_ ?_
        · rintro b a w' ⟨v307, v315, adz_v315, m1_, m9_, ha, Q_BK302, Q_HI305, Q_HB, Q_HO308, Q_HI305_e1, Q_HI305_e3, Q_HI305_e5, Q_HO316, Q_HA_HO316, Q_HI305_e8, Q_BK302_e11, Q_X1_, Q_X9_⟩ hb_ hon hoff
          refine ⟨_, rfl, fun K hK => ?_⟩
          have e2 : a.tmps[2]? = some (.pointer (some ⟨gb302, 0, none⟩)) := by rw [ha]; exact (putSel_off rfl).trans rfl
          have e9 : a.tmps[9]? = some (m1_) := by rw [ha]; exact putSel_on (e := (1, 9, m1_)) 0 rfl rfl (hon 1 (by kernel_rfl)) rfl
          rw [Q_X1_ (hon 1 (by kernel_rfl))] at e9
          replace ha := aS_ ha
          have BK302 := aS_ (Q_BK302 hb_)
          have HB := aS_ Q_HB
          have HO308 := aS_ (Q_HO308 (hon 1 (by kernel_rfl)))
          have HI305 := aS_ (Q_HI305_e8 (hon 8 (by kernel_rfl)))
          obtain ⟨Ao17, co17, eo17⟩ := Kd.R_slice HO308.out
          (first | subst eo17 | (injection eo17 with f1_ f2_ f3_; have f4_ := f1_.symm; have f5_ := f3_.symm; clear f1_ f2_ f3_; subst f4_; subst f5_))
          have hs18 : w'.cell? ⟨gb302, 0, none⟩ = some (.slice none 0 0) := (blk_cell BK302.out 0).trans rfl
          have hfs18 := blk_frozen BK302.out 0
          refine skip_ (w1 := ?_) (by rfl) rfl ?_ ?_
          rotate_left
          · go_simp
            rfl
          refine hK.out _ _ ⟨.slice Ao17 t306.length co17, v315, adz_v315, m1_, m9_, (by rw [ha.out]; exact putSel_none (v := undef) rfl), fun h0_ => absurd ((up_self b 11).symm.trans h0_) (by decide), fun h0_ => absurd ((hon 1 (by kernel_rfl)).symm.trans h0_) (by decide), (by repeat (first | (with_reducible first | exact HB.out | apply bA_ | apply bN_ | apply bD_ | refine below_set ?_ (IsS77.ge HI305.out) | refine below_set ?_ GE302.out) | exact HB.out)), fun _ => (by (with_reducible repeat (first | apply Kd.R_alloc | apply Kd.R_drewN | apply Kd.R_drew)); exact Kd.R_mono (Kd.R_far (p := ⟨gb302, 0, none⟩) (Kd.R_types HO308.out BK302.out (by decide)) (fun _ hk => by first | exact hk.2 | trivial | simp [hk]) (.slice Ao17 t306.length co17)) (fun _ hk => trivial)), fun _ h1_ => absurd ((hon 3 (by kernel_rfl)).symm.trans h1_) (by decide), fun _ h1_ => absurd ((hon 5 (by kernel_rfl)).symm.trans h1_) (by decide), fun _ h1_ => absurd ((hon 8 (by kernel_rfl)).symm.trans h1_) (by decide), fun h0_ => (by (with_reducible repeat (first | apply Kd.R_alloc | apply Kd.R_drewN | apply Kd.R_drew)); exact Kd.R_mono (Kd.R_far (p := ⟨gb302, 0, none⟩) (Kd.R_types (Q_HO316 h0_) BK302.out (by decide)) (fun _ hk => by first | exact hk.2 | trivial | simp [hk]) (.slice Ao17 t306.length co17)) (fun _ hk => trivial)), Q_HA_HO316, fun _ => (by repeat (first | (with_reducible first | exact HI305.out | apply IsS77.alloc | apply IsS77.drewN | apply IsS77.drew | apply IsS77.set_1 | refine IsS77.far ?_ NB305_302.out _) | exact HI305.out)), fun _ => (by (with_reducible repeat (first | refine blk_drewN ?_ _ | refine blk_drew ?_ | refine blk_alloc ?_ _)); refine blk_put (cs := #[.slice none 0 0]) ?_ 0 _ rfl; (with_reducible repeat (first | refine blk_drewN ?_ _ | refine blk_drew ?_ | refine blk_alloc ?_ _)); exact BK302.out), Q_X1_, Q_X9_⟩
        refine steps_cons ?_ ?_
        · rintro b a w' ⟨v307, v315, adz_v315, m1_, m9_, ha, Q_BK302, Q_HI305, Q_HB, Q_HO308, Q_HI305_e1, Q_HI305_e3, Q_HI305_e5, Q_HO316, Q_HA_HO316, Q_HI305_e8, Q_BK302_e11, Q_X1_, Q_X9_⟩ hb_ hon hoff
          refine ⟨_, rfl, fun K hK => ?_⟩
          have e11 : a.tmps[11]? = some (.int .i64 t310) := by rw [ha]; exact putSel_on (e := (3, 11, .int .i64 t310)) 1 rfl rfl (hon 3 (by kernel_rfl)) rfl
          replace ha := aS_ ha
          have HB := aS_ Q_HB
          have HO308 := aS_ (Q_HO308 (hon 1 (by kernel_rfl)))
          have HI305 := aS_ (Q_HI305_e8 (hon 8 (by kernel_rfl)))
          have BK302 := aS_ (Q_BK302_e11 (hon 11 (by kernel_rfl)))
          refine value_ (w1 := w') (v := .int .i64 t310) (by rfl) rfl ?_ ?_
          · go_simp
            (try simp only [i64_w])
            try rfl
          refine hK.out _ _ ⟨v307, v315, adz_v315, m1_, m9_, (by rw [ha.out]; exact putSel_upk 7 hb_ rfl rfl rfl), fun h0_ => absurd ((hon 11 (by kernel_rfl)).symm.trans h0_) (by decide), fun h0_ => absurd ((hon 1 (by kernel_rfl)).symm.trans h0_) (by decide), Q_HB, Q_HO308, fun _ h1_ => absurd ((hon 3 (by kernel_rfl)).symm.trans h1_) (by decide), fun _ h1_ => absurd ((hon 5 (by kernel_rfl)).symm.trans h1_) (by decide), fun _ h1_ => absurd ((hon 8 (by kernel_rfl)).symm.trans h1_) (by decide), Q_HO316, Q_HA_HO316, Q_HI305_e8, Q_BK302_e11, Q_X1_, Q_X9_⟩
        refine steps_cons ?_ ?_
        · rintro b a w' ⟨v307, v315, adz_v315, m1_, m9_, ha, Q_BK302, Q_HI305, Q_HB, Q_HO308, Q_HI305_e1, Q_HI305_e3, Q_HI305_e5, Q_HO316, Q_HA_HO316, Q_HI305_e8, Q_BK302_e11, Q_X1_, Q_X9_⟩ hb_ hon hoff
          refine ⟨_, rfl, fun K hK => ?_⟩
          have e18 : a.tmps[18]? = some (.int .i64 (rd y314 t317)) := by rw [ha]; exact putSel_on (e := (10, 18, .int .i64 (rd y314 t317))) 6 rfl rfl (hon 10 (by kernel_rfl)) rfl
          replace ha := aS_ ha
          have HB := aS_ Q_HB
          have HO308 := aS_ (Q_HO308 (hon 1 (by kernel_rfl)))
          have HO316 := aS_ (Q_HO316 (hon 6 (by kernel_rfl)))
          have HA_HO316 := aS_ (Q_HA_HO316 (hon 6 (by kernel_rfl)))
          have HI305 := aS_ (Q_HI305_e8 (hon 8 (by kernel_rfl)))
          have BK302 := aS_ (Q_BK302_e11 (hon 11 (by kernel_rfl)))
          refine value_ (w1 := w') (v := .int .i64 (rd y314 t317)) (by rfl) rfl ?_ ?_
          · go_simp
            (try simp only [i64_w])
            try rfl
          refine hK.out _ _ ⟨v307, v315, adz_v315, m1_, m9_, (by rw [ha.out]; exact putSel_upk 8 hb_ rfl rfl rfl), fun h0_ => absurd ((hon 11 (by kernel_rfl)).symm.trans h0_) (by decide), fun h0_ => absurd ((hon 1 (by kernel_rfl)).symm.trans h0_) (by decide), Q_HB, Q_HO308, fun _ h1_ => absurd ((hon 3 (by kernel_rfl)).symm.trans h1_) (by decide), fun _ h1_ => absurd ((hon 5 (by kernel_rfl)).symm.trans h1_) (by decide), fun _ h1_ => absurd ((hon 8 (by kernel_rfl)).symm.trans h1_) (by decide), Q_HO316, Q_HA_HO316, Q_HI305_e8, Q_BK302_e11, Q_X1_, Q_X9_⟩
        exact steps_nil
      rintro b a w21 hall ⟨v307, v315, adz_v315, m1_, m9_, ha, Q_BK302, Q_HI305, Q_HB, Q_HO308, Q_HI305_e1, Q_HI305_e3, Q_HI305_e5, Q_HO316, Q_HA_HO316, Q_HI305_e8, Q_BK302_e11, Q_X1_, Q_X9_⟩
      clear BK302 HB HI305
      have hb1_ := hall 1 (by kernel_rfl)
      have hb3_ := hall 3 (by kernel_rfl)
      have hb5_ := hall 5 (by kernel_rfl)
      have hb6_ := hall 6 (by kernel_rfl)
      have hb8_ := hall 8 (by kernel_rfl)
      have hb9_ := hall 9 (by kernel_rfl)
      have hb10_ := hall 10 (by kernel_rfl)
      have hb11_ := hall 11 (by kernel_rfl)
      have hb12_ := hall 12 (by kernel_rfl)
      have hb13_ := hall 13 (by kernel_rfl)
      subst ha
      obtain rfl := Q_X1_ hb1_
      obtain rfl := Q_X9_ hb9_
      simp only [putSel, hb1_, hb3_, hb5_, hb6_, hb8_, hb9_, hb10_, hb11_, hb12_, hb13_, if_true, Act.put, List.setIfInBounds_toArray, List.set_cons_zero, List.set_cons_succ]
      clear Q_BK302
      clear Q_HI305
      have HB := aS_ Q_HB
      clear Q_HB
      have HO308 := aS_ (Q_HO308 hb1_)
      clear Q_HO308
      clear Q_HI305_e1
      clear Q_HI305_e3
      clear Q_HI305_e5
      have HO316 := aS_ (Q_HO316 hb6_)
      clear Q_HO316
      have HA_HO316 := aS_ (Q_HA_HO316 hb6_)
      clear Q_HA_HO316
      have HI305 := aS_ (Q_HI305_e8 hb8_)
      clear Q_HI305_e8
      have BK302 := aS_ (Q_BK302_e11 hb11_)
      clear Q_BK302_e11
      clear hall hb1_ hb3_ hb5_ hb6_ hb8_ hb9_ hb10_ hb11_ hb12_ hb13_
      obtain ⟨co22, eo22⟩ := HA_HO316.out
      clear HA_HO316
      subst eo22
      try go_wp2
      refine bodyPost_ret (results_ctt rfl _ _ gb302 25 #[v307] (0, 0) _ rfl (by (with_reducible repeat (first | refine blk_drewN ?_ _ | refine blk_drew ?_ | refine blk_alloc ?_ _)); exact BK302.out) Try.underlying25 rfl (by kernel_rfl)) rfl ?_
      exact ⟨_, by first | rfl | (simp [errW_none, errW_some] <;> rfl) | (simp [*, errW_none, errW_some] <;> rfl), by (with_reducible repeat (first | apply Kd.R_alloc | apply Kd.R_drewN | apply Kd.R_drew)); exact HO308.out, by repeat (first | (with_reducible first | exact HB.out | apply bA_ | apply bN_ | apply bD_ | refine below_set ?_ (IsS77.ge HI305.out) | refine below_set ?_ GE302.out) | exact HB.out)⟩
    · rw [if_neg c8] at H
      exact absurd H (by simp)
  · rw [if_neg c7] at H
    exact absurd H (by simp)

end Go.Proofs.Ytabihpjgkkmnjaa.GFnMapPut
