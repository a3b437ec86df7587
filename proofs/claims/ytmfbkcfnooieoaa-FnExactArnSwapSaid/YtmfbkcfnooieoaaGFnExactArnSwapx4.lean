/- The functions that the law reaches, as plain Lean functions, and that the machine comes to their answers: laid by a program of this session. Conditions: none. -/
import Derived.Test.YtmfbkcfnooieoaaGFnExactArnSwapx0
import Derived.Test.YtmfbkcfnooieoaaGFnExactArnSwapx3
namespace Go.Proofs.Ytmfbkcfnooieoaa.GFnExactArnSwap
open Go.RowKit Go.Proofs.YtmfbkcfnooieoaaW.PrintWords Go.Proofs.YtmfbkcfnooieoaaW.PrintLast Go.Proofs.YtmfbkcfnooieoaaW.PrintMore
attribute [local go_sem] max2_int min2_int max_two min_two max_three min_three max_four min_four   -- for this text's walks alone
set_option linter.unusedVariables false
set_option linter.unusedSimpArgs false

/-! ### spec_l2Shape: function 56 -/
mutual
def spec_l2Shape.j0 : Nat → Bool → List (S63) → Int → Int → Int → Option (Bool)
  | 0, _, _, _, _, _ => none
  | k + 1, x47, x154000, x154001, x154002, x154003 => if x47 = true then (some false) else (spec_l2Shape.l0 k 0 x154000 x154001 x154002 x154003)
def spec_l2Shape.l0 : Nat → Int → List (S63) → Int → Int → Int → Option (Bool)
  | 0, _, _, _, _, _ => none
  | k + 1, x3, x154000, x154001, x154002, x154003 => if x3 ≤ 9 then (if 0 ≤ x3 then (if x3 < (x154000.length : Int) then ((spec_l2Node.f ((rd_T63 x154000 x3).f0) ((rd_T63 x154000 x3).f1) ((rd_T63 x154000 x3).f2) ((rd_T63 x154000 x3).f3) ((rd_T63 x154000 x3).f4) ((rd_T63 x154000 x3).f5)).bind fun t161 => (if t161 = true then (spec_l2Shape.l0 k (wrap64 (x3 + 1)) x154000 x154001 x154002 x154003) else (some false))) else (none)) else (none)) else ((spec_l1In.f x154001 0 9).bind fun t162 => (if t162 = true then ((spec_l1In.f x154002 1 9).bind fun t163 => (if t163 = true then ((spec_l1In.f x154003 1 9).bind fun t164 => (some t164)) else (some false))) else (some false)))
end
def spec_l2Shape.f (k : Nat) (l0_0 : List (S63)) (a0_1 : Int) (a0_2 : Int) (a0_3 : Int) : Option (Bool) := if (l0_0.length : Int) = 10 then (if 0 < (l0_0.length : Int) then (if ((rd_T63 l0_0 0).f4 = true) then (if ((rd_T63 l0_0 0).f5) = 0 then (if ((rd_T63 l0_0 0).f0) = 0 then (if ((rd_T63 l0_0 0).f1) = 0 then ((spec_WrdMark.f ((rd_T63 l0_0 0).f2)).bind fun t159 => (spec_l2Shape.j0 k t159 l0_0 a0_1 a0_2 a0_3)) else (spec_l2Shape.j0 k true l0_0 a0_1 a0_2 a0_3)) else (spec_l2Shape.j0 k true l0_0 a0_1 a0_2 a0_3)) else (spec_l2Shape.j0 k true l0_0 a0_1 a0_2 a0_3)) else (spec_l2Shape.j0 k true l0_0 a0_1 a0_2 a0_3)) else (none)) else (spec_l2Shape.j0 k true l0_0 a0_1 a0_2 a0_3)
theorem spec_l2Shape.mono_l : ∀ k, (∀ y0 y1 y2 y3 y4, LeO (spec_l2Shape.j0 k y0 y1 y2 y3 y4) (spec_l2Shape.j0 (k + 1) y0 y1 y2 y3 y4)) ∧ (∀ y0 y1 y2 y3 y4, LeO (spec_l2Shape.l0 k y0 y1 y2 y3 y4) (spec_l2Shape.l0 (k + 1) y0 y1 y2 y3 y4))
  | 0 => ⟨fun _ _ _ _ _ r h => by simp [spec_l2Shape.j0] at h, fun _ _ _ _ _ r h => by simp [spec_l2Shape.l0] at h⟩
  | k + 1 => by
    obtain ⟨ih0, ih1⟩ := spec_l2Shape.mono_l k
    refine ⟨?_, ?_⟩
    · intro y0 y1 y2 y3 y4
      unfold spec_l2Shape.j0
      repeat' first
      | (with_reducible exact ih0 _ _ _ _ _)
      | (with_reducible exact ih1 _ _ _ _ _)
      | (with_reducible exact LeO.refl _)
      | (with_reducible exact LeO.none _)
      | (with_reducible refine LeO.ite ?_ ?_)
      | (with_reducible refine LeO.bind ?_ (fun _ => ?_))
      | exact ih0 _ _ _ _ _
      | exact ih1 _ _ _ _ _
      | exact LeO.none _
      | refine LeO.ite ?_ ?_
      | refine LeO.bind ?_ (fun _ => ?_)
    · intro y0 y1 y2 y3 y4
      unfold spec_l2Shape.l0
      repeat' first
      | (with_reducible exact ih0 _ _ _ _ _)
      | (with_reducible exact ih1 _ _ _ _ _)
      | (with_reducible exact LeO.refl _)
      | (with_reducible exact LeO.none _)
      | (with_reducible refine LeO.ite ?_ ?_)
      | (with_reducible refine LeO.bind ?_ (fun _ => ?_))
      | exact ih0 _ _ _ _ _
      | exact ih1 _ _ _ _ _
      | exact LeO.none _
      | refine LeO.ite ?_ ?_
      | refine LeO.bind ?_ (fun _ => ?_)
theorem spec_l2Shape.mono : ∀ a0 a1 a2 a3 k, LeO (spec_l2Shape.f k a0 a1 a2 a3) (spec_l2Shape.f (k + 1) a0 a1 a2 a3) := by
  intro a0 a1 a2 a3 k
  obtain ⟨ih0, ih1⟩ := spec_l2Shape.mono_l k
  unfold spec_l2Shape.f
  repeat' first
      | (with_reducible exact ih0 _ _ _ _ _)
      | (with_reducible exact ih1 _ _ _ _ _)
      | (with_reducible exact LeO.refl _)
      | (with_reducible exact LeO.none _)
      | (with_reducible refine LeO.ite ?_ ?_)
      | (with_reducible refine LeO.bind ?_ (fun _ => ?_))
      | exact ih0 _ _ _ _ _
      | exact ih1 _ _ _ _ _
      | exact LeO.none _
      | refine LeO.ite ?_ ?_
      | refine LeO.bind ?_ (fun _ => ?_)
set_option maxHeartbeats 8000000 in
set_option maxRecDepth 100000 in
theorem spec_l2Shape.calls (k : Nat) (A0_0 : Option Addr) (c0_0 : Nat) (l0_0 : List (S63)) (a0_1 : Int) (a0_2 : Int) (a0_3 : Int) (r : Bool) (w : World) (hr0_0 : Kd.C k63 w A0_0 l0_0.length l0_0) (hc0_0 : l0_0.length ≤ c0_0) (h : spec_l2Shape.f k l0_0 a0_1 a0_2 a0_3 = some r) :
    Calls Try.prog 56 #[.agg #[.slice A0_0 l0_0.length c0_0, .int .i64 a0_1, .int .i64 a0_2, .int .i64 a0_3]] w fun e w' => e = .returned (.bool r) ∧ Below w.heap.size w w' := by
  have hu24 := Try.underlying24
  have hu63 := Try.underlying63
  have HR0_0 := Aside0.mk hr0_0
  have HC0_0 := Aside0.mk hc0_0
  clear hr0_0 hc0_0
  have HB := Aside0.mk (Below.refl w.heap.size w)
  have H : (if (l0_0.length : Int) = 10 then (if 0 < (l0_0.length : Int) then (if ((rd_T63 l0_0 0).f4 = true) then (if ((rd_T63 l0_0 0).f5) = 0 then (if ((rd_T63 l0_0 0).f0) = 0 then (if ((rd_T63 l0_0 0).f1) = 0 then ((spec_WrdMark.f ((rd_T63 l0_0 0).f2)).bind fun t159 => (spec_l2Shape.j0 k t159 l0_0 a0_1 a0_2 a0_3)) else (spec_l2Shape.j0 k true l0_0 a0_1 a0_2 a0_3)) else (spec_l2Shape.j0 k true l0_0 a0_1 a0_2 a0_3)) else (spec_l2Shape.j0 k true l0_0 a0_1 a0_2 a0_3)) else (spec_l2Shape.j0 k true l0_0 a0_1 a0_2 a0_3)) else (none)) else (spec_l2Shape.j0 k true l0_0 a0_1 a0_2 a0_3)) = some r := h
  clear h
  have HC2 := Aside0.mk H
  clear H
  go_enter Try.func56, Try.ntmps56
  go_upto_region 1 with (first | ((with_reducible refine gate_dst (N := 1) rfl ?_); refine box_event ?hg (N := 1) ?hd (cs := #[.slice A0_0 l0_0.length c0_0, .int .i64 a0_1, .int .i64 a0_2, .int .i64 a0_3]) (t := 24) ?hr ?_; (case hd => rfl); (case hg => rfl); (case hr => first | (go_simp; done) | (go_simp; rfl)); intro gb153 hg w3 hbox hb; have n0_ := Aside0.mk (below_step (by repeat (first | (with_reducible first | exact HB.out | apply below_alloc | apply pw_below_drewN | apply below_drew1) | exact HB.out)) hb); have n1_ := Aside0.mk (hbox); have n2_ := Aside0.mk ((by rw [hg]; exact (below_size (by repeat (first | (with_reducible first | exact HB.out | apply below_alloc | apply pw_below_drewN | apply below_drew1) | exact HB.out))) : w.heap.size ≤ gb153)); have n3_ := Aside0.mk ((by rw [hg]; exact (below_size (by repeat (first | (with_reducible first | exact HB.out | apply below_alloc | apply pw_below_drewN | apply below_drew1) | exact HB.out))) : w.heap.size ≤ gb153)); clear HB; have HB := n0_; have BK153 := n1_; have GW153 := n2_; have GE153 := n3_; clear n0_ n1_ n2_ n3_; clear hb hbox hg))
  (try simp only [Act.put, List.setIfInBounds_toArray, List.set_cons_zero, List.set_cons_succ])
  go_cut [47] (fun v47 wc => ∃ (kq : Nat) (x47_1 : Bool), v47 = .bool x47_1 ∧ Aside0 (spec_l2Shape.j0 kq x47_1 l0_0 a0_1 a0_2 a0_3 = some r) ∧ Aside0 (kq ≤ k) ∧ Aside0 (wc.heap[gb153]? = some (.cells #[(.slice A0_0 l0_0.length c0_0), .int .i64 a0_1, .int .i64 a0_2, .int .i64 a0_3] 24 (0, 0))) ∧ Aside0 (Below w.heap.size w wc))
  case first =>
    have H := HC2.out
    clear HC2
    by_cases c4 : (l0_0.length : Int) = 10
    · rw [if_pos c4] at H
      have c4b0 : ((l0_0.length : Int) == 10) = true := beq_iff_eq.mpr c4
      have c4b1 : ((l0_0.length : Int) != 10) = false := bne_eq_false_iff_eq.mpr c4
      clear c4
      (first | rw [c4b0] | (simp only [i64_w, i32_w]; rw [c4b0]) | skip)
      by_cases c5 : 0 < (l0_0.length : Int)
      · rw [if_pos c5] at H
        have c5b0 : decide (0 < (l0_0.length : Int)) = true := decide_eq_true c5
        have c5b1 : decide (0 < l0_0.length) = true := decide_eq_true (by omega)
        clear c5
        obtain ⟨bq6, hbq6⟩ : ∃ b_ : Bool, b_ = ((rd_T63 l0_0 0).f4) := ⟨_, rfl⟩
        replace H : (if (bq6 = true) then (if ((rd_T63 l0_0 0).f5) = 0 then (if ((rd_T63 l0_0 0).f0) = 0 then (if ((rd_T63 l0_0 0).f1) = 0 then ((spec_WrdMark.f ((rd_T63 l0_0 0).f2)).bind fun t159 => (spec_l2Shape.j0 k t159 l0_0 a0_1 a0_2 a0_3)) else (spec_l2Shape.j0 k true l0_0 a0_1 a0_2 a0_3)) else (spec_l2Shape.j0 k true l0_0 a0_1 a0_2 a0_3)) else (spec_l2Shape.j0 k true l0_0 a0_1 a0_2 a0_3)) else (spec_l2Shape.j0 k true l0_0 a0_1 a0_2 a0_3)) = some r := by rw [← hbq6] at H; exact H
        have Nbq6 := Aside0.mk hbq6
        clear hbq6
        by_cases c7 : (bq6 = true)
        · subst c7
          have H1 : (if ((rd_T63 l0_0 0).f5) = 0 then (if ((rd_T63 l0_0 0).f0) = 0 then (if ((rd_T63 l0_0 0).f1) = 0 then ((spec_WrdMark.f ((rd_T63 l0_0 0).f2)).bind fun t159 => (spec_l2Shape.j0 k t159 l0_0 a0_1 a0_2 a0_3)) else (spec_l2Shape.j0 k true l0_0 a0_1 a0_2 a0_3)) else (spec_l2Shape.j0 k true l0_0 a0_1 a0_2 a0_3)) else (spec_l2Shape.j0 k true l0_0 a0_1 a0_2 a0_3)) = some r := by rw [if_pos rfl] at H; exact H
          clear H
          have H := H1
          clear H1
          by_cases c8 : ((rd_T63 l0_0 0).f5) = 0
          · rw [if_pos c8] at H
            have c8b0 : (((rd_T63 l0_0 0).f5) == 0) = true := beq_iff_eq.mpr c8
            have c8b1 : (((rd_T63 l0_0 0).f5) != 0) = false := bne_eq_false_iff_eq.mpr c8
            clear c8
            by_cases c9 : ((rd_T63 l0_0 0).f0) = 0
            · rw [if_pos c9] at H
              have c9b0 : (((rd_T63 l0_0 0).f0) == 0) = true := beq_iff_eq.mpr c9
              have c9b1 : (((rd_T63 l0_0 0).f0) != 0) = false := bne_eq_false_iff_eq.mpr c9
              clear c9
              by_cases c10 : ((rd_T63 l0_0 0).f1) = 0
              · rw [if_pos c10] at H
                have c10b0 : (((rd_T63 l0_0 0).f1) == 0) = true := beq_iff_eq.mpr c10
                have c10b1 : (((rd_T63 l0_0 0).f1) != 0) = false := bne_eq_false_iff_eq.mpr c10
                clear c10
                replace H := Option.bind_eq_some_iff.mp H
                obtain ⟨t159, A110, H⟩ := H
                replace H : (spec_l2Shape.j0 k t159 l0_0 a0_1 a0_2 a0_3) = some r := H
                have A11 := Aside0.mk A110
                clear A110
                have H' := Aside0.mk H
                clear H
                have hcz12_0 : w3.cell? ⟨gb153, 0, none⟩ = some (.slice A0_0 l0_0.length c0_0) := (blk_cell BK153.out 0).trans rfl
                have hcz12_1 : w3.cell? ⟨gb153, 1, none⟩ = some (.int .i64 a0_1) := (blk_cell BK153.out 1).trans rfl
                have hcz12_2 : w3.cell? ⟨gb153, 2, none⟩ = some (.int .i64 a0_2) := (blk_cell BK153.out 2).trans rfl
                have hcz12_3 : w3.cell? ⟨gb153, 3, none⟩ = some (.int .i64 a0_3) := (blk_cell BK153.out 3).trans rfl
                have hfz12_0 := blk_frozen BK153.out 0
                have hfz12_1 := blk_frozen BK153.out 1
                have hfz12_2 := blk_frozen BK153.out 2
                have hfz12_3 := blk_frozen BK153.out 3
                have p154 : 0 ≤ (0 : Int) := (by omega)
                have q154 : 0 < (l0_0.length : Int) := of_decide_eq_true (by first | (with_reducible assumption) | assumption)
                obtain ⟨ad154, e154, hx154_0, hx154_1, hx154_2, hx154_3, hx154_4, hx154_5⟩ := at_T63 HR0_0.out 0 p154 q154
                (try rw [← Nbq6.out] at hx154_4)
                cases e154
                have qi154 : (0 < l0_0.length) = True := eq_true (by omega)
                (try rw [show ((0 : Int)).toNat = 0 from rfl] at hx154_0)
                (try rw [show 0 * 6 = 0 from rfl] at hx154_0)
                (try rw [Addr.add_zero'] at hx154_0)
                (try rw [show ((0 : Int)).toNat = 0 from rfl] at hx154_1)
                (try rw [show 0 * 6 = 0 from rfl] at hx154_1)
                (try rw [Addr.add_zero'] at hx154_1)
                (try rw [show ((0 : Int)).toNat = 0 from rfl] at hx154_2)
                (try rw [show 0 * 6 = 0 from rfl] at hx154_2)
                (try rw [Addr.add_zero'] at hx154_2)
                (try rw [show ((0 : Int)).toNat = 0 from rfl] at hx154_3)
                (try rw [show 0 * 6 = 0 from rfl] at hx154_3)
                (try rw [Addr.add_zero'] at hx154_3)
                (try rw [show ((0 : Int)).toNat = 0 from rfl] at hx154_4)
                (try rw [show 0 * 6 = 0 from rfl] at hx154_4)
                (try rw [Addr.add_zero'] at hx154_4)
                (try rw [show ((0 : Int)).toNat = 0 from rfl] at hx154_5)
                (try rw [show 0 * 6 = 0 from rfl] at hx154_5)
                (try rw [Addr.add_zero'] at hx154_5)
                replace hx154_0 := (HB.out.cell (World.block_lt_of_cell? w _ hx154_0)).trans hx154_0
                replace hx154_1 := (HB.out.cell (World.block_lt_of_cell? w _ hx154_1)).trans hx154_1
                replace hx154_2 := (HB.out.cell (World.block_lt_of_cell? w _ hx154_2)).trans hx154_2
                replace hx154_3 := (HB.out.cell (World.block_lt_of_cell? w _ hx154_3)).trans hx154_3
                replace hx154_4 := (HB.out.cell (World.block_lt_of_cell? w _ hx154_4)).trans hx154_4
                replace hx154_5 := (HB.out.cell (World.block_lt_of_cell? w _ hx154_5)).trans hx154_5
                replace p154 := eq_true p154
                replace q154 := eq_true q154
                have p155 : 0 ≤ (0 : Int) := (by omega)
                have q155 : 0 < (l0_0.length : Int) := of_decide_eq_true (by first | (with_reducible assumption) | assumption)
                obtain ⟨ad155, e155, hx155_0, hx155_1, hx155_2, hx155_3, hx155_4, hx155_5⟩ := at_T63 HR0_0.out 0 p155 q155
                (try rw [← Nbq6.out] at hx155_4)
                obtain rfl : ad154 = ad155 := (by injection e155)
                have qi155 : (0 < l0_0.length) = True := eq_true (by omega)
                (try rw [show ((0 : Int)).toNat = 0 from rfl] at hx155_0)
                (try rw [show 0 * 6 = 0 from rfl] at hx155_0)
                (try rw [Addr.add_zero'] at hx155_0)
                (try rw [show ((0 : Int)).toNat = 0 from rfl] at hx155_1)
                (try rw [show 0 * 6 = 0 from rfl] at hx155_1)
                (try rw [Addr.add_zero'] at hx155_1)
                (try rw [show ((0 : Int)).toNat = 0 from rfl] at hx155_2)
                (try rw [show 0 * 6 = 0 from rfl] at hx155_2)
                (try rw [Addr.add_zero'] at hx155_2)
                (try rw [show ((0 : Int)).toNat = 0 from rfl] at hx155_3)
                (try rw [show 0 * 6 = 0 from rfl] at hx155_3)
                (try rw [Addr.add_zero'] at hx155_3)
                (try rw [show ((0 : Int)).toNat = 0 from rfl] at hx155_4)
                (try rw [show 0 * 6 = 0 from rfl] at hx155_4)
                (try rw [Addr.add_zero'] at hx155_4)
                (try rw [show ((0 : Int)).toNat = 0 from rfl] at hx155_5)
                (try rw [show 0 * 6 = 0 from rfl] at hx155_5)
                (try rw [Addr.add_zero'] at hx155_5)
                replace hx155_0 := (HB.out.cell (World.block_lt_of_cell? w _ hx155_0)).trans hx155_0
                replace hx155_1 := (HB.out.cell (World.block_lt_of_cell? w _ hx155_1)).trans hx155_1
                replace hx155_2 := (HB.out.cell (World.block_lt_of_cell? w _ hx155_2)).trans hx155_2
                replace hx155_3 := (HB.out.cell (World.block_lt_of_cell? w _ hx155_3)).trans hx155_3
                replace hx155_4 := (HB.out.cell (World.block_lt_of_cell? w _ hx155_4)).trans hx155_4
                replace hx155_5 := (HB.out.cell (World.block_lt_of_cell? w _ hx155_5)).trans hx155_5
                replace p155 := eq_true p155
                replace q155 := eq_true q155
                have p156 : 0 ≤ (0 : Int) := (by omega)
                have q156 : 0 < (l0_0.length : Int) := of_decide_eq_true (by first | (with_reducible assumption) | assumption)
                obtain ⟨ad156, e156, hx156_0, hx156_1, hx156_2, hx156_3, hx156_4, hx156_5⟩ := at_T63 HR0_0.out 0 p156 q156
                (try rw [← Nbq6.out] at hx156_4)
                obtain rfl : ad154 = ad156 := (by injection e156)
                have qi156 : (0 < l0_0.length) = True := eq_true (by omega)
                (try rw [show ((0 : Int)).toNat = 0 from rfl] at hx156_0)
                (try rw [show 0 * 6 = 0 from rfl] at hx156_0)
                (try rw [Addr.add_zero'] at hx156_0)
                (try rw [show ((0 : Int)).toNat = 0 from rfl] at hx156_1)
                (try rw [show 0 * 6 = 0 from rfl] at hx156_1)
                (try rw [Addr.add_zero'] at hx156_1)
                (try rw [show ((0 : Int)).toNat = 0 from rfl] at hx156_2)
                (try rw [show 0 * 6 = 0 from rfl] at hx156_2)
                (try rw [Addr.add_zero'] at hx156_2)
                (try rw [show ((0 : Int)).toNat = 0 from rfl] at hx156_3)
                (try rw [show 0 * 6 = 0 from rfl] at hx156_3)
                (try rw [Addr.add_zero'] at hx156_3)
                (try rw [show ((0 : Int)).toNat = 0 from rfl] at hx156_4)
                (try rw [show 0 * 6 = 0 from rfl] at hx156_4)
                (try rw [Addr.add_zero'] at hx156_4)
                (try rw [show ((0 : Int)).toNat = 0 from rfl] at hx156_5)
                (try rw [show 0 * 6 = 0 from rfl] at hx156_5)
                (try rw [Addr.add_zero'] at hx156_5)
                replace hx156_0 := (HB.out.cell (World.block_lt_of_cell? w _ hx156_0)).trans hx156_0
                replace hx156_1 := (HB.out.cell (World.block_lt_of_cell? w _ hx156_1)).trans hx156_1
                replace hx156_2 := (HB.out.cell (World.block_lt_of_cell? w _ hx156_2)).trans hx156_2
                replace hx156_3 := (HB.out.cell (World.block_lt_of_cell? w _ hx156_3)).trans hx156_3
                replace hx156_4 := (HB.out.cell (World.block_lt_of_cell? w _ hx156_4)).trans hx156_4
                replace hx156_5 := (HB.out.cell (World.block_lt_of_cell? w _ hx156_5)).trans hx156_5
                replace p156 := eq_true p156
                replace q156 := eq_true q156
                have p157 : 0 ≤ (0 : Int) := (by omega)
                have q157 : 0 < (l0_0.length : Int) := of_decide_eq_true (by first | (with_reducible assumption) | assumption)
                obtain ⟨ad157, e157, hx157_0, hx157_1, hx157_2, hx157_3, hx157_4, hx157_5⟩ := at_T63 HR0_0.out 0 p157 q157
                (try rw [← Nbq6.out] at hx157_4)
                obtain rfl : ad154 = ad157 := (by injection e157)
                have qi157 : (0 < l0_0.length) = True := eq_true (by omega)
                (try rw [show ((0 : Int)).toNat = 0 from rfl] at hx157_0)
                (try rw [show 0 * 6 = 0 from rfl] at hx157_0)
                (try rw [Addr.add_zero'] at hx157_0)
                (try rw [show ((0 : Int)).toNat = 0 from rfl] at hx157_1)
                (try rw [show 0 * 6 = 0 from rfl] at hx157_1)
                (try rw [Addr.add_zero'] at hx157_1)
                (try rw [show ((0 : Int)).toNat = 0 from rfl] at hx157_2)
                (try rw [show 0 * 6 = 0 from rfl] at hx157_2)
                (try rw [Addr.add_zero'] at hx157_2)
                (try rw [show ((0 : Int)).toNat = 0 from rfl] at hx157_3)
                (try rw [show 0 * 6 = 0 from rfl] at hx157_3)
                (try rw [Addr.add_zero'] at hx157_3)
                (try rw [show ((0 : Int)).toNat = 0 from rfl] at hx157_4)
                (try rw [show 0 * 6 = 0 from rfl] at hx157_4)
                (try rw [Addr.add_zero'] at hx157_4)
                (try rw [show ((0 : Int)).toNat = 0 from rfl] at hx157_5)
                (try rw [show 0 * 6 = 0 from rfl] at hx157_5)
                (try rw [Addr.add_zero'] at hx157_5)
                replace hx157_0 := (HB.out.cell (World.block_lt_of_cell? w _ hx157_0)).trans hx157_0
                replace hx157_1 := (HB.out.cell (World.block_lt_of_cell? w _ hx157_1)).trans hx157_1
                replace hx157_2 := (HB.out.cell (World.block_lt_of_cell? w _ hx157_2)).trans hx157_2
                replace hx157_3 := (HB.out.cell (World.block_lt_of_cell? w _ hx157_3)).trans hx157_3
                replace hx157_4 := (HB.out.cell (World.block_lt_of_cell? w _ hx157_4)).trans hx157_4
                replace hx157_5 := (HB.out.cell (World.block_lt_of_cell? w _ hx157_5)).trans hx157_5
                replace p157 := eq_true p157
                replace q157 := eq_true q157
                have p158 : 0 ≤ (0 : Int) := (by omega)
                have q158 : 0 < (l0_0.length : Int) := of_decide_eq_true (by first | (with_reducible assumption) | assumption)
                obtain ⟨ad158, e158, hx158_0, hx158_1, hx158_2, hx158_3, hx158_4, hx158_5⟩ := at_T63 HR0_0.out 0 p158 q158
                (try rw [← Nbq6.out] at hx158_4)
                obtain rfl : ad154 = ad158 := (by injection e158)
                have qi158 : (0 < l0_0.length) = True := eq_true (by omega)
                (try rw [show ((0 : Int)).toNat = 0 from rfl] at hx158_0)
                (try rw [show 0 * 6 = 0 from rfl] at hx158_0)
                (try rw [Addr.add_zero'] at hx158_0)
                (try rw [show ((0 : Int)).toNat = 0 from rfl] at hx158_1)
                (try rw [show 0 * 6 = 0 from rfl] at hx158_1)
                (try rw [Addr.add_zero'] at hx158_1)
                (try rw [show ((0 : Int)).toNat = 0 from rfl] at hx158_2)
                (try rw [show 0 * 6 = 0 from rfl] at hx158_2)
                (try rw [Addr.add_zero'] at hx158_2)
                (try rw [show ((0 : Int)).toNat = 0 from rfl] at hx158_3)
                (try rw [show 0 * 6 = 0 from rfl] at hx158_3)
                (try rw [Addr.add_zero'] at hx158_3)
                (try rw [show ((0 : Int)).toNat = 0 from rfl] at hx158_4)
                (try rw [show 0 * 6 = 0 from rfl] at hx158_4)
                (try rw [Addr.add_zero'] at hx158_4)
                (try rw [show ((0 : Int)).toNat = 0 from rfl] at hx158_5)
                (try rw [show 0 * 6 = 0 from rfl] at hx158_5)
                (try rw [Addr.add_zero'] at hx158_5)
                replace hx158_0 := (HB.out.cell (World.block_lt_of_cell? w _ hx158_0)).trans hx158_0
                replace hx158_1 := (HB.out.cell (World.block_lt_of_cell? w _ hx158_1)).trans hx158_1
                replace hx158_2 := (HB.out.cell (World.block_lt_of_cell? w _ hx158_2)).trans hx158_2
                replace hx158_3 := (HB.out.cell (World.block_lt_of_cell? w _ hx158_3)).trans hx158_3
                replace hx158_4 := (HB.out.cell (World.block_lt_of_cell? w _ hx158_4)).trans hx158_4
                replace hx158_5 := (HB.out.cell (World.block_lt_of_cell? w _ hx158_5)).trans hx158_5
                replace p158 := eq_true p158
                replace q158 := eq_true q158
                go_wp2_with (first | (go_at_call 67; (with_reducible refine (spec_WrdMark.calls ((rd_T63 l0_0 0).f2) t159 _ A11.out).mono ?_); rintro e w' ⟨rfl, ⟨nd, rfl⟩⟩))
                go_meet
                case rel => exact ⟨_, (t159), (by first | rfl | (simp; done) | (simp [*]; done)), H', ⟨by first | omega | exact Nat.le_refl _⟩, ⟨by (with_reducible repeat (first | refine blk_drewN ?_ _ | refine blk_drew ?_ | refine blk_alloc ?_ _)); exact BK153.out⟩, ⟨by repeat (first | (with_reducible first | exact HB.out | apply below_alloc | apply pw_below_drewN | apply below_drew1 | refine below_set ?_ GE153.out) | exact HB.out)⟩⟩
              · rw [if_neg c10] at H
                have c10b0 : (((rd_T63 l0_0 0).f1) == 0) = false := beq_eq_false_iff_ne.mpr c10
                have c10b1 : (((rd_T63 l0_0 0).f1) != 0) = true := bne_iff_ne.mpr c10
                have H' := Aside0.mk H
                clear H
                have hcz13_0 : w3.cell? ⟨gb153, 0, none⟩ = some (.slice A0_0 l0_0.length c0_0) := (blk_cell BK153.out 0).trans rfl
                have hcz13_1 : w3.cell? ⟨gb153, 1, none⟩ = some (.int .i64 a0_1) := (blk_cell BK153.out 1).trans rfl
                have hcz13_2 : w3.cell? ⟨gb153, 2, none⟩ = some (.int .i64 a0_2) := (blk_cell BK153.out 2).trans rfl
                have hcz13_3 : w3.cell? ⟨gb153, 3, none⟩ = some (.int .i64 a0_3) := (blk_cell BK153.out 3).trans rfl
                have hfz13_0 := blk_frozen BK153.out 0
                have hfz13_1 := blk_frozen BK153.out 1
                have hfz13_2 := blk_frozen BK153.out 2
                have hfz13_3 := blk_frozen BK153.out 3
                have p154 : 0 ≤ (0 : Int) := (by omega)
                have q154 : 0 < (l0_0.length : Int) := of_decide_eq_true (by first | (with_reducible assumption) | assumption)
                obtain ⟨ad154, e154, hx154_0, hx154_1, hx154_2, hx154_3, hx154_4, hx154_5⟩ := at_T63 HR0_0.out 0 p154 q154
                (try rw [← Nbq6.out] at hx154_4)
                cases e154
                have qi154 : (0 < l0_0.length) = True := eq_true (by omega)
                (try rw [show ((0 : Int)).toNat = 0 from rfl] at hx154_0)
                (try rw [show 0 * 6 = 0 from rfl] at hx154_0)
                (try rw [Addr.add_zero'] at hx154_0)
                (try rw [show ((0 : Int)).toNat = 0 from rfl] at hx154_1)
                (try rw [show 0 * 6 = 0 from rfl] at hx154_1)
                (try rw [Addr.add_zero'] at hx154_1)
                (try rw [show ((0 : Int)).toNat = 0 from rfl] at hx154_2)
                (try rw [show 0 * 6 = 0 from rfl] at hx154_2)
                (try rw [Addr.add_zero'] at hx154_2)
                (try rw [show ((0 : Int)).toNat = 0 from rfl] at hx154_3)
                (try rw [show 0 * 6 = 0 from rfl] at hx154_3)
                (try rw [Addr.add_zero'] at hx154_3)
                (try rw [show ((0 : Int)).toNat = 0 from rfl] at hx154_4)
                (try rw [show 0 * 6 = 0 from rfl] at hx154_4)
                (try rw [Addr.add_zero'] at hx154_4)
                (try rw [show ((0 : Int)).toNat = 0 from rfl] at hx154_5)
                (try rw [show 0 * 6 = 0 from rfl] at hx154_5)
                (try rw [Addr.add_zero'] at hx154_5)
                replace hx154_0 := (HB.out.cell (World.block_lt_of_cell? w _ hx154_0)).trans hx154_0
                replace hx154_1 := (HB.out.cell (World.block_lt_of_cell? w _ hx154_1)).trans hx154_1
                replace hx154_2 := (HB.out.cell (World.block_lt_of_cell? w _ hx154_2)).trans hx154_2
                replace hx154_3 := (HB.out.cell (World.block_lt_of_cell? w _ hx154_3)).trans hx154_3
                replace hx154_4 := (HB.out.cell (World.block_lt_of_cell? w _ hx154_4)).trans hx154_4
                replace hx154_5 := (HB.out.cell (World.block_lt_of_cell? w _ hx154_5)).trans hx154_5
                replace p154 := eq_true p154
                replace q154 := eq_true q154
                have p155 : 0 ≤ (0 : Int) := (by omega)
                have q155 : 0 < (l0_0.length : Int) := of_decide_eq_true (by first | (with_reducible assumption) | assumption)
                obtain ⟨ad155, e155, hx155_0, hx155_1, hx155_2, hx155_3, hx155_4, hx155_5⟩ := at_T63 HR0_0.out 0 p155 q155
                (try rw [← Nbq6.out] at hx155_4)
                obtain rfl : ad154 = ad155 := (by injection e155)
                have qi155 : (0 < l0_0.length) = True := eq_true (by omega)
                (try rw [show ((0 : Int)).toNat = 0 from rfl] at hx155_0)
                (try rw [show 0 * 6 = 0 from rfl] at hx155_0)
                (try rw [Addr.add_zero'] at hx155_0)
                (try rw [show ((0 : Int)).toNat = 0 from rfl] at hx155_1)
                (try rw [show 0 * 6 = 0 from rfl] at hx155_1)
                (try rw [Addr.add_zero'] at hx155_1)
                (try rw [show ((0 : Int)).toNat = 0 from rfl] at hx155_2)
                (try rw [show 0 * 6 = 0 from rfl] at hx155_2)
                (try rw [Addr.add_zero'] at hx155_2)
                (try rw [show ((0 : Int)).toNat = 0 from rfl] at hx155_3)
                (try rw [show 0 * 6 = 0 from rfl] at hx155_3)
                (try rw [Addr.add_zero'] at hx155_3)
                (try rw [show ((0 : Int)).toNat = 0 from rfl] at hx155_4)
                (try rw [show 0 * 6 = 0 from rfl] at hx155_4)
                (try rw [Addr.add_zero'] at hx155_4)
                (try rw [show ((0 : Int)).toNat = 0 from rfl] at hx155_5)
                (try rw [show 0 * 6 = 0 from rfl] at hx155_5)
                (try rw [Addr.add_zero'] at hx155_5)
                replace hx155_0 := (HB.out.cell (World.block_lt_of_cell? w _ hx155_0)).trans hx155_0
                replace hx155_1 := (HB.out.cell (World.block_lt_of_cell? w _ hx155_1)).trans hx155_1
                replace hx155_2 := (HB.out.cell (World.block_lt_of_cell? w _ hx155_2)).trans hx155_2
                replace hx155_3 := (HB.out.cell (World.block_lt_of_cell? w _ hx155_3)).trans hx155_3
                replace hx155_4 := (HB.out.cell (World.block_lt_of_cell? w _ hx155_4)).trans hx155_4
                replace hx155_5 := (HB.out.cell (World.block_lt_of_cell? w _ hx155_5)).trans hx155_5
                replace p155 := eq_true p155
                replace q155 := eq_true q155
                have p156 : 0 ≤ (0 : Int) := (by omega)
                have q156 : 0 < (l0_0.length : Int) := of_decide_eq_true (by first | (with_reducible assumption) | assumption)
                obtain ⟨ad156, e156, hx156_0, hx156_1, hx156_2, hx156_3, hx156_4, hx156_5⟩ := at_T63 HR0_0.out 0 p156 q156
                (try rw [← Nbq6.out] at hx156_4)
                obtain rfl : ad154 = ad156 := (by injection e156)
                have qi156 : (0 < l0_0.length) = True := eq_true (by omega)
                (try rw [show ((0 : Int)).toNat = 0 from rfl] at hx156_0)
                (try rw [show 0 * 6 = 0 from rfl] at hx156_0)
                (try rw [Addr.add_zero'] at hx156_0)
                (try rw [show ((0 : Int)).toNat = 0 from rfl] at hx156_1)
                (try rw [show 0 * 6 = 0 from rfl] at hx156_1)
                (try rw [Addr.add_zero'] at hx156_1)
                (try rw [show ((0 : Int)).toNat = 0 from rfl] at hx156_2)
                (try rw [show 0 * 6 = 0 from rfl] at hx156_2)
                (try rw [Addr.add_zero'] at hx156_2)
                (try rw [show ((0 : Int)).toNat = 0 from rfl] at hx156_3)
                (try rw [show 0 * 6 = 0 from rfl] at hx156_3)
                (try rw [Addr.add_zero'] at hx156_3)
                (try rw [show ((0 : Int)).toNat = 0 from rfl] at hx156_4)
                (try rw [show 0 * 6 = 0 from rfl] at hx156_4)
                (try rw [Addr.add_zero'] at hx156_4)
                (try rw [show ((0 : Int)).toNat = 0 from rfl] at hx156_5)
                (try rw [show 0 * 6 = 0 from rfl] at hx156_5)
                (try rw [Addr.add_zero'] at hx156_5)
                replace hx156_0 := (HB.out.cell (World.block_lt_of_cell? w _ hx156_0)).trans hx156_0
                replace hx156_1 := (HB.out.cell (World.block_lt_of_cell? w _ hx156_1)).trans hx156_1
                replace hx156_2 := (HB.out.cell (World.block_lt_of_cell? w _ hx156_2)).trans hx156_2
                replace hx156_3 := (HB.out.cell (World.block_lt_of_cell? w _ hx156_3)).trans hx156_3
                replace hx156_4 := (HB.out.cell (World.block_lt_of_cell? w _ hx156_4)).trans hx156_4
                replace hx156_5 := (HB.out.cell (World.block_lt_of_cell? w _ hx156_5)).trans hx156_5
                replace p156 := eq_true p156
                replace q156 := eq_true q156
                have p157 : 0 ≤ (0 : Int) := (by omega)
                have q157 : 0 < (l0_0.length : Int) := of_decide_eq_true (by first | (with_reducible assumption) | assumption)
                obtain ⟨ad157, e157, hx157_0, hx157_1, hx157_2, hx157_3, hx157_4, hx157_5⟩ := at_T63 HR0_0.out 0 p157 q157
                (try rw [← Nbq6.out] at hx157_4)
                obtain rfl : ad154 = ad157 := (by injection e157)
                have qi157 : (0 < l0_0.length) = True := eq_true (by omega)
                (try rw [show ((0 : Int)).toNat = 0 from rfl] at hx157_0)
                (try rw [show 0 * 6 = 0 from rfl] at hx157_0)
                (try rw [Addr.add_zero'] at hx157_0)
                (try rw [show ((0 : Int)).toNat = 0 from rfl] at hx157_1)
                (try rw [show 0 * 6 = 0 from rfl] at hx157_1)
                (try rw [Addr.add_zero'] at hx157_1)
                (try rw [show ((0 : Int)).toNat = 0 from rfl] at hx157_2)
                (try rw [show 0 * 6 = 0 from rfl] at hx157_2)
                (try rw [Addr.add_zero'] at hx157_2)
                (try rw [show ((0 : Int)).toNat = 0 from rfl] at hx157_3)
                (try rw [show 0 * 6 = 0 from rfl] at hx157_3)
                (try rw [Addr.add_zero'] at hx157_3)
                (try rw [show ((0 : Int)).toNat = 0 from rfl] at hx157_4)
                (try rw [show 0 * 6 = 0 from rfl] at hx157_4)
                (try rw [Addr.add_zero'] at hx157_4)
                (try rw [show ((0 : Int)).toNat = 0 from rfl] at hx157_5)
                (try rw [show 0 * 6 = 0 from rfl] at hx157_5)
                (try rw [Addr.add_zero'] at hx157_5)
                replace hx157_0 := (HB.out.cell (World.block_lt_of_cell? w _ hx157_0)).trans hx157_0
                replace hx157_1 := (HB.out.cell (World.block_lt_of_cell? w _ hx157_1)).trans hx157_1
                replace hx157_2 := (HB.out.cell (World.block_lt_of_cell? w _ hx157_2)).trans hx157_2
                replace hx157_3 := (HB.out.cell (World.block_lt_of_cell? w _ hx157_3)).trans hx157_3
                replace hx157_4 := (HB.out.cell (World.block_lt_of_cell? w _ hx157_4)).trans hx157_4
                replace hx157_5 := (HB.out.cell (World.block_lt_of_cell? w _ hx157_5)).trans hx157_5
                replace p157 := eq_true p157
                replace q157 := eq_true q157
                go_wp2
                go_meet
                case rel => exact ⟨_, (true), (by first | rfl | (simp; done) | (simp [*]; done)), H', ⟨by first | omega | exact Nat.le_refl _⟩, ⟨by (with_reducible repeat (first | refine blk_drewN ?_ _ | refine blk_drew ?_ | refine blk_alloc ?_ _)); exact BK153.out⟩, ⟨by repeat (first | (with_reducible first | exact HB.out | apply below_alloc | apply pw_below_drewN | apply below_drew1 | refine below_set ?_ GE153.out) | exact HB.out)⟩⟩
            · rw [if_neg c9] at H
              have c9b0 : (((rd_T63 l0_0 0).f0) == 0) = false := beq_eq_false_iff_ne.mpr c9
              have c9b1 : (((rd_T63 l0_0 0).f0) != 0) = true := bne_iff_ne.mpr c9
              have H' := Aside0.mk H
              clear H
              have hcz14_0 : w3.cell? ⟨gb153, 0, none⟩ = some (.slice A0_0 l0_0.length c0_0) := (blk_cell BK153.out 0).trans rfl
              have hcz14_1 : w3.cell? ⟨gb153, 1, none⟩ = some (.int .i64 a0_1) := (blk_cell BK153.out 1).trans rfl
              have hcz14_2 : w3.cell? ⟨gb153, 2, none⟩ = some (.int .i64 a0_2) := (blk_cell BK153.out 2).trans rfl
              have hcz14_3 : w3.cell? ⟨gb153, 3, none⟩ = some (.int .i64 a0_3) := (blk_cell BK153.out 3).trans rfl
              have hfz14_0 := blk_frozen BK153.out 0
              have hfz14_1 := blk_frozen BK153.out 1
              have hfz14_2 := blk_frozen BK153.out 2
              have hfz14_3 := blk_frozen BK153.out 3
              have p154 : 0 ≤ (0 : Int) := (by omega)
              have q154 : 0 < (l0_0.length : Int) := of_decide_eq_true (by first | (with_reducible assumption) | assumption)
              obtain ⟨ad154, e154, hx154_0, hx154_1, hx154_2, hx154_3, hx154_4, hx154_5⟩ := at_T63 HR0_0.out 0 p154 q154
              (try rw [← Nbq6.out] at hx154_4)
              cases e154
              have qi154 : (0 < l0_0.length) = True := eq_true (by omega)
              (try rw [show ((0 : Int)).toNat = 0 from rfl] at hx154_0)
              (try rw [show 0 * 6 = 0 from rfl] at hx154_0)
              (try rw [Addr.add_zero'] at hx154_0)
              (try rw [show ((0 : Int)).toNat = 0 from rfl] at hx154_1)
              (try rw [show 0 * 6 = 0 from rfl] at hx154_1)
              (try rw [Addr.add_zero'] at hx154_1)
              (try rw [show ((0 : Int)).toNat = 0 from rfl] at hx154_2)
              (try rw [show 0 * 6 = 0 from rfl] at hx154_2)
              (try rw [Addr.add_zero'] at hx154_2)
              (try rw [show ((0 : Int)).toNat = 0 from rfl] at hx154_3)
              (try rw [show 0 * 6 = 0 from rfl] at hx154_3)
              (try rw [Addr.add_zero'] at hx154_3)
              (try rw [show ((0 : Int)).toNat = 0 from rfl] at hx154_4)
              (try rw [show 0 * 6 = 0 from rfl] at hx154_4)
              (try rw [Addr.add_zero'] at hx154_4)
              (try rw [show ((0 : Int)).toNat = 0 from rfl] at hx154_5)
              (try rw [show 0 * 6 = 0 from rfl] at hx154_5)
              (try rw [Addr.add_zero'] at hx154_5)
              replace hx154_0 := (HB.out.cell (World.block_lt_of_cell? w _ hx154_0)).trans hx154_0
              replace hx154_1 := (HB.out.cell (World.block_lt_of_cell? w _ hx154_1)).trans hx154_1
              replace hx154_2 := (HB.out.cell (World.block_lt_of_cell? w _ hx154_2)).trans hx154_2
              replace hx154_3 := (HB.out.cell (World.block_lt_of_cell? w _ hx154_3)).trans hx154_3
              replace hx154_4 := (HB.out.cell (World.block_lt_of_cell? w _ hx154_4)).trans hx154_4
              replace hx154_5 := (HB.out.cell (World.block_lt_of_cell? w _ hx154_5)).trans hx154_5
              replace p154 := eq_true p154
              replace q154 := eq_true q154
              have p155 : 0 ≤ (0 : Int) := (by omega)
              have q155 : 0 < (l0_0.length : Int) := of_decide_eq_true (by first | (with_reducible assumption) | assumption)
              obtain ⟨ad155, e155, hx155_0, hx155_1, hx155_2, hx155_3, hx155_4, hx155_5⟩ := at_T63 HR0_0.out 0 p155 q155
              (try rw [← Nbq6.out] at hx155_4)
              obtain rfl : ad154 = ad155 := (by injection e155)
              have qi155 : (0 < l0_0.length) = True := eq_true (by omega)
              (try rw [show ((0 : Int)).toNat = 0 from rfl] at hx155_0)
              (try rw [show 0 * 6 = 0 from rfl] at hx155_0)
              (try rw [Addr.add_zero'] at hx155_0)
              (try rw [show ((0 : Int)).toNat = 0 from rfl] at hx155_1)
              (try rw [show 0 * 6 = 0 from rfl] at hx155_1)
              (try rw [Addr.add_zero'] at hx155_1)
              (try rw [show ((0 : Int)).toNat = 0 from rfl] at hx155_2)
              (try rw [show 0 * 6 = 0 from rfl] at hx155_2)
              (try rw [Addr.add_zero'] at hx155_2)
              (try rw [show ((0 : Int)).toNat = 0 from rfl] at hx155_3)
              (try rw [show 0 * 6 = 0 from rfl] at hx155_3)
              (try rw [Addr.add_zero'] at hx155_3)
              (try rw [show ((0 : Int)).toNat = 0 from rfl] at hx155_4)
              (try rw [show 0 * 6 = 0 from rfl] at hx155_4)
              (try rw [Addr.add_zero'] at hx155_4)
              (try rw [show ((0 : Int)).toNat = 0 from rfl] at hx155_5)
              (try rw [show 0 * 6 = 0 from rfl] at hx155_5)
              (try rw [Addr.add_zero'] at hx155_5)
              replace hx155_0 := (HB.out.cell (World.block_lt_of_cell? w _ hx155_0)).trans hx155_0
              replace hx155_1 := (HB.out.cell (World.block_lt_of_cell? w _ hx155_1)).trans hx155_1
              replace hx155_2 := (HB.out.cell (World.block_lt_of_cell? w _ hx155_2)).trans hx155_2
              replace hx155_3 := (HB.out.cell (World.block_lt_of_cell? w _ hx155_3)).trans hx155_3
              replace hx155_4 := (HB.out.cell (World.block_lt_of_cell? w _ hx155_4)).trans hx155_4
              replace hx155_5 := (HB.out.cell (World.block_lt_of_cell? w _ hx155_5)).trans hx155_5
              replace p155 := eq_true p155
              replace q155 := eq_true q155
              have p156 : 0 ≤ (0 : Int) := (by omega)
              have q156 : 0 < (l0_0.length : Int) := of_decide_eq_true (by first | (with_reducible assumption) | assumption)
              obtain ⟨ad156, e156, hx156_0, hx156_1, hx156_2, hx156_3, hx156_4, hx156_5⟩ := at_T63 HR0_0.out 0 p156 q156
              (try rw [← Nbq6.out] at hx156_4)
              obtain rfl : ad154 = ad156 := (by injection e156)
              have qi156 : (0 < l0_0.length) = True := eq_true (by omega)
              (try rw [show ((0 : Int)).toNat = 0 from rfl] at hx156_0)
              (try rw [show 0 * 6 = 0 from rfl] at hx156_0)
              (try rw [Addr.add_zero'] at hx156_0)
              (try rw [show ((0 : Int)).toNat = 0 from rfl] at hx156_1)
              (try rw [show 0 * 6 = 0 from rfl] at hx156_1)
              (try rw [Addr.add_zero'] at hx156_1)
              (try rw [show ((0 : Int)).toNat = 0 from rfl] at hx156_2)
              (try rw [show 0 * 6 = 0 from rfl] at hx156_2)
              (try rw [Addr.add_zero'] at hx156_2)
              (try rw [show ((0 : Int)).toNat = 0 from rfl] at hx156_3)
              (try rw [show 0 * 6 = 0 from rfl] at hx156_3)
              (try rw [Addr.add_zero'] at hx156_3)
              (try rw [show ((0 : Int)).toNat = 0 from rfl] at hx156_4)
              (try rw [show 0 * 6 = 0 from rfl] at hx156_4)
              (try rw [Addr.add_zero'] at hx156_4)
              (try rw [show ((0 : Int)).toNat = 0 from rfl] at hx156_5)
              (try rw [show 0 * 6 = 0 from rfl] at hx156_5)
              (try rw [Addr.add_zero'] at hx156_5)
              replace hx156_0 := (HB.out.cell (World.block_lt_of_cell? w _ hx156_0)).trans hx156_0
              replace hx156_1 := (HB.out.cell (World.block_lt_of_cell? w _ hx156_1)).trans hx156_1
              replace hx156_2 := (HB.out.cell (World.block_lt_of_cell? w _ hx156_2)).trans hx156_2
              replace hx156_3 := (HB.out.cell (World.block_lt_of_cell? w _ hx156_3)).trans hx156_3
              replace hx156_4 := (HB.out.cell (World.block_lt_of_cell? w _ hx156_4)).trans hx156_4
              replace hx156_5 := (HB.out.cell (World.block_lt_of_cell? w _ hx156_5)).trans hx156_5
              replace p156 := eq_true p156
              replace q156 := eq_true q156
              go_wp2
              go_meet
              case rel => exact ⟨_, (true), (by first | rfl | (simp; done) | (simp [*]; done)), H', ⟨by first | omega | exact Nat.le_refl _⟩, ⟨by (with_reducible repeat (first | refine blk_drewN ?_ _ | refine blk_drew ?_ | refine blk_alloc ?_ _)); exact BK153.out⟩, ⟨by repeat (first | (with_reducible first | exact HB.out | apply below_alloc | apply pw_below_drewN | apply below_drew1 | refine below_set ?_ GE153.out) | exact HB.out)⟩⟩
          · rw [if_neg c8] at H
            have c8b0 : (((rd_T63 l0_0 0).f5) == 0) = false := beq_eq_false_iff_ne.mpr c8
            have c8b1 : (((rd_T63 l0_0 0).f5) != 0) = true := bne_iff_ne.mpr c8
            have H' := Aside0.mk H
            clear H
            have hcz15_0 : w3.cell? ⟨gb153, 0, none⟩ = some (.slice A0_0 l0_0.length c0_0) := (blk_cell BK153.out 0).trans rfl
            have hcz15_1 : w3.cell? ⟨gb153, 1, none⟩ = some (.int .i64 a0_1) := (blk_cell BK153.out 1).trans rfl
            have hcz15_2 : w3.cell? ⟨gb153, 2, none⟩ = some (.int .i64 a0_2) := (blk_cell BK153.out 2).trans rfl
            have hcz15_3 : w3.cell? ⟨gb153, 3, none⟩ = some (.int .i64 a0_3) := (blk_cell BK153.out 3).trans rfl
            have hfz15_0 := blk_frozen BK153.out 0
            have hfz15_1 := blk_frozen BK153.out 1
            have hfz15_2 := blk_frozen BK153.out 2
            have hfz15_3 := blk_frozen BK153.out 3
            have p154 : 0 ≤ (0 : Int) := (by omega)
            have q154 : 0 < (l0_0.length : Int) := of_decide_eq_true (by first | (with_reducible assumption) | assumption)
            obtain ⟨ad154, e154, hx154_0, hx154_1, hx154_2, hx154_3, hx154_4, hx154_5⟩ := at_T63 HR0_0.out 0 p154 q154
            (try rw [← Nbq6.out] at hx154_4)
            cases e154
            have qi154 : (0 < l0_0.length) = True := eq_true (by omega)
            (try rw [show ((0 : Int)).toNat = 0 from rfl] at hx154_0)
            (try rw [show 0 * 6 = 0 from rfl] at hx154_0)
            (try rw [Addr.add_zero'] at hx154_0)
            (try rw [show ((0 : Int)).toNat = 0 from rfl] at hx154_1)
            (try rw [show 0 * 6 = 0 from rfl] at hx154_1)
            (try rw [Addr.add_zero'] at hx154_1)
            (try rw [show ((0 : Int)).toNat = 0 from rfl] at hx154_2)
            (try rw [show 0 * 6 = 0 from rfl] at hx154_2)
            (try rw [Addr.add_zero'] at hx154_2)
            (try rw [show ((0 : Int)).toNat = 0 from rfl] at hx154_3)
            (try rw [show 0 * 6 = 0 from rfl] at hx154_3)
            (try rw [Addr.add_zero'] at hx154_3)
            (try rw [show ((0 : Int)).toNat = 0 from rfl] at hx154_4)
            (try rw [show 0 * 6 = 0 from rfl] at hx154_4)
            (try rw [Addr.add_zero'] at hx154_4)
            (try rw [show ((0 : Int)).toNat = 0 from rfl] at hx154_5)
            (try rw [show 0 * 6 = 0 from rfl] at hx154_5)
            (try rw [Addr.add_zero'] at hx154_5)
            replace hx154_0 := (HB.out.cell (World.block_lt_of_cell? w _ hx154_0)).trans hx154_0
            replace hx154_1 := (HB.out.cell (World.block_lt_of_cell? w _ hx154_1)).trans hx154_1
            replace hx154_2 := (HB.out.cell (World.block_lt_of_cell? w _ hx154_2)).trans hx154_2
            replace hx154_3 := (HB.out.cell (World.block_lt_of_cell? w _ hx154_3)).trans hx154_3
            replace hx154_4 := (HB.out.cell (World.block_lt_of_cell? w _ hx154_4)).trans hx154_4
            replace hx154_5 := (HB.out.cell (World.block_lt_of_cell? w _ hx154_5)).trans hx154_5
            replace p154 := eq_true p154
            replace q154 := eq_true q154
            have p155 : 0 ≤ (0 : Int) := (by omega)
            have q155 : 0 < (l0_0.length : Int) := of_decide_eq_true (by first | (with_reducible assumption) | assumption)
            obtain ⟨ad155, e155, hx155_0, hx155_1, hx155_2, hx155_3, hx155_4, hx155_5⟩ := at_T63 HR0_0.out 0 p155 q155
            (try rw [← Nbq6.out] at hx155_4)
            obtain rfl : ad154 = ad155 := (by injection e155)
            have qi155 : (0 < l0_0.length) = True := eq_true (by omega)
            (try rw [show ((0 : Int)).toNat = 0 from rfl] at hx155_0)
            (try rw [show 0 * 6 = 0 from rfl] at hx155_0)
            (try rw [Addr.add_zero'] at hx155_0)
            (try rw [show ((0 : Int)).toNat = 0 from rfl] at hx155_1)
            (try rw [show 0 * 6 = 0 from rfl] at hx155_1)
            (try rw [Addr.add_zero'] at hx155_1)
            (try rw [show ((0 : Int)).toNat = 0 from rfl] at hx155_2)
            (try rw [show 0 * 6 = 0 from rfl] at hx155_2)
            (try rw [Addr.add_zero'] at hx155_2)
            (try rw [show ((0 : Int)).toNat = 0 from rfl] at hx155_3)
            (try rw [show 0 * 6 = 0 from rfl] at hx155_3)
            (try rw [Addr.add_zero'] at hx155_3)
            (try rw [show ((0 : Int)).toNat = 0 from rfl] at hx155_4)
            (try rw [show 0 * 6 = 0 from rfl] at hx155_4)
            (try rw [Addr.add_zero'] at hx155_4)
            (try rw [show ((0 : Int)).toNat = 0 from rfl] at hx155_5)
            (try rw [show 0 * 6 = 0 from rfl] at hx155_5)
            (try rw [Addr.add_zero'] at hx155_5)
            replace hx155_0 := (HB.out.cell (World.block_lt_of_cell? w _ hx155_0)).trans hx155_0
            replace hx155_1 := (HB.out.cell (World.block_lt_of_cell? w _ hx155_1)).trans hx155_1
            replace hx155_2 := (HB.out.cell (World.block_lt_of_cell? w _ hx155_2)).trans hx155_2
            replace hx155_3 := (HB.out.cell (World.block_lt_of_cell? w _ hx155_3)).trans hx155_3
            replace hx155_4 := (HB.out.cell (World.block_lt_of_cell? w _ hx155_4)).trans hx155_4
            replace hx155_5 := (HB.out.cell (World.block_lt_of_cell? w _ hx155_5)).trans hx155_5
            replace p155 := eq_true p155
            replace q155 := eq_true q155
            go_wp2
            go_meet
            case rel => exact ⟨_, (true), (by first | rfl | (simp; done) | (simp [*]; done)), H', ⟨by first | omega | exact Nat.le_refl _⟩, ⟨by (with_reducible repeat (first | refine blk_drewN ?_ _ | refine blk_drew ?_ | refine blk_alloc ?_ _)); exact BK153.out⟩, ⟨by repeat (first | (with_reducible first | exact HB.out | apply below_alloc | apply pw_below_drewN | apply below_drew1 | refine below_set ?_ GE153.out) | exact HB.out)⟩⟩
        · replace c7 := Bool.eq_false_iff.mpr c7
          subst c7
          have H1 : (spec_l2Shape.j0 k true l0_0 a0_1 a0_2 a0_3) = some r := by rw [if_neg (show ¬ (false = true) by decide)] at H; exact H
          clear H
          have H := H1
          clear H1
          have H' := Aside0.mk H
          clear H
          have hcz16_0 : w3.cell? ⟨gb153, 0, none⟩ = some (.slice A0_0 l0_0.length c0_0) := (blk_cell BK153.out 0).trans rfl
          have hcz16_1 : w3.cell? ⟨gb153, 1, none⟩ = some (.int .i64 a0_1) := (blk_cell BK153.out 1).trans rfl
          have hcz16_2 : w3.cell? ⟨gb153, 2, none⟩ = some (.int .i64 a0_2) := (blk_cell BK153.out 2).trans rfl
          have hcz16_3 : w3.cell? ⟨gb153, 3, none⟩ = some (.int .i64 a0_3) := (blk_cell BK153.out 3).trans rfl
          have hfz16_0 := blk_frozen BK153.out 0
          have hfz16_1 := blk_frozen BK153.out 1
          have hfz16_2 := blk_frozen BK153.out 2
          have hfz16_3 := blk_frozen BK153.out 3
          have p154 : 0 ≤ (0 : Int) := (by omega)
          have q154 : 0 < (l0_0.length : Int) := of_decide_eq_true (by first | (with_reducible assumption) | assumption)
          obtain ⟨ad154, e154, hx154_0, hx154_1, hx154_2, hx154_3, hx154_4, hx154_5⟩ := at_T63 HR0_0.out 0 p154 q154
          (try rw [← Nbq6.out] at hx154_4)
          cases e154
          have qi154 : (0 < l0_0.length) = True := eq_true (by omega)
          (try rw [show ((0 : Int)).toNat = 0 from rfl] at hx154_0)
          (try rw [show 0 * 6 = 0 from rfl] at hx154_0)
          (try rw [Addr.add_zero'] at hx154_0)
          (try rw [show ((0 : Int)).toNat = 0 from rfl] at hx154_1)
          (try rw [show 0 * 6 = 0 from rfl] at hx154_1)
          (try rw [Addr.add_zero'] at hx154_1)
          (try rw [show ((0 : Int)).toNat = 0 from rfl] at hx154_2)
          (try rw [show 0 * 6 = 0 from rfl] at hx154_2)
          (try rw [Addr.add_zero'] at hx154_2)
          (try rw [show ((0 : Int)).toNat = 0 from rfl] at hx154_3)
          (try rw [show 0 * 6 = 0 from rfl] at hx154_3)
          (try rw [Addr.add_zero'] at hx154_3)
          (try rw [show ((0 : Int)).toNat = 0 from rfl] at hx154_4)
          (try rw [show 0 * 6 = 0 from rfl] at hx154_4)
          (try rw [Addr.add_zero'] at hx154_4)
          (try rw [show ((0 : Int)).toNat = 0 from rfl] at hx154_5)
          (try rw [show 0 * 6 = 0 from rfl] at hx154_5)
          (try rw [Addr.add_zero'] at hx154_5)
          replace hx154_0 := (HB.out.cell (World.block_lt_of_cell? w _ hx154_0)).trans hx154_0
          replace hx154_1 := (HB.out.cell (World.block_lt_of_cell? w _ hx154_1)).trans hx154_1
          replace hx154_2 := (HB.out.cell (World.block_lt_of_cell? w _ hx154_2)).trans hx154_2
          replace hx154_3 := (HB.out.cell (World.block_lt_of_cell? w _ hx154_3)).trans hx154_3
          replace hx154_4 := (HB.out.cell (World.block_lt_of_cell? w _ hx154_4)).trans hx154_4
          replace hx154_5 := (HB.out.cell (World.block_lt_of_cell? w _ hx154_5)).trans hx154_5
          replace p154 := eq_true p154
          replace q154 := eq_true q154
          go_wp2
          go_meet
          case rel => exact ⟨_, (true), (by first | rfl | (simp; done) | (simp [*]; done)), H', ⟨by first | omega | exact Nat.le_refl _⟩, ⟨by (with_reducible repeat (first | refine blk_drewN ?_ _ | refine blk_drew ?_ | refine blk_alloc ?_ _)); exact BK153.out⟩, ⟨by repeat (first | (with_reducible first | exact HB.out | apply below_alloc | apply pw_below_drewN | apply below_drew1 | refine below_set ?_ GE153.out) | exact HB.out)⟩⟩
      · rw [if_neg c5] at H
        exact absurd H (by simp)
    · rw [if_neg c4] at H
      have c4b0 : ((l0_0.length : Int) == 10) = false := beq_eq_false_iff_ne.mpr c4
      have c4b1 : ((l0_0.length : Int) != 10) = true := bne_iff_ne.mpr c4
      (first | rw [c4b0] | (simp only [i64_w, i32_w]; rw [c4b0]) | skip)
      have H' := Aside0.mk H
      clear H
      have hcz17_0 : w3.cell? ⟨gb153, 0, none⟩ = some (.slice A0_0 l0_0.length c0_0) := (blk_cell BK153.out 0).trans rfl
      have hcz17_1 : w3.cell? ⟨gb153, 1, none⟩ = some (.int .i64 a0_1) := (blk_cell BK153.out 1).trans rfl
      have hcz17_2 : w3.cell? ⟨gb153, 2, none⟩ = some (.int .i64 a0_2) := (blk_cell BK153.out 2).trans rfl
      have hcz17_3 : w3.cell? ⟨gb153, 3, none⟩ = some (.int .i64 a0_3) := (blk_cell BK153.out 3).trans rfl
      have hfz17_0 := blk_frozen BK153.out 0
      have hfz17_1 := blk_frozen BK153.out 1
      have hfz17_2 := blk_frozen BK153.out 2
      have hfz17_3 := blk_frozen BK153.out 3
      go_wp2
      go_meet
      case rel => exact ⟨_, (true), (by first | rfl | (simp; done) | (simp [*]; done)), H', ⟨by first | omega | exact Nat.le_refl _⟩, ⟨by (with_reducible repeat (first | refine blk_drewN ?_ _ | refine blk_drew ?_ | refine blk_alloc ?_ _)); exact BK153.out⟩, ⟨by repeat (first | (with_reducible first | exact HB.out | apply below_alloc | apply pw_below_drewN | apply below_drew1 | refine below_set ?_ GE153.out) | exact HB.out)⟩⟩
  case rest =>
    clear HC2
    try clear c1
    try clear p1
    try clear q1
    try clear hx1
    try clear qi1
    try clear p2
    try clear c4
    try clear c4b0
    try clear c4b1
    try clear c5
    try clear q6
    try clear c7
    try clear c8
    try clear c8b0
    try clear c8b1
    try clear c9
    try clear c9b0
    try clear c9b1
    try clear c10
    try clear c10b0
    try clear c10b1
    try clear p15
    try clear q15
    try clear hx15
    try clear qi15
    try clear hcz12_0
    try clear hcz12_1
    try clear hcz12_2
    try clear hcz12_3
    try clear hcz13_0
    try clear hcz13_1
    try clear hcz13_2
    try clear hcz13_3
    try clear hcz14_0
    try clear hcz14_1
    try clear hcz14_2
    try clear hcz14_3
    try clear hcz15_0
    try clear hcz15_1
    try clear hcz15_2
    try clear hcz15_3
    try clear hcz16_0
    try clear hcz16_1
    try clear hcz16_2
    try clear hcz16_3
    try clear hcz17_0
    try clear hcz17_1
    try clear hcz17_2
    try clear hcz17_3
    try clear hfz12_0
    try clear hfz12_1
    try clear hfz12_2
    try clear hfz12_3
    try clear hfz13_0
    try clear hfz13_1
    try clear hfz13_2
    try clear hfz13_3
    try clear hfz14_0
    try clear hfz14_1
    try clear hfz14_2
    try clear hfz14_3
    try clear hfz15_0
    try clear hfz15_1
    try clear hfz15_2
    try clear hfz15_3
    try clear hfz16_0
    try clear hfz16_1
    try clear hfz16_2
    try clear hfz16_3
    try clear hfz17_0
    try clear hfz17_1
    try clear hfz17_2
    try clear hfz17_3
    try clear hx154_0
    try clear hx154_1
    try clear hx154_2
    try clear hx154_3
    try clear hx154_4
    try clear hx154_5
    try clear hx155_0
    try clear hx155_1
    try clear hx155_2
    try clear hx155_3
    try clear hx155_4
    try clear hx155_5
    try clear hx156_0
    try clear hx156_1
    try clear hx156_2
    try clear hx156_3
    try clear hx156_4
    try clear hx156_5
    try clear hx157_0
    try clear hx157_1
    try clear hx157_2
    try clear hx157_3
    try clear hx157_4
    try clear hx157_5
    try clear hx158_0
    try clear hx158_1
    try clear hx158_2
    try clear hx158_3
    try clear hx158_4
    try clear hx158_5
    try clear p154
    try clear p155
    try clear p156
    try clear p157
    try clear p158
    try clear q154
    try clear q155
    try clear q156
    try clear q157
    try clear q158
    obtain ⟨kq, x47_1, rfl, HA, HJ1, BK153, HB⟩ := hcut
    cases kq with
    | zero => exact absurd HA.out (by simp [spec_l2Shape.j0])
    | succ kj1 =>
      have H := HA.out
      clear HA
      simp only [spec_l2Shape.j0] at H
      by_cases c18 : x47_1 = true
      · subst c18
        have H1 : (some false) = some r := by rw [if_pos rfl] at H; exact H
        clear H
        have H := H1
        clear H1
        obtain rfl := Option.some.inj H
        go_wp2
        go_ret
        exact ⟨by first | rfl | (simp [errW_none, errW_some] <;> rfl) | (simp [*, errW_none, errW_some] <;> rfl), by repeat (first | (with_reducible first | exact HB.out | apply below_alloc | apply pw_below_drewN | apply below_drew1 | refine below_set ?_ GE153.out) | exact HB.out)⟩
      · replace c18 := Bool.eq_false_iff.mpr c18
        subst c18
        have H1 : (spec_l2Shape.l0 kj1 0 l0_0 a0_1 a0_2 a0_3) = some r := by rw [if_neg (show ¬ (false = true) by decide)] at H; exact H
        clear H
        have H := H1
        clear H1
        have H' := Aside0.mk H
        clear H
        go_wp2
        go_loopg [3] kj1 (fun kq v3 w' => ∃ (x3_2 : Int), v3 = .int .i64 x3_2 ∧ Aside0 (spec_l2Shape.l0 kq x3_2 l0_0 a0_1 a0_2 a0_3 = some r) ∧ Aside0 (kq ≤ kj1) ∧ Aside0 (w'.heap[gb153]? = some (.cells #[(.slice A0_0 l0_0.length c0_0), .int .i64 a0_1, .int .i64 a0_2, .int .i64 a0_3] 24 (0, 0))) ∧ Aside0 (Below w.heap.size w w'))
        case atStart => exact ⟨(0), (by first | rfl | (simp; done) | (simp [*]; done)), H', ⟨Nat.le_refl _⟩, ⟨by (with_reducible repeat (first | refine blk_drewN ?_ _ | refine blk_drew ?_ | refine blk_alloc ?_ _)); exact BK153.out⟩, ⟨by repeat (first | (with_reducible first | exact HB.out | apply below_alloc | apply pw_below_drewN | apply below_drew1 | refine below_set ?_ GE153.out) | exact HB.out)⟩⟩
        case round =>
          clear H'
          try clear c1
          try clear p1
          try clear q1
          try clear hx1
          try clear qi1
          try clear p2
          try clear c4
          try clear c4b0
          try clear c4b1
          try clear c5
          try clear q6
          try clear c7
          try clear c8
          try clear c8b0
          try clear c8b1
          try clear c9
          try clear c9b0
          try clear c9b1
          try clear c10
          try clear c10b0
          try clear c10b1
          try clear p15
          try clear q15
          try clear hx15
          try clear qi15
          try clear c18
          try clear hcz12_0
          try clear hcz12_1
          try clear hcz12_2
          try clear hcz12_3
          try clear hcz13_0
          try clear hcz13_1
          try clear hcz13_2
          try clear hcz13_3
          try clear hcz14_0
          try clear hcz14_1
          try clear hcz14_2
          try clear hcz14_3
          try clear hcz15_0
          try clear hcz15_1
          try clear hcz15_2
          try clear hcz15_3
          try clear hcz16_0
          try clear hcz16_1
          try clear hcz16_2
          try clear hcz16_3
          try clear hcz17_0
          try clear hcz17_1
          try clear hcz17_2
          try clear hcz17_3
          try clear hfz12_0
          try clear hfz12_1
          try clear hfz12_2
          try clear hfz12_3
          try clear hfz13_0
          try clear hfz13_1
          try clear hfz13_2
          try clear hfz13_3
          try clear hfz14_0
          try clear hfz14_1
          try clear hfz14_2
          try clear hfz14_3
          try clear hfz15_0
          try clear hfz15_1
          try clear hfz15_2
          try clear hfz15_3
          try clear hfz16_0
          try clear hfz16_1
          try clear hfz16_2
          try clear hfz16_3
          try clear hfz17_0
          try clear hfz17_1
          try clear hfz17_2
          try clear hfz17_3
          try clear hx154_0
          try clear hx154_1
          try clear hx154_2
          try clear hx154_3
          try clear hx154_4
          try clear hx154_5
          try clear hx155_0
          try clear hx155_1
          try clear hx155_2
          try clear hx155_3
          try clear hx155_4
          try clear hx155_5
          try clear hx156_0
          try clear hx156_1
          try clear hx156_2
          try clear hx156_3
          try clear hx156_4
          try clear hx156_5
          try clear hx157_0
          try clear hx157_1
          try clear hx157_2
          try clear hx157_3
          try clear hx157_4
          try clear hx157_5
          try clear hx158_0
          try clear hx158_1
          try clear hx158_2
          try clear hx158_3
          try clear hx158_4
          try clear hx158_5
          try clear p1
          try clear p15
          try clear p154
          try clear p155
          try clear p156
          try clear p157
          try clear p158
          try clear p2
          try clear q1
          try clear q15
          try clear q154
          try clear q155
          try clear q156
          try clear q157
          try clear q158
          try clear q6
          obtain ⟨x3_2, rfl, HA, HK2, BK153, HB⟩ := hrel
          cases gk with
          | zero => exact absurd HA.out (by simp [spec_l2Shape.l0])
          | succ k2 =>
            have H := HA.out
            clear HA
            simp only [spec_l2Shape.l0] at H
            by_cases c19 : x3_2 ≤ 9
            · rw [if_pos c19] at H
              have c19b0 : decide (x3_2 ≤ 9) = true := decide_eq_true c19
              clear c19
              by_cases c20 : 0 ≤ x3_2
              · rw [if_pos c20] at H
                have c20b0 : decide (0 ≤ x3_2) = true := decide_eq_true c20
                clear c20
                by_cases c21 : x3_2 < (l0_0.length : Int)
                · rw [if_pos c21] at H
                  have c21b0 : decide (x3_2 < (l0_0.length : Int)) = true := decide_eq_true c21
                  clear c21
                  replace H := Option.bind_eq_some_iff.mp H
                  obtain ⟨t161, A220, H⟩ := H
                  replace H : (if t161 = true then (spec_l2Shape.l0 k2 (wrap64 (x3_2 + 1)) l0_0 a0_1 a0_2 a0_3) else (some false)) = some r := H
                  have A22 := Aside0.mk A220
                  clear A220
                  by_cases c23 : t161 = true
                  · subst c23
                    have H1 : (spec_l2Shape.l0 k2 (wrap64 (x3_2 + 1)) l0_0 a0_1 a0_2 a0_3) = some r := by rw [if_pos rfl] at H; exact H
                    clear H
                    have H := H1
                    clear H1
                    have H' := Aside0.mk H
                    clear H
                    have hcz24_0 : wr.cell? ⟨gb153, 0, none⟩ = some (.slice A0_0 l0_0.length c0_0) := (blk_cell BK153.out 0).trans rfl
                    have hcz24_1 : wr.cell? ⟨gb153, 1, none⟩ = some (.int .i64 a0_1) := (blk_cell BK153.out 1).trans rfl
                    have hcz24_2 : wr.cell? ⟨gb153, 2, none⟩ = some (.int .i64 a0_2) := (blk_cell BK153.out 2).trans rfl
                    have hcz24_3 : wr.cell? ⟨gb153, 3, none⟩ = some (.int .i64 a0_3) := (blk_cell BK153.out 3).trans rfl
                    have hfz24_0 := blk_frozen BK153.out 0
                    have hfz24_1 := blk_frozen BK153.out 1
                    have hfz24_2 := blk_frozen BK153.out 2
                    have hfz24_3 := blk_frozen BK153.out 3
                    have p160 : 0 ≤ (x3_2 : Int) := of_decide_eq_true (by first | (with_reducible assumption) | assumption)
                    have q160 : x3_2 < (l0_0.length : Int) := of_decide_eq_true (by first | (with_reducible assumption) | assumption)
                    obtain ⟨ad160, e160, hx160_0, hx160_1, hx160_2, hx160_3, hx160_4, hx160_5⟩ := at_T63 HR0_0.out x3_2 p160 q160
                    cases e160
                    replace hx160_0 := (HB.out.cell (World.block_lt_of_cell? w _ hx160_0)).trans hx160_0
                    replace hx160_1 := (HB.out.cell (World.block_lt_of_cell? w _ hx160_1)).trans hx160_1
                    replace hx160_2 := (HB.out.cell (World.block_lt_of_cell? w _ hx160_2)).trans hx160_2
                    replace hx160_3 := (HB.out.cell (World.block_lt_of_cell? w _ hx160_3)).trans hx160_3
                    replace hx160_4 := (HB.out.cell (World.block_lt_of_cell? w _ hx160_4)).trans hx160_4
                    replace hx160_5 := (HB.out.cell (World.block_lt_of_cell? w _ hx160_5)).trans hx160_5
                    replace p160 := eq_true p160
                    replace q160 := eq_true q160
                    go_wp2_with (first | ((with_reducible refine gate_callee (f := 84) rfl ?_); refine goesL_ (some 57) rfl rfl Try.func84 (by kernel_rfl) rfl #[.agg #[.int .i64 ((rd_T63 l0_0 x3_2).f0), .int .i64 ((rd_T63 l0_0 x3_2).f1), .int .i64 ((rd_T63 l0_0 x3_2).f2), .int .i64 ((rd_T63 l0_0 x3_2).f3), .bool ((rd_T63 l0_0 x3_2).f4), .int .i64 ((rd_T63 l0_0 x3_2).f5)]] rfl (by (try simp only [List.map_toArray, List.map_cons, List.map_nil]); first | done | rfl | (simp only [List.length_drop, List.length_take]; rfl)) ?_; (with_reducible refine (spec_l2Node.calls ((rd_T63 l0_0 x3_2).f0) ((rd_T63 l0_0 x3_2).f1) ((rd_T63 l0_0 x3_2).f2) ((rd_T63 l0_0 x3_2).f3) ((rd_T63 l0_0 x3_2).f4) ((rd_T63 l0_0 x3_2).f5) true _ A22.out).mono ?_); rintro e w25 ⟨rfl, hb⟩; refine ⟨_, rfl, ?_⟩; have n0_ := Aside0.mk (blk_below (g := gb153) (o := .cells #[.slice (some ad160) l0_0.length c0_0, .int .i64 a0_1, .int .i64 a0_2, .int .i64 a0_3] 24 (0, 0)) (by (with_reducible repeat (first | refine blk_drewN ?_ _ | refine blk_drew ?_ | refine blk_alloc ?_ _)); exact BK153.out) hb); have n1_ := Aside0.mk (below_step (by repeat (first | (with_reducible first | exact HB.out | apply below_alloc | apply pw_below_drewN | apply below_drew1 | refine below_set ?_ GE153.out) | exact HB.out)) hb); clear BK153; clear HB; have BK153 := n0_; have HB := n1_; clear n0_ n1_; (try clear hb); (try clear hb2); (try clear hk); (try clear hi)))
                    go_roundg k2
                    case measure => have := HJ1.out; have := HK2.out; omega
                    case rel => exact ⟨(wrap64 (x3_2 + 1)), (by first | rfl | (simp; done) | (simp [*]; done)), H', ⟨by have := HJ1.out; have := HK2.out; omega⟩, ⟨by (with_reducible repeat (first | refine blk_drewN ?_ _ | refine blk_drew ?_ | refine blk_alloc ?_ _)); exact BK153.out⟩, ⟨by repeat (first | (with_reducible first | exact HB.out | apply below_alloc | apply pw_below_drewN | apply below_drew1 | refine below_set ?_ GE153.out) | exact HB.out)⟩⟩
                  · replace c23 := Bool.eq_false_iff.mpr c23
                    subst c23
                    have H1 : (some false) = some r := by rw [if_neg (show ¬ (false = true) by decide)] at H; exact H
                    clear H
                    have H := H1
                    clear H1
                    obtain rfl := Option.some.inj H
                    have hcz26_0 : wr.cell? ⟨gb153, 0, none⟩ = some (.slice A0_0 l0_0.length c0_0) := (blk_cell BK153.out 0).trans rfl
                    have hcz26_1 : wr.cell? ⟨gb153, 1, none⟩ = some (.int .i64 a0_1) := (blk_cell BK153.out 1).trans rfl
                    have hcz26_2 : wr.cell? ⟨gb153, 2, none⟩ = some (.int .i64 a0_2) := (blk_cell BK153.out 2).trans rfl
                    have hcz26_3 : wr.cell? ⟨gb153, 3, none⟩ = some (.int .i64 a0_3) := (blk_cell BK153.out 3).trans rfl
                    have hfz26_0 := blk_frozen BK153.out 0
                    have hfz26_1 := blk_frozen BK153.out 1
                    have hfz26_2 := blk_frozen BK153.out 2
                    have hfz26_3 := blk_frozen BK153.out 3
                    have p160 : 0 ≤ (x3_2 : Int) := of_decide_eq_true (by first | (with_reducible assumption) | assumption)
                    have q160 : x3_2 < (l0_0.length : Int) := of_decide_eq_true (by first | (with_reducible assumption) | assumption)
                    obtain ⟨ad160, e160, hx160_0, hx160_1, hx160_2, hx160_3, hx160_4, hx160_5⟩ := at_T63 HR0_0.out x3_2 p160 q160
                    cases e160
                    replace hx160_0 := (HB.out.cell (World.block_lt_of_cell? w _ hx160_0)).trans hx160_0
                    replace hx160_1 := (HB.out.cell (World.block_lt_of_cell? w _ hx160_1)).trans hx160_1
                    replace hx160_2 := (HB.out.cell (World.block_lt_of_cell? w _ hx160_2)).trans hx160_2
                    replace hx160_3 := (HB.out.cell (World.block_lt_of_cell? w _ hx160_3)).trans hx160_3
                    replace hx160_4 := (HB.out.cell (World.block_lt_of_cell? w _ hx160_4)).trans hx160_4
                    replace hx160_5 := (HB.out.cell (World.block_lt_of_cell? w _ hx160_5)).trans hx160_5
                    replace p160 := eq_true p160
                    replace q160 := eq_true q160
                    go_wp2_with (first | ((with_reducible refine gate_callee (f := 84) rfl ?_); refine goesL_ (some 57) rfl rfl Try.func84 (by kernel_rfl) rfl #[.agg #[.int .i64 ((rd_T63 l0_0 x3_2).f0), .int .i64 ((rd_T63 l0_0 x3_2).f1), .int .i64 ((rd_T63 l0_0 x3_2).f2), .int .i64 ((rd_T63 l0_0 x3_2).f3), .bool ((rd_T63 l0_0 x3_2).f4), .int .i64 ((rd_T63 l0_0 x3_2).f5)]] rfl (by (try simp only [List.map_toArray, List.map_cons, List.map_nil]); first | done | rfl | (simp only [List.length_drop, List.length_take]; rfl)) ?_; (with_reducible refine (spec_l2Node.calls ((rd_T63 l0_0 x3_2).f0) ((rd_T63 l0_0 x3_2).f1) ((rd_T63 l0_0 x3_2).f2) ((rd_T63 l0_0 x3_2).f3) ((rd_T63 l0_0 x3_2).f4) ((rd_T63 l0_0 x3_2).f5) false _ A22.out).mono ?_); rintro e w27 ⟨rfl, hb⟩; refine ⟨_, rfl, ?_⟩; have n0_ := Aside0.mk (blk_below (g := gb153) (o := .cells #[.slice (some ad160) l0_0.length c0_0, .int .i64 a0_1, .int .i64 a0_2, .int .i64 a0_3] 24 (0, 0)) (by (with_reducible repeat (first | refine blk_drewN ?_ _ | refine blk_drew ?_ | refine blk_alloc ?_ _)); exact BK153.out) hb); have n1_ := Aside0.mk (below_step (by repeat (first | (with_reducible first | exact HB.out | apply below_alloc | apply pw_below_drewN | apply below_drew1 | refine below_set ?_ GE153.out) | exact HB.out)) hb); clear BK153; clear HB; have BK153 := n0_; have HB := n1_; clear n0_ n1_; (try clear hb); (try clear hb2); (try clear hk); (try clear hi)))
                    go_ret
                    exact ⟨by first | rfl | (simp [errW_none, errW_some] <;> rfl) | (simp [*, errW_none, errW_some] <;> rfl), by repeat (first | (with_reducible first | exact HB.out | apply below_alloc | apply pw_below_drewN | apply below_drew1 | refine below_set ?_ GE153.out) | exact HB.out)⟩
                · rw [if_neg c21] at H
                  exact absurd H (by simp)
              · rw [if_neg c20] at H
                exact absurd H (by simp)
            · rw [if_neg c19] at H
              have c19b0 : decide (x3_2 ≤ 9) = false := decide_eq_false c19
              clear c19
              replace H := Option.bind_eq_some_iff.mp H
              obtain ⟨t162, A280, H⟩ := H
              replace H : (if t162 = true then ((spec_l1In.f a0_2 1 9).bind fun t163 => (if t163 = true then ((spec_l1In.f a0_3 1 9).bind fun t164 => (some t164)) else (some false))) else (some false)) = some r := H
              have A28 := Aside0.mk A280
              clear A280
              by_cases c29 : t162 = true
              · subst c29
                have H1 : ((spec_l1In.f a0_2 1 9).bind fun t163 => (if t163 = true then ((spec_l1In.f a0_3 1 9).bind fun t164 => (some t164)) else (some false))) = some r := by rw [if_pos rfl] at H; exact H
                clear H
                have H := H1
                clear H1
                replace H := Option.bind_eq_some_iff.mp H
                obtain ⟨t163, A300, H⟩ := H
                replace H : (if t163 = true then ((spec_l1In.f a0_3 1 9).bind fun t164 => (some t164)) else (some false)) = some r := H
                have A30 := Aside0.mk A300
                clear A300
                by_cases c31 : t163 = true
                · subst c31
                  have H1 : ((spec_l1In.f a0_3 1 9).bind fun t164 => (some t164)) = some r := by rw [if_pos rfl] at H; exact H
                  clear H
                  have H := H1
                  clear H1
                  replace H := Option.bind_eq_some_iff.mp H
                  obtain ⟨t164, A320, H⟩ := H
                  replace H : (some t164) = some r := H
                  have A32 := Aside0.mk A320
                  clear A320
                  obtain rfl := Option.some.inj H
                  have hcz33_0 : wr.cell? ⟨gb153, 0, none⟩ = some (.slice A0_0 l0_0.length c0_0) := (blk_cell BK153.out 0).trans rfl
                  have hcz33_1 : wr.cell? ⟨gb153, 1, none⟩ = some (.int .i64 a0_1) := (blk_cell BK153.out 1).trans rfl
                  have hcz33_2 : wr.cell? ⟨gb153, 2, none⟩ = some (.int .i64 a0_2) := (blk_cell BK153.out 2).trans rfl
                  have hcz33_3 : wr.cell? ⟨gb153, 3, none⟩ = some (.int .i64 a0_3) := (blk_cell BK153.out 3).trans rfl
                  have hfz33_0 := blk_frozen BK153.out 0
                  have hfz33_1 := blk_frozen BK153.out 1
                  have hfz33_2 := blk_frozen BK153.out 2
                  have hfz33_3 := blk_frozen BK153.out 3
                  go_wp2_with (first | ((with_reducible refine gate_callee (f := 64) rfl ?_); refine goesL_ (some 61) rfl rfl Try.func64 (by kernel_rfl) rfl #[.int .i64 a0_1, .int .i64 0, .int .i64 9] rfl (by (try simp only [List.map_toArray, List.map_cons, List.map_nil]); first | done | rfl | (simp only [List.length_drop, List.length_take]; rfl)) ?_; (with_reducible refine (spec_l1In.calls a0_1 0 9 true _ A28.out).mono ?_); rintro e w' ⟨rfl, ⟨nd, rfl⟩⟩; refine ⟨_, rfl, ?_⟩) | (go_at_call 64; (with_reducible refine (spec_l1In.calls a0_2 1 9 true _ A30.out).mono ?_); rintro e w' ⟨rfl, ⟨nd, rfl⟩⟩) | (go_at_call 64; (with_reducible refine (spec_l1In.calls a0_3 1 9 t164 _ A32.out).mono ?_); rintro e w' ⟨rfl, ⟨nd, rfl⟩⟩))
                  go_ret
                  exact ⟨by first | rfl | (simp [errW_none, errW_some] <;> rfl) | (simp [*, errW_none, errW_some] <;> rfl), by repeat (first | (with_reducible first | exact HB.out | apply below_alloc | apply pw_below_drewN | apply below_drew1 | refine below_set ?_ GE153.out) | exact HB.out)⟩
                · replace c31 := Bool.eq_false_iff.mpr c31
                  subst c31
                  have H1 : (some false) = some r := by rw [if_neg (show ¬ (false = true) by decide)] at H; exact H
                  clear H
                  have H := H1
                  clear H1
                  obtain rfl := Option.some.inj H
                  have hcz34_0 : wr.cell? ⟨gb153, 0, none⟩ = some (.slice A0_0 l0_0.length c0_0) := (blk_cell BK153.out 0).trans rfl
                  have hcz34_1 : wr.cell? ⟨gb153, 1, none⟩ = some (.int .i64 a0_1) := (blk_cell BK153.out 1).trans rfl
                  have hcz34_2 : wr.cell? ⟨gb153, 2, none⟩ = some (.int .i64 a0_2) := (blk_cell BK153.out 2).trans rfl
                  have hcz34_3 : wr.cell? ⟨gb153, 3, none⟩ = some (.int .i64 a0_3) := (blk_cell BK153.out 3).trans rfl
                  have hfz34_0 := blk_frozen BK153.out 0
                  have hfz34_1 := blk_frozen BK153.out 1
                  have hfz34_2 := blk_frozen BK153.out 2
                  have hfz34_3 := blk_frozen BK153.out 3
                  go_wp2_with (first | ((with_reducible refine gate_callee (f := 64) rfl ?_); refine goesL_ (some 61) rfl rfl Try.func64 (by kernel_rfl) rfl #[.int .i64 a0_1, .int .i64 0, .int .i64 9] rfl (by (try simp only [List.map_toArray, List.map_cons, List.map_nil]); first | done | rfl | (simp only [List.length_drop, List.length_take]; rfl)) ?_; (with_reducible refine (spec_l1In.calls a0_1 0 9 true _ A28.out).mono ?_); rintro e w' ⟨rfl, ⟨nd, rfl⟩⟩; refine ⟨_, rfl, ?_⟩) | (go_at_call 64; (with_reducible refine (spec_l1In.calls a0_2 1 9 false _ A30.out).mono ?_); rintro e w' ⟨rfl, ⟨nd, rfl⟩⟩))
                  go_ret
                  exact ⟨by first | rfl | (simp [errW_none, errW_some] <;> rfl) | (simp [*, errW_none, errW_some] <;> rfl), by repeat (first | (with_reducible first | exact HB.out | apply below_alloc | apply pw_below_drewN | apply below_drew1 | refine below_set ?_ GE153.out) | exact HB.out)⟩
              · replace c29 := Bool.eq_false_iff.mpr c29
                subst c29
                have H1 : (some false) = some r := by rw [if_neg (show ¬ (false = true) by decide)] at H; exact H
                clear H
                have H := H1
                clear H1
                obtain rfl := Option.some.inj H
                have hcz35_0 : wr.cell? ⟨gb153, 0, none⟩ = some (.slice A0_0 l0_0.length c0_0) := (blk_cell BK153.out 0).trans rfl
                have hcz35_1 : wr.cell? ⟨gb153, 1, none⟩ = some (.int .i64 a0_1) := (blk_cell BK153.out 1).trans rfl
                have hcz35_2 : wr.cell? ⟨gb153, 2, none⟩ = some (.int .i64 a0_2) := (blk_cell BK153.out 2).trans rfl
                have hcz35_3 : wr.cell? ⟨gb153, 3, none⟩ = some (.int .i64 a0_3) := (blk_cell BK153.out 3).trans rfl
                have hfz35_0 := blk_frozen BK153.out 0
                have hfz35_1 := blk_frozen BK153.out 1
                have hfz35_2 := blk_frozen BK153.out 2
                have hfz35_3 := blk_frozen BK153.out 3
                go_wp2_with (first | ((with_reducible refine gate_callee (f := 64) rfl ?_); refine goesL_ (some 61) rfl rfl Try.func64 (by kernel_rfl) rfl #[.int .i64 a0_1, .int .i64 0, .int .i64 9] rfl (by (try simp only [List.map_toArray, List.map_cons, List.map_nil]); first | done | rfl | (simp only [List.length_drop, List.length_take]; rfl)) ?_; (with_reducible refine (spec_l1In.calls a0_1 0 9 false _ A28.out).mono ?_); rintro e w' ⟨rfl, ⟨nd, rfl⟩⟩; refine ⟨_, rfl, ?_⟩))
                go_ret
                exact ⟨by first | rfl | (simp [errW_none, errW_some] <;> rfl) | (simp [*, errW_none, errW_some] <;> rfl), by repeat (first | (with_reducible first | exact HB.out | apply below_alloc | apply pw_below_drewN | apply below_drew1 | refine below_set ?_ GE153.out) | exact HB.out)⟩

end Go.Proofs.Ytmfbkcfnooieoaa.GFnExactArnSwap
