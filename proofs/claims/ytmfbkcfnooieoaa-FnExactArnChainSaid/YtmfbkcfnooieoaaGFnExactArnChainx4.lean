/- The functions that the law reaches, as plain Lean functions, and that the machine comes to their answers: laid by a program of this session. Conditions: none. -/
import Derived.Test.YtmfbkcfnooieoaaGFnExactArnChainx0
import Derived.Test.YtmfbkcfnooieoaaGFnExactArnChainx2
import Derived.Test.YtmfbkcfnooieoaaGFnExactArnChainx3
namespace Go.Proofs.Ytmfbkcfnooieoaa.GFnExactArnChain
open Go.RowKit Go.Proofs.YtmfbkcfnooieoaaW.PrintWords Go.Proofs.YtmfbkcfnooieoaaW.PrintLast Go.Proofs.YtmfbkcfnooieoaaW.PrintMore
attribute [local go_sem] max2_int min2_int max_two min_two max_three min_three max_four min_four   -- for this text's walks alone
set_option linter.unusedVariables false
set_option linter.unusedSimpArgs false

/-! ### spec_l2Shape: function 56 -/
mutual
def spec_l2Shape.j0 : Nat → Bool → List (S63) → Int → Int → Int → Option (Bool)
  | 0, _, _, _, _, _ => none
  | k + 1, x47, x126000, x126001, x126002, x126003 => if x47 = true then (some false) else (spec_l2Shape.l0 k 0 x126000 x126001 x126002 x126003)
def spec_l2Shape.l0 : Nat → Int → List (S63) → Int → Int → Int → Option (Bool)
  | 0, _, _, _, _, _ => none
  | k + 1, x3, x126000, x126001, x126002, x126003 => if x3 ≤ 9 then (if 0 ≤ x3 then (if x3 < (x126000.length : Int) then ((spec_l2Node.f ((rd_T63 x126000 x3).f0) ((rd_T63 x126000 x3).f1) ((rd_T63 x126000 x3).f2) ((rd_T63 x126000 x3).f3) ((rd_T63 x126000 x3).f4) ((rd_T63 x126000 x3).f5)).bind fun t133 => (if t133 = true then (spec_l2Shape.l0 k (wrap64 (x3 + 1)) x126000 x126001 x126002 x126003) else (some false))) else (none)) else (none)) else ((spec_l1In.f x126001 0 9).bind fun t134 => (if t134 = true then ((spec_l1In.f x126002 1 9).bind fun t135 => (if t135 = true then ((spec_l1In.f x126003 1 9).bind fun t136 => (some t136)) else (some false))) else (some false)))
end
def spec_l2Shape.f (k : Nat) (l0_0 : List (S63)) (a0_1 : Int) (a0_2 : Int) (a0_3 : Int) : Option (Bool) := if (l0_0.length : Int) = 10 then (if 0 < (l0_0.length : Int) then (if ((rd_T63 l0_0 0).f4 = true) then (if ((rd_T63 l0_0 0).f5) = 0 then (if ((rd_T63 l0_0 0).f0) = 0 then (if ((rd_T63 l0_0 0).f1) = 0 then ((spec_WrdMark.f ((rd_T63 l0_0 0).f2)).bind fun t131 => (spec_l2Shape.j0 k t131 l0_0 a0_1 a0_2 a0_3)) else (spec_l2Shape.j0 k true l0_0 a0_1 a0_2 a0_3)) else (spec_l2Shape.j0 k true l0_0 a0_1 a0_2 a0_3)) else (spec_l2Shape.j0 k true l0_0 a0_1 a0_2 a0_3)) else (spec_l2Shape.j0 k true l0_0 a0_1 a0_2 a0_3)) else (none)) else (spec_l2Shape.j0 k true l0_0 a0_1 a0_2 a0_3)
theorem spec_l2Shape.mono_l : ∀ k, (∀ y0 y1 y2 y3 y4, LeO (spec_l2Shape.j0 k y0 y1 y2 y3 y4) (spec_l2Shape.j0 (k + 1) y0 y1 y2 y3 y4)) ∧ (∀ y0 y1 y2 y3 y4, LeO (spec_l2Shape.l0 k y0 y1 y2 y3 y4) (spec_l2Shape.l0 (k + 1) y0 y1 y2 y3 y4))
  | 0 => ⟨fun _ _ _ _ _ r h => by simp [spec_l2Shape.j0] at h, fun _ _ _ _ _ r h => by simp [spec_l2Shape.l0] at h⟩
  | k + 1 => by
    obtain ⟨ih0, ih1⟩ := spec_l2Shape.mono_l k
    refine ⟨?_, ?_⟩
    · intro y0 y1 y2 y3 y4
      unfold spec_l2Shape.j0
      repeat' first
      | (with_reducible exact ih0 _ _ _ _ _)
      | (with_reducible exact ih1 _ _ _ _ _)
      | (with_reducible exact LeO.refl _)
      | (with_reducible exact LeO.none _)
      | (with_reducible refine LeO.ite ?_ ?_)
      | (with_reducible refine LeO.bind ?_ (fun _ => ?_))
      | exact ih0 _ _ _ _ _
      | exact ih1 _ _ _ _ _
      | exact LeO.none _
      | refine LeO.ite ?_ ?_
      | refine LeO.bind ?_ (fun _ => ?_)
    · intro y0 y1 y2 y3 y4
      unfold spec_l2Shape.l0
      repeat' first
      | (with_reducible exact ih0 _ _ _ _ _)
      | (with_reducible exact ih1 _ _ _ _ _)
      | (with_reducible exact LeO.refl _)
      | (with_reducible exact LeO.none _)
      | (with_reducible refine LeO.ite ?_ ?_)
      | (with_reducible refine LeO.bind ?_ (fun _ => ?_))
      | exact ih0 _ _ _ _ _
      | exact ih1 _ _ _ _ _
      | exact LeO.none _
      | refine LeO.ite ?_ ?_
      | refine LeO.bind ?_ (fun _ => ?_)
theorem spec_l2Shape.mono : ∀ a0 a1 a2 a3 k, LeO (spec_l2Shape.f k a0 a1 a2 a3) (spec_l2Shape.f (k + 1) a0 a1 a2 a3) := by
  intro a0 a1 a2 a3 k
  obtain ⟨ih0, ih1⟩ := spec_l2Shape.mono_l k
  unfold spec_l2Shape.f
  repeat' first
      | (with_reducible exact ih0 _ _ _ _ _)
      | (with_reducible exact ih1 _ _ _ _ _)
      | (with_reducible exact LeO.refl _)
      | (with_reducible exact LeO.none _)
      | (with_reducible refine LeO.ite ?_ ?_)
      | (with_reducible refine LeO.bind ?_ (fun _ => ?_))
      | exact ih0 _ _ _ _ _
      | exact ih1 _ _ _ _ _
      | exact LeO.none _
      | refine LeO.ite ?_ ?_
      | refine LeO.bind ?_ (fun _ => ?_)
set_option maxHeartbeats 8000000 in
set_option maxRecDepth 100000 in
theorem spec_l2Shape.calls (k : Nat) (A0_0 : Option Addr) (c0_0 : Nat) (l0_0 : List (S63)) (a0_1 : Int) (a0_2 : Int) (a0_3 : Int) (r : Bool) (w : World) (hr0_0 : Kd.C k63 w A0_0 l0_0.length l0_0) (hc0_0 : l0_0.length ≤ c0_0) (h : spec_l2Shape.f k l0_0 a0_1 a0_2 a0_3 = some r) :
    Calls Try.prog 56 #[.agg #[.slice A0_0 l0_0.length c0_0, .int .i64 a0_1, .int .i64 a0_2, .int .i64 a0_3]] w fun e w' => e = .returned (.bool r) ∧ Below w.heap.size w w' := by
  have hu24 := Try.underlying24
  have hu63 := Try.underlying63
  have HR0_0 := Aside0.mk hr0_0
  have HC0_0 := Aside0.mk hc0_0
  clear hr0_0 hc0_0
  have HB := Aside0.mk (Below.refl w.heap.size w)
  have H : (if (l0_0.length : Int) = 10 then (if 0 < (l0_0.length : Int) then (if ((rd_T63 l0_0 0).f4 = true) then (if ((rd_T63 l0_0 0).f5) = 0 then (if ((rd_T63 l0_0 0).f0) = 0 then (if ((rd_T63 l0_0 0).f1) = 0 then ((spec_WrdMark.f ((rd_T63 l0_0 0).f2)).bind fun t131 => (spec_l2Shape.j0 k t131 l0_0 a0_1 a0_2 a0_3)) else (spec_l2Shape.j0 k true l0_0 a0_1 a0_2 a0_3)) else (spec_l2Shape.j0 k true l0_0 a0_1 a0_2 a0_3)) else (spec_l2Shape.j0 k true l0_0 a0_1 a0_2 a0_3)) else (spec_l2Shape.j0 k true l0_0 a0_1 a0_2 a0_3)) else (none)) else (spec_l2Shape.j0 k true l0_0 a0_1 a0_2 a0_3)) = some r := h
  clear h
  have HC2 := Aside0.mk H
  clear H
  go_enter Try.func56, Try.ntmps56
  go_upto_region 1 with (first | ((with_reducible refine gate_dst (N := 1) rfl ?_); refine box_event ?hg (N := 1) ?hd (cs := #[.slice A0_0 l0_0.length c0_0, .int .i64 a0_1, .int .i64 a0_2, .int .i64 a0_3]) (t := 24) ?hr ?_; (case hd => rfl); (case hg => rfl); (case hr => first | (go_simp; done) | (go_simp; rfl)); intro gb125 hg w3 hbox hb; have n0_ := Aside0.mk (below_step (by repeat (first | (with_reducible first | exact HB.out | apply below_alloc | apply pw_below_drewN | apply below_drew1) | exact HB.out)) hb); have n1_ := Aside0.mk (hbox); have n2_ := Aside0.mk ((by rw [hg]; exact (below_size (by repeat (first | (with_reducible first | exact HB.out | apply below_alloc | apply pw_below_drewN | apply below_drew1) | exact HB.out))) : w.heap.size ≤ gb125)); have n3_ := Aside0.mk ((by rw [hg]; exact (below_size (by repeat (first | (with_reducible first | exact HB.out | apply below_alloc | apply pw_below_drewN | apply below_drew1) | exact HB.out))) : w.heap.size ≤ gb125)); clear HB; have HB := n0_; have BK125 := n1_; have GW125 := n2_; have GE125 := n3_; clear n0_ n1_ n2_ n3_; clear hb hbox hg))
  (try simp only [Act.put, List.setIfInBounds_toArray, List.set_cons_zero, List.set_cons_succ])
  go_cut [47] (fun v47 wc => ∃ (kq : Nat) (x47_1 : Bool), v47 = .bool x47_1 ∧ Aside0 (spec_l2Shape.j0 kq x47_1 l0_0 a0_1 a0_2 a0_3 = some r) ∧ Aside0 (kq ≤ k) ∧ Aside0 (wc.heap[gb125]? = some (.cells #[(.slice A0_0 l0_0.length c0_0), .int .i64 a0_1, .int .i64 a0_2, .int .i64 a0_3] 24 (0, 0))) ∧ Aside0 (Below w.heap.size w wc))
  case first =>
    have H := HC2.out
    clear HC2
    by_cases c4 : (l0_0.length : Int) = 10
    · rw [if_pos c4] at H
      have c4b0 : ((l0_0.length : Int) == 10) = true := beq_iff_eq.mpr c4
      have c4b1 : ((l0_0.length : Int) != 10) = false := bne_eq_false_iff_eq.mpr c4
      clear c4
      (first | rw [c4b0] | (simp only [i64_w, i32_w]; rw [c4b0]) | skip)
      by_cases c5 : 0 < (l0_0.length : Int)
      · rw [if_pos c5] at H
        have c5b0 : decide (0 < (l0_0.length : Int)) = true := decide_eq_true c5
        have c5b1 : decide (0 < l0_0.length) = true := decide_eq_true (by omega)
        clear c5
        obtain ⟨bq6, hbq6⟩ : ∃ b_ : Bool, b_ = ((rd_T63 l0_0 0).f4) := ⟨_, rfl⟩
        replace H : (if (bq6 = true) then (if ((rd_T63 l0_0 0).f5) = 0 then (if ((rd_T63 l0_0 0).f0) = 0 then (if ((rd_T63 l0_0 0).f1) = 0 then ((spec_WrdMark.f ((rd_T63 l0_0 0).f2)).bind fun t131 => (spec_l2Shape.j0 k t131 l0_0 a0_1 a0_2 a0_3)) else (spec_l2Shape.j0 k true l0_0 a0_1 a0_2 a0_3)) else (spec_l2Shape.j0 k true l0_0 a0_1 a0_2 a0_3)) else (spec_l2Shape.j0 k true l0_0 a0_1 a0_2 a0_3)) else (spec_l2Shape.j0 k true l0_0 a0_1 a0_2 a0_3)) = some r := by rw [← hbq6] at H; exact H
        have Nbq6 := Aside0.mk hbq6
        clear hbq6
        by_cases c7 : (bq6 = true)
        · subst c7
          have H1 : (if ((rd_T63 l0_0 0).f5) = 0 then (if ((rd_T63 l0_0 0).f0) = 0 then (if ((rd_T63 l0_0 0).f1) = 0 then ((spec_WrdMark.f ((rd_T63 l0_0 0).f2)).bind fun t131 => (spec_l2Shape.j0 k t131 l0_0 a0_1 a0_2 a0_3)) else (spec_l2Shape.j0 k true l0_0 a0_1 a0_2 a0_3)) else (spec_l2Shape.j0 k true l0_0 a0_1 a0_2 a0_3)) else (spec_l2Shape.j0 k true l0_0 a0_1 a0_2 a0_3)) = some r := by rw [if_pos rfl] at H; exact H
          clear H
          have H := H1
          clear H1
          by_cases c8 : ((rd_T63 l0_0 0).f5) = 0
          · rw [if_pos c8] at H
            have c8b0 : (((rd_T63 l0_0 0).f5) == 0) = true := beq_iff_eq.mpr c8
            have c8b1 : (((rd_T63 l0_0 0).f5) != 0) = false := bne_eq_false_iff_eq.mpr c8
            clear c8
            by_cases c9 : ((rd_T63 l0_0 0).f0) = 0
            · rw [if_pos c9] at H
              have c9b0 : (((rd_T63 l0_0 0).f0) == 0) = true := beq_iff_eq.mpr c9
              have c9b1 : (((rd_T63 l0_0 0).f0) != 0) = false := bne_eq_false_iff_eq.mpr c9
              clear c9
              by_cases c10 : ((rd_T63 l0_0 0).f1) = 0
              · rw [if_pos c10] at H
                have c10b0 : (((rd_T63 l0_0 0).f1) == 0) = true := beq_iff_eq.mpr c10
                have c10b1 : (((rd_T63 l0_0 0).f1) != 0) = false := bne_eq_false_iff_eq.mpr c10
                clear c10
                replace H := Option.bind_eq_some_iff.mp H
                obtain ⟨t131, A110, H⟩ := H
                replace H : (spec_l2Shape.j0 k t131 l0_0 a0_1 a0_2 a0_3) = some r := H
                have A11 := Aside0.mk A110
                clear A110
                have H' := Aside0.mk H
                clear H
                have hcz12_0 : w3.cell? ⟨gb125, 0, none⟩ = some (.slice A0_0 l0_0.length c0_0) := (blk_cell BK125.out 0).trans rfl
                have hcz12_1 : w3.cell? ⟨gb125, 1, none⟩ = some (.int .i64 a0_1) := (blk_cell BK125.out 1).trans rfl
                have hcz12_2 : w3.cell? ⟨gb125, 2, none⟩ = some (.int .i64 a0_2) := (blk_cell BK125.out 2).trans rfl
                have hcz12_3 : w3.cell? ⟨gb125, 3, none⟩ = some (.int .i64 a0_3) := (blk_cell BK125.out 3).trans rfl
                have hfz12_0 := blk_frozen BK125.out 0
                have hfz12_1 := blk_frozen BK125.out 1
                have hfz12_2 := blk_frozen BK125.out 2
                have hfz12_3 := blk_frozen BK125.out 3
                have p126 : 0 ≤ (0 : Int) := (by omega)
                have q126 : 0 < (l0_0.length : Int) := of_decide_eq_true (by first | (with_reducible assumption) | assumption)
                obtain ⟨ad126, e126, hx126_0, hx126_1, hx126_2, hx126_3, hx126_4, hx126_5⟩ := at_T63 HR0_0.out 0 p126 q126
                (try rw [← Nbq6.out] at hx126_4)
                cases e126
                have qi126 : (0 < l0_0.length) = True := eq_true (by omega)
                (try rw [show ((0 : Int)).toNat = 0 from rfl] at hx126_0)
                (try rw [show 0 * 6 = 0 from rfl] at hx126_0)
                (try rw [Addr.add_zero'] at hx126_0)
                (try rw [show ((0 : Int)).toNat = 0 from rfl] at hx126_1)
                (try rw [show 0 * 6 = 0 from rfl] at hx126_1)
                (try rw [Addr.add_zero'] at hx126_1)
                (try rw [show ((0 : Int)).toNat = 0 from rfl] at hx126_2)
                (try rw [show 0 * 6 = 0 from rfl] at hx126_2)
                (try rw [Addr.add_zero'] at hx126_2)
                (try rw [show ((0 : Int)).toNat = 0 from rfl] at hx126_3)
                (try rw [show 0 * 6 = 0 from rfl] at hx126_3)
                (try rw [Addr.add_zero'] at hx126_3)
                (try rw [show ((0 : Int)).toNat = 0 from rfl] at hx126_4)
                (try rw [show 0 * 6 = 0 from rfl] at hx126_4)
                (try rw [Addr.add_zero'] at hx126_4)
                (try rw [show ((0 : Int)).toNat = 0 from rfl] at hx126_5)
                (try rw [show 0 * 6 = 0 from rfl] at hx126_5)
                (try rw [Addr.add_zero'] at hx126_5)
                replace hx126_0 := (HB.out.cell (World.block_lt_of_cell? w _ hx126_0)).trans hx126_0
                replace hx126_1 := (HB.out.cell (World.block_lt_of_cell? w _ hx126_1)).trans hx126_1
                replace hx126_2 := (HB.out.cell (World.block_lt_of_cell? w _ hx126_2)).trans hx126_2
                replace hx126_3 := (HB.out.cell (World.block_lt_of_cell? w _ hx126_3)).trans hx126_3
                replace hx126_4 := (HB.out.cell (World.block_lt_of_cell? w _ hx126_4)).trans hx126_4
                replace hx126_5 := (HB.out.cell (World.block_lt_of_cell? w _ hx126_5)).trans hx126_5
                replace p126 := eq_true p126
                replace q126 := eq_true q126
                have p127 : 0 ≤ (0 : Int) := (by omega)
                have q127 : 0 < (l0_0.length : Int) := of_decide_eq_true (by first | (with_reducible assumption) | assumption)
                obtain ⟨ad127, e127, hx127_0, hx127_1, hx127_2, hx127_3, hx127_4, hx127_5⟩ := at_T63 HR0_0.out 0 p127 q127
                (try rw [← Nbq6.out] at hx127_4)
                obtain rfl : ad126 = ad127 := (by injection e127)
                have qi127 : (0 < l0_0.length) = True := eq_true (by omega)
                (try rw [show ((0 : Int)).toNat = 0 from rfl] at hx127_0)
                (try rw [show 0 * 6 = 0 from rfl] at hx127_0)
                (try rw [Addr.add_zero'] at hx127_0)
                (try rw [show ((0 : Int)).toNat = 0 from rfl] at hx127_1)
                (try rw [show 0 * 6 = 0 from rfl] at hx127_1)
                (try rw [Addr.add_zero'] at hx127_1)
                (try rw [show ((0 : Int)).toNat = 0 from rfl] at hx127_2)
                (try rw [show 0 * 6 = 0 from rfl] at hx127_2)
                (try rw [Addr.add_zero'] at hx127_2)
                (try rw [show ((0 : Int)).toNat = 0 from rfl] at hx127_3)
                (try rw [show 0 * 6 = 0 from rfl] at hx127_3)
                (try rw [Addr.add_zero'] at hx127_3)
                (try rw [show ((0 : Int)).toNat = 0 from rfl] at hx127_4)
                (try rw [show 0 * 6 = 0 from rfl] at hx127_4)
                (try rw [Addr.add_zero'] at hx127_4)
                (try rw [show ((0 : Int)).toNat = 0 from rfl] at hx127_5)
                (try rw [show 0 * 6 = 0 from rfl] at hx127_5)
                (try rw [Addr.add_zero'] at hx127_5)
                replace hx127_0 := (HB.out.cell (World.block_lt_of_cell? w _ hx127_0)).trans hx127_0
                replace hx127_1 := (HB.out.cell (World.block_lt_of_cell? w _ hx127_1)).trans hx127_1
                replace hx127_2 := (HB.out.cell (World.block_lt_of_cell? w _ hx127_2)).trans hx127_2
                replace hx127_3 := (HB.out.cell (World.block_lt_of_cell? w _ hx127_3)).trans hx127_3
                replace hx127_4 := (HB.out.cell (World.block_lt_of_cell? w _ hx127_4)).trans hx127_4
                replace hx127_5 := (HB.out.cell (World.block_lt_of_cell? w _ hx127_5)).trans hx127_5
                replace p127 := eq_true p127
                replace q127 := eq_true q127
                have p128 : 0 ≤ (0 : Int) := (by omega)
                have q128 : 0 < (l0_0.length : Int) := of_decide_eq_true (by first | (with_reducible assumption) | assumption)
                obtain ⟨ad128, e128, hx128_0, hx128_1, hx128_2, hx128_3, hx128_4, hx128_5⟩ := at_T63 HR0_0.out 0 p128 q128
                (try rw [← Nbq6.out] at hx128_4)
                obtain rfl : ad126 = ad128 := (by injection e128)
                have qi128 : (0 < l0_0.length) = True := eq_true (by omega)
                (try rw [show ((0 : Int)).toNat = 0 from rfl] at hx128_0)
                (try rw [show 0 * 6 = 0 from rfl] at hx128_0)
                (try rw [Addr.add_zero'] at hx128_0)
                (try rw [show ((0 : Int)).toNat = 0 from rfl] at hx128_1)
                (try rw [show 0 * 6 = 0 from rfl] at hx128_1)
                (try rw [Addr.add_zero'] at hx128_1)
                (try rw [show ((0 : Int)).toNat = 0 from rfl] at hx128_2)
                (try rw [show 0 * 6 = 0 from rfl] at hx128_2)
                (try rw [Addr.add_zero'] at hx128_2)
                (try rw [show ((0 : Int)).toNat = 0 from rfl] at hx128_3)
                (try rw [show 0 * 6 = 0 from rfl] at hx128_3)
                (try rw [Addr.add_zero'] at hx128_3)
                (try rw [show ((0 : Int)).toNat = 0 from rfl] at hx128_4)
                (try rw [show 0 * 6 = 0 from rfl] at hx128_4)
                (try rw [Addr.add_zero'] at hx128_4)
                (try rw [show ((0 : Int)).toNat = 0 from rfl] at hx128_5)
                (try rw [show 0 * 6 = 0 from rfl] at hx128_5)
                (try rw [Addr.add_zero'] at hx128_5)
                replace hx128_0 := (HB.out.cell (World.block_lt_of_cell? w _ hx128_0)).trans hx128_0
                replace hx128_1 := (HB.out.cell (World.block_lt_of_cell? w _ hx128_1)).trans hx128_1
                replace hx128_2 := (HB.out.cell (World.block_lt_of_cell? w _ hx128_2)).trans hx128_2
                replace hx128_3 := (HB.out.cell (World.block_lt_of_cell? w _ hx128_3)).trans hx128_3
                replace hx128_4 := (HB.out.cell (World.block_lt_of_cell? w _ hx128_4)).trans hx128_4
                replace hx128_5 := (HB.out.cell (World.block_lt_of_cell? w _ hx128_5)).trans hx128_5
                replace p128 := eq_true p128
                replace q128 := eq_true q128
                have p129 : 0 ≤ (0 : Int) := (by omega)
                have q129 : 0 < (l0_0.length : Int) := of_decide_eq_true (by first | (with_reducible assumption) | assumption)
                obtain ⟨ad129, e129, hx129_0, hx129_1, hx129_2, hx129_3, hx129_4, hx129_5⟩ := at_T63 HR0_0.out 0 p129 q129
                (try rw [← Nbq6.out] at hx129_4)
                obtain rfl : ad126 = ad129 := (by injection e129)
                have qi129 : (0 < l0_0.length) = True := eq_true (by omega)
                (try rw [show ((0 : Int)).toNat = 0 from rfl] at hx129_0)
                (try rw [show 0 * 6 = 0 from rfl] at hx129_0)
                (try rw [Addr.add_zero'] at hx129_0)
                (try rw [show ((0 : Int)).toNat = 0 from rfl] at hx129_1)
                (try rw [show 0 * 6 = 0 from rfl] at hx129_1)
                (try rw [Addr.add_zero'] at hx129_1)
                (try rw [show ((0 : Int)).toNat = 0 from rfl] at hx129_2)
                (try rw [show 0 * 6 = 0 from rfl] at hx129_2)
                (try rw [Addr.add_zero'] at hx129_2)
                (try rw [show ((0 : Int)).toNat = 0 from rfl] at hx129_3)
                (try rw [show 0 * 6 = 0 from rfl] at hx129_3)
                (try rw [Addr.add_zero'] at hx129_3)
                (try rw [show ((0 : Int)).toNat = 0 from rfl] at hx129_4)
                (try rw [show 0 * 6 = 0 from rfl] at hx129_4)
                (try rw [Addr.add_zero'] at hx129_4)
                (try rw [show ((0 : Int)).toNat = 0 from rfl] at hx129_5)
                (try rw [show 0 * 6 = 0 from rfl] at hx129_5)
                (try rw [Addr.add_zero'] at hx129_5)
                replace hx129_0 := (HB.out.cell (World.block_lt_of_cell? w _ hx129_0)).trans hx129_0
                replace hx129_1 := (HB.out.cell (World.block_lt_of_cell? w _ hx129_1)).trans hx129_1
                replace hx129_2 := (HB.out.cell (World.block_lt_of_cell? w _ hx129_2)).trans hx129_2
                replace hx129_3 := (HB.out.cell (World.block_lt_of_cell? w _ hx129_3)).trans hx129_3
                replace hx129_4 := (HB.out.cell (World.block_lt_of_cell? w _ hx129_4)).trans hx129_4
                replace hx129_5 := (HB.out.cell (World.block_lt_of_cell? w _ hx129_5)).trans hx129_5
                replace p129 := eq_true p129
                replace q129 := eq_true q129
                have p130 : 0 ≤ (0 : Int) := (by omega)
                have q130 : 0 < (l0_0.length : Int) := of_decide_eq_true (by first | (with_reducible assumption) | assumption)
                obtain ⟨ad130, e130, hx130_0, hx130_1, hx130_2, hx130_3, hx130_4, hx130_5⟩ := at_T63 HR0_0.out 0 p130 q130
                (try rw [← Nbq6.out] at hx130_4)
                obtain rfl : ad126 = ad130 := (by injection e130)
                have qi130 : (0 < l0_0.length) = True := eq_true (by omega)
                (try rw [show ((0 : Int)).toNat = 0 from rfl] at hx130_0)
                (try rw [show 0 * 6 = 0 from rfl] at hx130_0)
                (try rw [Addr.add_zero'] at hx130_0)
                (try rw [show ((0 : Int)).toNat = 0 from rfl] at hx130_1)
                (try rw [show 0 * 6 = 0 from rfl] at hx130_1)
                (try rw [Addr.add_zero'] at hx130_1)
                (try rw [show ((0 : Int)).toNat = 0 from rfl] at hx130_2)
                (try rw [show 0 * 6 = 0 from rfl] at hx130_2)
                (try rw [Addr.add_zero'] at hx130_2)
                (try rw [show ((0 : Int)).toNat = 0 from rfl] at hx130_3)
                (try rw [show 0 * 6 = 0 from rfl] at hx130_3)
                (try rw [Addr.add_zero'] at hx130_3)
                (try rw [show ((0 : Int)).toNat = 0 from rfl] at hx130_4)
                (try rw [show 0 * 6 = 0 from rfl] at hx130_4)
                (try rw [Addr.add_zero'] at hx130_4)
                (try rw [show ((0 : Int)).toNat = 0 from rfl] at hx130_5)
                (try rw [show 0 * 6 = 0 from rfl] at hx130_5)
                (try rw [Addr.add_zero'] at hx130_5)
                replace hx130_0 := (HB.out.cell (World.block_lt_of_cell? w _ hx130_0)).trans hx130_0
                replace hx130_1 := (HB.out.cell (World.block_lt_of_cell? w _ hx130_1)).trans hx130_1
                replace hx130_2 := (HB.out.cell (World.block_lt_of_cell? w _ hx130_2)).trans hx130_2
                replace hx130_3 := (HB.out.cell (World.block_lt_of_cell? w _ hx130_3)).trans hx130_3
                replace hx130_4 := (HB.out.cell (World.block_lt_of_cell? w _ hx130_4)).trans hx130_4
                replace hx130_5 := (HB.out.cell (World.block_lt_of_cell? w _ hx130_5)).trans hx130_5
                replace p130 := eq_true p130
                replace q130 := eq_true q130
                go_wp2_with (first | (go_at_call 67; (with_reducible refine (spec_WrdMark.calls ((rd_T63 l0_0 0).f2) t131 _ A11.out).mono ?_); rintro e w' ⟨rfl, ⟨nd, rfl⟩⟩))
                go_meet
                case rel => exact ⟨_, (t131), (by first | rfl | (simp; done) | (simp [*]; done)), H', ⟨by first | omega | exact Nat.le_refl _⟩, ⟨by (with_reducible repeat (first | refine blk_drewN ?_ _ | refine blk_drew ?_ | refine blk_alloc ?_ _)); exact BK125.out⟩, ⟨by repeat (first | (with_reducible first | exact HB.out | apply below_alloc | apply pw_below_drewN | apply below_drew1 | refine below_set ?_ GE125.out) | exact HB.out)⟩⟩
              · rw [if_neg c10] at H
                have c10b0 : (((rd_T63 l0_0 0).f1) == 0) = false := beq_eq_false_iff_ne.mpr c10
                have c10b1 : (((rd_T63 l0_0 0).f1) != 0) = true := bne_iff_ne.mpr c10
                have H' := Aside0.mk H
                clear H
                have hcz13_0 : w3.cell? ⟨gb125, 0, none⟩ = some (.slice A0_0 l0_0.length c0_0) := (blk_cell BK125.out 0).trans rfl
                have hcz13_1 : w3.cell? ⟨gb125, 1, none⟩ = some (.int .i64 a0_1) := (blk_cell BK125.out 1).trans rfl
                have hcz13_2 : w3.cell? ⟨gb125, 2, none⟩ = some (.int .i64 a0_2) := (blk_cell BK125.out 2).trans rfl
                have hcz13_3 : w3.cell? ⟨gb125, 3, none⟩ = some (.int .i64 a0_3) := (blk_cell BK125.out 3).trans rfl
                have hfz13_0 := blk_frozen BK125.out 0
                have hfz13_1 := blk_frozen BK125.out 1
                have hfz13_2 := blk_frozen BK125.out 2
                have hfz13_3 := blk_frozen BK125.out 3
                have p126 : 0 ≤ (0 : Int) := (by omega)
                have q126 : 0 < (l0_0.length : Int) := of_decide_eq_true (by first | (with_reducible assumption) | assumption)
                obtain ⟨ad126, e126, hx126_0, hx126_1, hx126_2, hx126_3, hx126_4, hx126_5⟩ := at_T63 HR0_0.out 0 p126 q126
                (try rw [← Nbq6.out] at hx126_4)
                cases e126
                have qi126 : (0 < l0_0.length) = True := eq_true (by omega)
                (try rw [show ((0 : Int)).toNat = 0 from rfl] at hx126_0)
                (try rw [show 0 * 6 = 0 from rfl] at hx126_0)
                (try rw [Addr.add_zero'] at hx126_0)
                (try rw [show ((0 : Int)).toNat = 0 from rfl] at hx126_1)
                (try rw [show 0 * 6 = 0 from rfl] at hx126_1)
                (try rw [Addr.add_zero'] at hx126_1)
                (try rw [show ((0 : Int)).toNat = 0 from rfl] at hx126_2)
                (try rw [show 0 * 6 = 0 from rfl] at hx126_2)
                (try rw [Addr.add_zero'] at hx126_2)
                (try rw [show ((0 : Int)).toNat = 0 from rfl] at hx126_3)
                (try rw [show 0 * 6 = 0 from rfl] at hx126_3)
                (try rw [Addr.add_zero'] at hx126_3)
                (try rw [show ((0 : Int)).toNat = 0 from rfl] at hx126_4)
                (try rw [show 0 * 6 = 0 from rfl] at hx126_4)
                (try rw [Addr.add_zero'] at hx126_4)
                (try rw [show ((0 : Int)).toNat = 0 from rfl] at hx126_5)
                (try rw [show 0 * 6 = 0 from rfl] at hx126_5)
                (try rw [Addr.add_zero'] at hx126_5)
                replace hx126_0 := (HB.out.cell (World.block_lt_of_cell? w _ hx126_0)).trans hx126_0
                replace hx126_1 := (HB.out.cell (World.block_lt_of_cell? w _ hx126_1)).trans hx126_1
                replace hx126_2 := (HB.out.cell (World.block_lt_of_cell? w _ hx126_2)).trans hx126_2
                replace hx126_3 := (HB.out.cell (World.block_lt_of_cell? w _ hx126_3)).trans hx126_3
                replace hx126_4 := (HB.out.cell (World.block_lt_of_cell? w _ hx126_4)).trans hx126_4
                replace hx126_5 := (HB.out.cell (World.block_lt_of_cell? w _ hx126_5)).trans hx126_5
                replace p126 := eq_true p126
                replace q126 := eq_true q126
                have p127 : 0 ≤ (0 : Int) := (by omega)
                have q127 : 0 < (l0_0.length : Int) := of_decide_eq_true (by first | (with_reducible assumption) | assumption)
                obtain ⟨ad127, e127, hx127_0, hx127_1, hx127_2, hx127_3, hx127_4, hx127_5⟩ := at_T63 HR0_0.out 0 p127 q127
                (try rw [← Nbq6.out] at hx127_4)
                obtain rfl : ad126 = ad127 := (by injection e127)
                have qi127 : (0 < l0_0.length) = True := eq_true (by omega)
                (try rw [show ((0 : Int)).toNat = 0 from rfl] at hx127_0)
                (try rw [show 0 * 6 = 0 from rfl] at hx127_0)
                (try rw [Addr.add_zero'] at hx127_0)
                (try rw [show ((0 : Int)).toNat = 0 from rfl] at hx127_1)
                (try rw [show 0 * 6 = 0 from rfl] at hx127_1)
                (try rw [Addr.add_zero'] at hx127_1)
                (try rw [show ((0 : Int)).toNat = 0 from rfl] at hx127_2)
                (try rw [show 0 * 6 = 0 from rfl] at hx127_2)
                (try rw [Addr.add_zero'] at hx127_2)
                (try rw [show ((0 : Int)).toNat = 0 from rfl] at hx127_3)
                (try rw [show 0 * 6 = 0 from rfl] at hx127_3)
                (try rw [Addr.add_zero'] at hx127_3)
                (try rw [show ((0 : Int)).toNat = 0 from rfl] at hx127_4)
                (try rw [show 0 * 6 = 0 from rfl] at hx127_4)
                (try rw [Addr.add_zero'] at hx127_4)
                (try rw [show ((0 : Int)).toNat = 0 from rfl] at hx127_5)
                (try rw [show 0 * 6 = 0 from rfl] at hx127_5)
                (try rw [Addr.add_zero'] at hx127_5)
                replace hx127_0 := (HB.out.cell (World.block_lt_of_cell? w _ hx127_0)).trans hx127_0
                replace hx127_1 := (HB.out.cell (World.block_lt_of_cell? w _ hx127_1)).trans hx127_1
                replace hx127_2 := (HB.out.cell (World.block_lt_of_cell? w _ hx127_2)).trans hx127_2
                replace hx127_3 := (HB.out.cell (World.block_lt_of_cell? w _ hx127_3)).trans hx127_3
                replace hx127_4 := (HB.out.cell (World.block_lt_of_cell? w _ hx127_4)).trans hx127_4
                replace hx127_5 := (HB.out.cell (World.block_lt_of_cell? w _ hx127_5)).trans hx127_5
                replace p127 := eq_true p127
                replace q127 := eq_true q127
                have p128 : 0 ≤ (0 : Int) := (by omega)
                have q128 : 0 < (l0_0.length : Int) := of_decide_eq_true (by first | (with_reducible assumption) | assumption)
                obtain ⟨ad128, e128, hx128_0, hx128_1, hx128_2, hx128_3, hx128_4, hx128_5⟩ := at_T63 HR0_0.out 0 p128 q128
                (try rw [← Nbq6.out] at hx128_4)
                obtain rfl : ad126 = ad128 := (by injection e128)
                have qi128 : (0 < l0_0.length) = True := eq_true (by omega)
                (try rw [show ((0 : Int)).toNat = 0 from rfl] at hx128_0)
                (try rw [show 0 * 6 = 0 from rfl] at hx128_0)
                (try rw [Addr.add_zero'] at hx128_0)
                (try rw [show ((0 : Int)).toNat = 0 from rfl] at hx128_1)
                (try rw [show 0 * 6 = 0 from rfl] at hx128_1)
                (try rw [Addr.add_zero'] at hx128_1)
                (try rw [show ((0 : Int)).toNat = 0 from rfl] at hx128_2)
                (try rw [show 0 * 6 = 0 from rfl] at hx128_2)
                (try rw [Addr.add_zero'] at hx128_2)
                (try rw [show ((0 : Int)).toNat = 0 from rfl] at hx128_3)
                (try rw [show 0 * 6 = 0 from rfl] at hx128_3)
                (try rw [Addr.add_zero'] at hx128_3)
                (try rw [show ((0 : Int)).toNat = 0 from rfl] at hx128_4)
                (try rw [show 0 * 6 = 0 from rfl] at hx128_4)
                (try rw [Addr.add_zero'] at hx128_4)
                (try rw [show ((0 : Int)).toNat = 0 from rfl] at hx128_5)
                (try rw [show 0 * 6 = 0 from rfl] at hx128_5)
                (try rw [Addr.add_zero'] at hx128_5)
                replace hx128_0 := (HB.out.cell (World.block_lt_of_cell? w _ hx128_0)).trans hx128_0
                replace hx128_1 := (HB.out.cell (World.block_lt_of_cell? w _ hx128_1)).trans hx128_1
                replace hx128_2 := (HB.out.cell (World.block_lt_of_cell? w _ hx128_2)).trans hx128_2
                replace hx128_3 := (HB.out.cell (World.block_lt_of_cell? w _ hx128_3)).trans hx128_3
                replace hx128_4 := (HB.out.cell (World.block_lt_of_cell? w _ hx128_4)).trans hx128_4
                replace hx128_5 := (HB.out.cell (World.block_lt_of_cell? w _ hx128_5)).trans hx128_5
                replace p128 := eq_true p128
                replace q128 := eq_true q128
                have p129 : 0 ≤ (0 : Int) := (by omega)
                have q129 : 0 < (l0_0.length : Int) := of_decide_eq_true (by first | (with_reducible assumption) | assumption)
                obtain ⟨ad129, e129, hx129_0, hx129_1, hx129_2, hx129_3, hx129_4, hx129_5⟩ := at_T63 HR0_0.out 0 p129 q129
                (try rw [← Nbq6.out] at hx129_4)
                obtain rfl : ad126 = ad129 := (by injection e129)
                have qi129 : (0 < l0_0.length) = True := eq_true (by omega)
                (try rw [show ((0 : Int)).toNat = 0 from rfl] at hx129_0)
                (try rw [show 0 * 6 = 0 from rfl] at hx129_0)
                (try rw [Addr.add_zero'] at hx129_0)
                (try rw [show ((0 : Int)).toNat = 0 from rfl] at hx129_1)
                (try rw [show 0 * 6 = 0 from rfl] at hx129_1)
                (try rw [Addr.add_zero'] at hx129_1)
                (try rw [show ((0 : Int)).toNat = 0 from rfl] at hx129_2)
                (try rw [show 0 * 6 = 0 from rfl] at hx129_2)
                (try rw [Addr.add_zero'] at hx129_2)
                (try rw [show ((0 : Int)).toNat = 0 from rfl] at hx129_3)
                (try rw [show 0 * 6 = 0 from rfl] at hx129_3)
                (try rw [Addr.add_zero'] at hx129_3)
                (try rw [show ((0 : Int)).toNat = 0 from rfl] at hx129_4)
                (try rw [show 0 * 6 = 0 from rfl] at hx129_4)
                (try rw [Addr.add_zero'] at hx129_4)
                (try rw [show ((0 : Int)).toNat = 0 from rfl] at hx129_5)
                (try rw [show 0 * 6 = 0 from rfl] at hx129_5)
                (try rw [Addr.add_zero'] at hx129_5)
                replace hx129_0 := (HB.out.cell (World.block_lt_of_cell? w _ hx129_0)).trans hx129_0
                replace hx129_1 := (HB.out.cell (World.block_lt_of_cell? w _ hx129_1)).trans hx129_1
                replace hx129_2 := (HB.out.cell (World.block_lt_of_cell? w _ hx129_2)).trans hx129_2
                replace hx129_3 := (HB.out.cell (World.block_lt_of_cell? w _ hx129_3)).trans hx129_3
                replace hx129_4 := (HB.out.cell (World.block_lt_of_cell? w _ hx129_4)).trans hx129_4
                replace hx129_5 := (HB.out.cell (World.block_lt_of_cell? w _ hx129_5)).trans hx129_5
                replace p129 := eq_true p129
                replace q129 := eq_true q129
                go_wp2
                go_meet
                case rel => exact ⟨_, (true), (by first | rfl | (simp; done) | (simp [*]; done)), H', ⟨by first | omega | exact Nat.le_refl _⟩, ⟨by (with_reducible repeat (first | refine blk_drewN ?_ _ | refine blk_drew ?_ | refine blk_alloc ?_ _)); exact BK125.out⟩, ⟨by repeat (first | (with_reducible first | exact HB.out | apply below_alloc | apply pw_below_drewN | apply below_drew1 | refine below_set ?_ GE125.out) | exact HB.out)⟩⟩
            · rw [if_neg c9] at H
              have c9b0 : (((rd_T63 l0_0 0).f0) == 0) = false := beq_eq_false_iff_ne.mpr c9
              have c9b1 : (((rd_T63 l0_0 0).f0) != 0) = true := bne_iff_ne.mpr c9
              have H' := Aside0.mk H
              clear H
              have hcz14_0 : w3.cell? ⟨gb125, 0, none⟩ = some (.slice A0_0 l0_0.length c0_0) := (blk_cell BK125.out 0).trans rfl
              have hcz14_1 : w3.cell? ⟨gb125, 1, none⟩ = some (.int .i64 a0_1) := (blk_cell BK125.out 1).trans rfl
              have hcz14_2 : w3.cell? ⟨gb125, 2, none⟩ = some (.int .i64 a0_2) := (blk_cell BK125.out 2).trans rfl
              have hcz14_3 : w3.cell? ⟨gb125, 3, none⟩ = some (.int .i64 a0_3) := (blk_cell BK125.out 3).trans rfl
              have hfz14_0 := blk_frozen BK125.out 0
              have hfz14_1 := blk_frozen BK125.out 1
              have hfz14_2 := blk_frozen BK125.out 2
              have hfz14_3 := blk_frozen BK125.out 3
              have p126 : 0 ≤ (0 : Int) := (by omega)
              have q126 : 0 < (l0_0.length : Int) := of_decide_eq_true (by first | (with_reducible assumption) | assumption)
              obtain ⟨ad126, e126, hx126_0, hx126_1, hx126_2, hx126_3, hx126_4, hx126_5⟩ := at_T63 HR0_0.out 0 p126 q126
              (try rw [← Nbq6.out] at hx126_4)
              cases e126
              have qi126 : (0 < l0_0.length) = True := eq_true (by omega)
              (try rw [show ((0 : Int)).toNat = 0 from rfl] at hx126_0)
              (try rw [show 0 * 6 = 0 from rfl] at hx126_0)
              (try rw [Addr.add_zero'] at hx126_0)
              (try rw [show ((0 : Int)).toNat = 0 from rfl] at hx126_1)
              (try rw [show 0 * 6 = 0 from rfl] at hx126_1)
              (try rw [Addr.add_zero'] at hx126_1)
              (try rw [show ((0 : Int)).toNat = 0 from rfl] at hx126_2)
              (try rw [show 0 * 6 = 0 from rfl] at hx126_2)
              (try rw [Addr.add_zero'] at hx126_2)
              (try rw [show ((0 : Int)).toNat = 0 from rfl] at hx126_3)
              (try rw [show 0 * 6 = 0 from rfl] at hx126_3)
              (try rw [Addr.add_zero'] at hx126_3)
              (try rw [show ((0 : Int)).toNat = 0 from rfl] at hx126_4)
              (try rw [show 0 * 6 = 0 from rfl] at hx126_4)
              (try rw [Addr.add_zero'] at hx126_4)
              (try rw [show ((0 : Int)).toNat = 0 from rfl] at hx126_5)
              (try rw [show 0 * 6 = 0 from rfl] at hx126_5)
              (try rw [Addr.add_zero'] at hx126_5)
              replace hx126_0 := (HB.out.cell (World.block_lt_of_cell? w _ hx126_0)).trans hx126_0
              replace hx126_1 := (HB.out.cell (World.block_lt_of_cell? w _ hx126_1)).trans hx126_1
              replace hx126_2 := (HB.out.cell (World.block_lt_of_cell? w _ hx126_2)).trans hx126_2
              replace hx126_3 := (HB.out.cell (World.block_lt_of_cell? w _ hx126_3)).trans hx126_3
              replace hx126_4 := (HB.out.cell (World.block_lt_of_cell? w _ hx126_4)).trans hx126_4
              replace hx126_5 := (HB.out.cell (World.block_lt_of_cell? w _ hx126_5)).trans hx126_5
              replace p126 := eq_true p126
              replace q126 := eq_true q126
              have p127 : 0 ≤ (0 : Int) := (by omega)
              have q127 : 0 < (l0_0.length : Int) := of_decide_eq_true (by first | (with_reducible assumption) | assumption)
              obtain ⟨ad127, e127, hx127_0, hx127_1, hx127_2, hx127_3, hx127_4, hx127_5⟩ := at_T63 HR0_0.out 0 p127 q127
              (try rw [← Nbq6.out] at hx127_4)
              obtain rfl : ad126 = ad127 := (by injection e127)
              have qi127 : (0 < l0_0.length) = True := eq_true (by omega)
              (try rw [show ((0 : Int)).toNat = 0 from rfl] at hx127_0)
              (try rw [show 0 * 6 = 0 from rfl] at hx127_0)
              (try rw [Addr.add_zero'] at hx127_0)
              (try rw [show ((0 : Int)).toNat = 0 from rfl] at hx127_1)
              (try rw [show 0 * 6 = 0 from rfl] at hx127_1)
              (try rw [Addr.add_zero'] at hx127_1)
              (try rw [show ((0 : Int)).toNat = 0 from rfl] at hx127_2)
              (try rw [show 0 * 6 = 0 from rfl] at hx127_2)
              (try rw [Addr.add_zero'] at hx127_2)
              (try rw [show ((0 : Int)).toNat = 0 from rfl] at hx127_3)
              (try rw [show 0 * 6 = 0 from rfl] at hx127_3)
              (try rw [Addr.add_zero'] at hx127_3)
              (try rw [show ((0 : Int)).toNat = 0 from rfl] at hx127_4)
              (try rw [show 0 * 6 = 0 from rfl] at hx127_4)
              (try rw [Addr.add_zero'] at hx127_4)
              (try rw [show ((0 : Int)).toNat = 0 from rfl] at hx127_5)
              (try rw [show 0 * 6 = 0 from rfl] at hx127_5)
              (try rw [Addr.add_zero'] at hx127_5)
              replace hx127_0 := (HB.out.cell (World.block_lt_of_cell? w _ hx127_0)).trans hx127_0
              replace hx127_1 := (HB.out.cell (World.block_lt_of_cell? w _ hx127_1)).trans hx127_1
              replace hx127_2 := (HB.out.cell (World.block_lt_of_cell? w _ hx127_2)).trans hx127_2
              replace hx127_3 := (HB.out.cell (World.block_lt_of_cell? w _ hx127_3)).trans hx127_3
              replace hx127_4 := (HB.out.cell (World.block_lt_of_cell? w _ hx127_4)).trans hx127_4
              replace hx127_5 := (HB.out.cell (World.block_lt_of_cell? w _ hx127_5)).trans hx127_5
              replace p127 := eq_true p127
              replace q127 := eq_true q127
              have p128 : 0 ≤ (0 : Int) := (by omega)
              have q128 : 0 < (l0_0.length : Int) := of_decide_eq_true (by first | (with_reducible assumption) | assumption)
              obtain ⟨ad128, e128, hx128_0, hx128_1, hx128_2, hx128_3, hx128_4, hx128_5⟩ := at_T63 HR0_0.out 0 p128 q128
              (try rw [← Nbq6.out] at hx128_4)
              obtain rfl : ad126 = ad128 := (by injection e128)
              have qi128 : (0 < l0_0.length) = True := eq_true (by omega)
              (try rw [show ((0 : Int)).toNat = 0 from rfl] at hx128_0)
              (try rw [show 0 * 6 = 0 from rfl] at hx128_0)
              (try rw [Addr.add_zero'] at hx128_0)
              (try rw [show ((0 : Int)).toNat = 0 from rfl] at hx128_1)
              (try rw [show 0 * 6 = 0 from rfl] at hx128_1)
              (try rw [Addr.add_zero'] at hx128_1)
              (try rw [show ((0 : Int)).toNat = 0 from rfl] at hx128_2)
              (try rw [show 0 * 6 = 0 from rfl] at hx128_2)
              (try rw [Addr.add_zero'] at hx128_2)
              (try rw [show ((0 : Int)).toNat = 0 from rfl] at hx128_3)
              (try rw [show 0 * 6 = 0 from rfl] at hx128_3)
              (try rw [Addr.add_zero'] at hx128_3)
              (try rw [show ((0 : Int)).toNat = 0 from rfl] at hx128_4)
              (try rw [show 0 * 6 = 0 from rfl] at hx128_4)
              (try rw [Addr.add_zero'] at hx128_4)
              (try rw [show ((0 : Int)).toNat = 0 from rfl] at hx128_5)
              (try rw [show 0 * 6 = 0 from rfl] at hx128_5)
              (try rw [Addr.add_zero'] at hx128_5)
              replace hx128_0 := (HB.out.cell (World.block_lt_of_cell? w _ hx128_0)).trans hx128_0
              replace hx128_1 := (HB.out.cell (World.block_lt_of_cell? w _ hx128_1)).trans hx128_1
              replace hx128_2 := (HB.out.cell (World.block_lt_of_cell? w _ hx128_2)).trans hx128_2
              replace hx128_3 := (HB.out.cell (World.block_lt_of_cell? w _ hx128_3)).trans hx128_3
              replace hx128_4 := (HB.out.cell (World.block_lt_of_cell? w _ hx128_4)).trans hx128_4
              replace hx128_5 := (HB.out.cell (World.block_lt_of_cell? w _ hx128_5)).trans hx128_5
              replace p128 := eq_true p128
              replace q128 := eq_true q128
              go_wp2
              go_meet
              case rel => exact ⟨_, (true), (by first | rfl | (simp; done) | (simp [*]; done)), H', ⟨by first | omega | exact Nat.le_refl _⟩, ⟨by (with_reducible repeat (first | refine blk_drewN ?_ _ | refine blk_drew ?_ | refine blk_alloc ?_ _)); exact BK125.out⟩, ⟨by repeat (first | (with_reducible first | exact HB.out | apply below_alloc | apply pw_below_drewN | apply below_drew1 | refine below_set ?_ GE125.out) | exact HB.out)⟩⟩
          · rw [if_neg c8] at H
            have c8b0 : (((rd_T63 l0_0 0).f5) == 0) = false := beq_eq_false_iff_ne.mpr c8
            have c8b1 : (((rd_T63 l0_0 0).f5) != 0) = true := bne_iff_ne.mpr c8
            have H' := Aside0.mk H
            clear H
            have hcz15_0 : w3.cell? ⟨gb125, 0, none⟩ = some (.slice A0_0 l0_0.length c0_0) := (blk_cell BK125.out 0).trans rfl
            have hcz15_1 : w3.cell? ⟨gb125, 1, none⟩ = some (.int .i64 a0_1) := (blk_cell BK125.out 1).trans rfl
            have hcz15_2 : w3.cell? ⟨gb125, 2, none⟩ = some (.int .i64 a0_2) := (blk_cell BK125.out 2).trans rfl
            have hcz15_3 : w3.cell? ⟨gb125, 3, none⟩ = some (.int .i64 a0_3) := (blk_cell BK125.out 3).trans rfl
            have hfz15_0 := blk_frozen BK125.out 0
            have hfz15_1 := blk_frozen BK125.out 1
            have hfz15_2 := blk_frozen BK125.out 2
            have hfz15_3 := blk_frozen BK125.out 3
            have p126 : 0 ≤ (0 : Int) := (by omega)
            have q126 : 0 < (l0_0.length : Int) := of_decide_eq_true (by first | (with_reducible assumption) | assumption)
            obtain ⟨ad126, e126, hx126_0, hx126_1, hx126_2, hx126_3, hx126_4, hx126_5⟩ := at_T63 HR0_0.out 0 p126 q126
            (try rw [← Nbq6.out] at hx126_4)
            cases e126
            have qi126 : (0 < l0_0.length) = True := eq_true (by omega)
            (try rw [show ((0 : Int)).toNat = 0 from rfl] at hx126_0)
            (try rw [show 0 * 6 = 0 from rfl] at hx126_0)
            (try rw [Addr.add_zero'] at hx126_0)
            (try rw [show ((0 : Int)).toNat = 0 from rfl] at hx126_1)
            (try rw [show 0 * 6 = 0 from rfl] at hx126_1)
            (try rw [Addr.add_zero'] at hx126_1)
            (try rw [show ((0 : Int)).toNat = 0 from rfl] at hx126_2)
            (try rw [show 0 * 6 = 0 from rfl] at hx126_2)
            (try rw [Addr.add_zero'] at hx126_2)
            (try rw [show ((0 : Int)).toNat = 0 from rfl] at hx126_3)
            (try rw [show 0 * 6 = 0 from rfl] at hx126_3)
            (try rw [Addr.add_zero'] at hx126_3)
            (try rw [show ((0 : Int)).toNat = 0 from rfl] at hx126_4)
            (try rw [show 0 * 6 = 0 from rfl] at hx126_4)
            (try rw [Addr.add_zero'] at hx126_4)
            (try rw [show ((0 : Int)).toNat = 0 from rfl] at hx126_5)
            (try rw [show 0 * 6 = 0 from rfl] at hx126_5)
            (try rw [Addr.add_zero'] at hx126_5)
            replace hx126_0 := (HB.out.cell (World.block_lt_of_cell? w _ hx126_0)).trans hx126_0
            replace hx126_1 := (HB.out.cell (World.block_lt_of_cell? w _ hx126_1)).trans hx126_1
            replace hx126_2 := (HB.out.cell (World.block_lt_of_cell? w _ hx126_2)).trans hx126_2
            replace hx126_3 := (HB.out.cell (World.block_lt_of_cell? w _ hx126_3)).trans hx126_3
            replace hx126_4 := (HB.out.cell (World.block_lt_of_cell? w _ hx126_4)).trans hx126_4
            replace hx126_5 := (HB.out.cell (World.block_lt_of_cell? w _ hx126_5)).trans hx126_5
            replace p126 := eq_true p126
            replace q126 := eq_true q126
            have p127 : 0 ≤ (0 : Int) := (by omega)
            have q127 : 0 < (l0_0.length : Int) := of_decide_eq_true (by first | (with_reducible assumption) | assumption)
            obtain ⟨ad127, e127, hx127_0, hx127_1, hx127_2, hx127_3, hx127_4, hx127_5⟩ := at_T63 HR0_0.out 0 p127 q127
            (try rw [← Nbq6.out] at hx127_4)
            obtain rfl : ad126 = ad127 := (by injection e127)
            have qi127 : (0 < l0_0.length) = True := eq_true (by omega)
            (try rw [show ((0 : Int)).toNat = 0 from rfl] at hx127_0)
            (try rw [show 0 * 6 = 0 from rfl] at hx127_0)
            (try rw [Addr.add_zero'] at hx127_0)
            (try rw [show ((0 : Int)).toNat = 0 from rfl] at hx127_1)
            (try rw [show 0 * 6 = 0 from rfl] at hx127_1)
            (try rw [Addr.add_zero'] at hx127_1)
            (try rw [show ((0 : Int)).toNat = 0 from rfl] at hx127_2)
            (try rw [show 0 * 6 = 0 from rfl] at hx127_2)
            (try rw [Addr.add_zero'] at hx127_2)
            (try rw [show ((0 : Int)).toNat = 0 from rfl] at hx127_3)
            (try rw [show 0 * 6 = 0 from rfl] at hx127_3)
            (try rw [Addr.add_zero'] at hx127_3)
            (try rw [show ((0 : Int)).toNat = 0 from rfl] at hx127_4)
            (try rw [show 0 * 6 = 0 from rfl] at hx127_4)
            (try rw [Addr.add_zero'] at hx127_4)
            (try rw [show ((0 : Int)).toNat = 0 from rfl] at hx127_5)
            (try rw [show 0 * 6 = 0 from rfl] at hx127_5)
            (try rw [Addr.add_zero'] at hx127_5)
            replace hx127_0 := (HB.out.cell (World.block_lt_of_cell? w _ hx127_0)).trans hx127_0
            replace hx127_1 := (HB.out.cell (World.block_lt_of_cell? w _ hx127_1)).trans hx127_1
            replace hx127_2 := (HB.out.cell (World.block_lt_of_cell? w _ hx127_2)).trans hx127_2
            replace hx127_3 := (HB.out.cell (World.block_lt_of_cell? w _ hx127_3)).trans hx127_3
            replace hx127_4 := (HB.out.cell (World.block_lt_of_cell? w _ hx127_4)).trans hx127_4
            replace hx127_5 := (HB.out.cell (World.block_lt_of_cell? w _ hx127_5)).trans hx127_5
            replace p127 := eq_true p127
            replace q127 := eq_true q127
            go_wp2
            go_meet
            case rel => exact ⟨_, (true), (by first | rfl | (simp; done) | (simp [*]; done)), H', ⟨by first | omega | exact Nat.le_refl _⟩, ⟨by (with_reducible repeat (first | refine blk_drewN ?_ _ | refine blk_drew ?_ | refine blk_alloc ?_ _)); exact BK125.out⟩, ⟨by repeat (first | (with_reducible first | exact HB.out | apply below_alloc | apply pw_below_drewN | apply below_drew1 | refine below_set ?_ GE125.out) | exact HB.out)⟩⟩
        · replace c7 := Bool.eq_false_iff.mpr c7
          subst c7
          have H1 : (spec_l2Shape.j0 k true l0_0 a0_1 a0_2 a0_3) = some r := by rw [if_neg (show ¬ (false = true) by decide)] at H; exact H
          clear H
          have H := H1
          clear H1
          have H' := Aside0.mk H
          clear H
          have hcz16_0 : w3.cell? ⟨gb125, 0, none⟩ = some (.slice A0_0 l0_0.length c0_0) := (blk_cell BK125.out 0).trans rfl
          have hcz16_1 : w3.cell? ⟨gb125, 1, none⟩ = some (.int .i64 a0_1) := (blk_cell BK125.out 1).trans rfl
          have hcz16_2 : w3.cell? ⟨gb125, 2, none⟩ = some (.int .i64 a0_2) := (blk_cell BK125.out 2).trans rfl
          have hcz16_3 : w3.cell? ⟨gb125, 3, none⟩ = some (.int .i64 a0_3) := (blk_cell BK125.out 3).trans rfl
          have hfz16_0 := blk_frozen BK125.out 0
          have hfz16_1 := blk_frozen BK125.out 1
          have hfz16_2 := blk_frozen BK125.out 2
          have hfz16_3 := blk_frozen BK125.out 3
          have p126 : 0 ≤ (0 : Int) := (by omega)
          have q126 : 0 < (l0_0.length : Int) := of_decide_eq_true (by first | (with_reducible assumption) | assumption)
          obtain ⟨ad126, e126, hx126_0, hx126_1, hx126_2, hx126_3, hx126_4, hx126_5⟩ := at_T63 HR0_0.out 0 p126 q126
          (try rw [← Nbq6.out] at hx126_4)
          cases e126
          have qi126 : (0 < l0_0.length) = True := eq_true (by omega)
          (try rw [show ((0 : Int)).toNat = 0 from rfl] at hx126_0)
          (try rw [show 0 * 6 = 0 from rfl] at hx126_0)
          (try rw [Addr.add_zero'] at hx126_0)
          (try rw [show ((0 : Int)).toNat = 0 from rfl] at hx126_1)
          (try rw [show 0 * 6 = 0 from rfl] at hx126_1)
          (try rw [Addr.add_zero'] at hx126_1)
          (try rw [show ((0 : Int)).toNat = 0 from rfl] at hx126_2)
          (try rw [show 0 * 6 = 0 from rfl] at hx126_2)
          (try rw [Addr.add_zero'] at hx126_2)
          (try rw [show ((0 : Int)).toNat = 0 from rfl] at hx126_3)
          (try rw [show 0 * 6 = 0 from rfl] at hx126_3)
          (try rw [Addr.add_zero'] at hx126_3)
          (try rw [show ((0 : Int)).toNat = 0 from rfl] at hx126_4)
          (try rw [show 0 * 6 = 0 from rfl] at hx126_4)
          (try rw [Addr.add_zero'] at hx126_4)
          (try rw [show ((0 : Int)).toNat = 0 from rfl] at hx126_5)
          (try rw [show 0 * 6 = 0 from rfl] at hx126_5)
          (try rw [Addr.add_zero'] at hx126_5)
          replace hx126_0 := (HB.out.cell (World.block_lt_of_cell? w _ hx126_0)).trans hx126_0
          replace hx126_1 := (HB.out.cell (World.block_lt_of_cell? w _ hx126_1)).trans hx126_1
          replace hx126_2 := (HB.out.cell (World.block_lt_of_cell? w _ hx126_2)).trans hx126_2
          replace hx126_3 := (HB.out.cell (World.block_lt_of_cell? w _ hx126_3)).trans hx126_3
          replace hx126_4 := (HB.out.cell (World.block_lt_of_cell? w _ hx126_4)).trans hx126_4
          replace hx126_5 := (HB.out.cell (World.block_lt_of_cell? w _ hx126_5)).trans hx126_5
          replace p126 := eq_true p126
          replace q126 := eq_true q126
          go_wp2
          go_meet
          case rel => exact ⟨_, (true), (by first | rfl | (simp; done) | (simp [*]; done)), H', ⟨by first | omega | exact Nat.le_refl _⟩, ⟨by (with_reducible repeat (first | refine blk_drewN ?_ _ | refine blk_drew ?_ | refine blk_alloc ?_ _)); exact BK125.out⟩, ⟨by repeat (first | (with_reducible first | exact HB.out | apply below_alloc | apply pw_below_drewN | apply below_drew1 | refine below_set ?_ GE125.out) | exact HB.out)⟩⟩
      · rw [if_neg c5] at H
        exact absurd H (by simp)
    · rw [if_neg c4] at H
      have c4b0 : ((l0_0.length : Int) == 10) = false := beq_eq_false_iff_ne.mpr c4
      have c4b1 : ((l0_0.length : Int) != 10) = true := bne_iff_ne.mpr c4
      (first | rw [c4b0] | (simp only [i64_w, i32_w]; rw [c4b0]) | skip)
      have H' := Aside0.mk H
      clear H
      have hcz17_0 : w3.cell? ⟨gb125, 0, none⟩ = some (.slice A0_0 l0_0.length c0_0) := (blk_cell BK125.out 0).trans rfl
      have hcz17_1 : w3.cell? ⟨gb125, 1, none⟩ = some (.int .i64 a0_1) := (blk_cell BK125.out 1).trans rfl
      have hcz17_2 : w3.cell? ⟨gb125, 2, none⟩ = some (.int .i64 a0_2) := (blk_cell BK125.out 2).trans rfl
      have hcz17_3 : w3.cell? ⟨gb125, 3, none⟩ = some (.int .i64 a0_3) := (blk_cell BK125.out 3).trans rfl
      have hfz17_0 := blk_frozen BK125.out 0
      have hfz17_1 := blk_frozen BK125.out 1
      have hfz17_2 := blk_frozen BK125.out 2
      have hfz17_3 := blk_frozen BK125.out 3
      go_wp2
      go_meet
      case rel => exact ⟨_, (true), (by first | rfl | (simp; done) | (simp [*]; done)), H', ⟨by first | omega | exact Nat.le_refl _⟩, ⟨by (with_reducible repeat (first | refine blk_drewN ?_ _ | refine blk_drew ?_ | refine blk_alloc ?_ _)); exact BK125.out⟩, ⟨by repeat (first | (with_reducible first | exact HB.out | apply below_alloc | apply pw_below_drewN | apply below_drew1 | refine below_set ?_ GE125.out) | exact HB.out)⟩⟩
  case rest =>
    clear HC2
    try clear c1
    try clear p1
    try clear q1
    try clear hx1
    try clear qi1
    try clear p2
    try clear c4
    try clear c4b0
    try clear c4b1
    try clear c5
    try clear q6
    try clear c7
    try clear c8
    try clear c8b0
    try clear c8b1
    try clear c9
    try clear c9b0
    try clear c9b1
    try clear c10
    try clear c10b0
    try clear c10b1
    try clear p12
    try clear q12
    try clear hx12
    try clear qi12
    try clear p13
    try clear q13
    try clear hx13
    try clear qi13
    try clear hcz12_0
    try clear hcz12_1
    try clear hcz12_2
    try clear hcz12_3
    try clear hcz13_0
    try clear hcz13_1
    try clear hcz13_2
    try clear hcz13_3
    try clear hcz14_0
    try clear hcz14_1
    try clear hcz14_2
    try clear hcz14_3
    try clear hcz15_0
    try clear hcz15_1
    try clear hcz15_2
    try clear hcz15_3
    try clear hcz16_0
    try clear hcz16_1
    try clear hcz16_2
    try clear hcz16_3
    try clear hcz17_0
    try clear hcz17_1
    try clear hcz17_2
    try clear hcz17_3
    try clear hfz12_0
    try clear hfz12_1
    try clear hfz12_2
    try clear hfz12_3
    try clear hfz13_0
    try clear hfz13_1
    try clear hfz13_2
    try clear hfz13_3
    try clear hfz14_0
    try clear hfz14_1
    try clear hfz14_2
    try clear hfz14_3
    try clear hfz15_0
    try clear hfz15_1
    try clear hfz15_2
    try clear hfz15_3
    try clear hfz16_0
    try clear hfz16_1
    try clear hfz16_2
    try clear hfz16_3
    try clear hfz17_0
    try clear hfz17_1
    try clear hfz17_2
    try clear hfz17_3
    try clear hx126_0
    try clear hx126_1
    try clear hx126_2
    try clear hx126_3
    try clear hx126_4
    try clear hx126_5
    try clear hx127_0
    try clear hx127_1
    try clear hx127_2
    try clear hx127_3
    try clear hx127_4
    try clear hx127_5
    try clear hx128_0
    try clear hx128_1
    try clear hx128_2
    try clear hx128_3
    try clear hx128_4
    try clear hx128_5
    try clear hx129_0
    try clear hx129_1
    try clear hx129_2
    try clear hx129_3
    try clear hx129_4
    try clear hx129_5
    try clear hx130_0
    try clear hx130_1
    try clear hx130_2
    try clear hx130_3
    try clear hx130_4
    try clear hx130_5
    try clear p126
    try clear p127
    try clear p128
    try clear p129
    try clear p130
    try clear q126
    try clear q127
    try clear q128
    try clear q129
    try clear q130
    obtain ⟨kq, x47_1, rfl, HA, HJ1, BK125, HB⟩ := hcut
    cases kq with
    | zero => exact absurd HA.out (by simp [spec_l2Shape.j0])
    | succ kj1 =>
      have H := HA.out
      clear HA
      simp only [spec_l2Shape.j0] at H
      by_cases c18 : x47_1 = true
      · subst c18
        have H1 : (some false) = some r := by rw [if_pos rfl] at H; exact H
        clear H
        have H := H1
        clear H1
        obtain rfl := Option.some.inj H
        go_wp2
        go_ret
        exact ⟨by first | rfl | (simp [errW_none, errW_some] <;> rfl) | (simp [*, errW_none, errW_some] <;> rfl), by repeat (first | (with_reducible first | exact HB.out | apply below_alloc | apply pw_below_drewN | apply below_drew1 | refine below_set ?_ GE125.out) | exact HB.out)⟩
      · replace c18 := Bool.eq_false_iff.mpr c18
        subst c18
        have H1 : (spec_l2Shape.l0 kj1 0 l0_0 a0_1 a0_2 a0_3) = some r := by rw [if_neg (show ¬ (false = true) by decide)] at H; exact H
        clear H
        have H := H1
        clear H1
        have H' := Aside0.mk H
        clear H
        go_wp2
        go_loopg [3] kj1 (fun kq v3 w' => ∃ (x3_2 : Int), v3 = .int .i64 x3_2 ∧ Aside0 (spec_l2Shape.l0 kq x3_2 l0_0 a0_1 a0_2 a0_3 = some r) ∧ Aside0 (kq ≤ kj1) ∧ Aside0 (w'.heap[gb125]? = some (.cells #[(.slice A0_0 l0_0.length c0_0), .int .i64 a0_1, .int .i64 a0_2, .int .i64 a0_3] 24 (0, 0))) ∧ Aside0 (Below w.heap.size w w'))
        case atStart => exact ⟨(0), (by first | rfl | (simp; done) | (simp [*]; done)), H', ⟨Nat.le_refl _⟩, ⟨by (with_reducible repeat (first | refine blk_drewN ?_ _ | refine blk_drew ?_ | refine blk_alloc ?_ _)); exact BK125.out⟩, ⟨by repeat (first | (with_reducible first | exact HB.out | apply below_alloc | apply pw_below_drewN | apply below_drew1 | refine below_set ?_ GE125.out) | exact HB.out)⟩⟩
        case round =>
          clear H'
          try clear c1
          try clear p1
          try clear q1
          try clear hx1
          try clear qi1
          try clear p2
          try clear c4
          try clear c4b0
          try clear c4b1
          try clear c5
          try clear q6
          try clear c7
          try clear c8
          try clear c8b0
          try clear c8b1
          try clear c9
          try clear c9b0
          try clear c9b1
          try clear c10
          try clear c10b0
          try clear c10b1
          try clear p12
          try clear q12
          try clear hx12
          try clear qi12
          try clear p13
          try clear q13
          try clear hx13
          try clear qi13
          try clear c18
          try clear hcz12_0
          try clear hcz12_1
          try clear hcz12_2
          try clear hcz12_3
          try clear hcz13_0
          try clear hcz13_1
          try clear hcz13_2
          try clear hcz13_3
          try clear hcz14_0
          try clear hcz14_1
          try clear hcz14_2
          try clear hcz14_3
          try clear hcz15_0
          try clear hcz15_1
          try clear hcz15_2
          try clear hcz15_3
          try clear hcz16_0
          try clear hcz16_1
          try clear hcz16_2
          try clear hcz16_3
          try clear hcz17_0
          try clear hcz17_1
          try clear hcz17_2
          try clear hcz17_3
          try clear hfz12_0
          try clear hfz12_1
          try clear hfz12_2
          try clear hfz12_3
          try clear hfz13_0
          try clear hfz13_1
          try clear hfz13_2
          try clear hfz13_3
          try clear hfz14_0
          try clear hfz14_1
          try clear hfz14_2
          try clear hfz14_3
          try clear hfz15_0
          try clear hfz15_1
          try clear hfz15_2
          try clear hfz15_3
          try clear hfz16_0
          try clear hfz16_1
          try clear hfz16_2
          try clear hfz16_3
          try clear hfz17_0
          try clear hfz17_1
          try clear hfz17_2
          try clear hfz17_3
          try clear hx126_0
          try clear hx126_1
          try clear hx126_2
          try clear hx126_3
          try clear hx126_4
          try clear hx126_5
          try clear hx127_0
          try clear hx127_1
          try clear hx127_2
          try clear hx127_3
          try clear hx127_4
          try clear hx127_5
          try clear hx128_0
          try clear hx128_1
          try clear hx128_2
          try clear hx128_3
          try clear hx128_4
          try clear hx128_5
          try clear hx129_0
          try clear hx129_1
          try clear hx129_2
          try clear hx129_3
          try clear hx129_4
          try clear hx129_5
          try clear hx130_0
          try clear hx130_1
          try clear hx130_2
          try clear hx130_3
          try clear hx130_4
          try clear hx130_5
          try clear p1
          try clear p12
          try clear p126
          try clear p127
          try clear p128
          try clear p129
          try clear p13
          try clear p130
          try clear p2
          try clear q1
          try clear q12
          try clear q126
          try clear q127
          try clear q128
          try clear q129
          try clear q13
          try clear q130
          try clear q6
          obtain ⟨x3_2, rfl, HA, HK2, BK125, HB⟩ := hrel
          cases gk with
          | zero => exact absurd HA.out (by simp [spec_l2Shape.l0])
          | succ k2 =>
            have H := HA.out
            clear HA
            simp only [spec_l2Shape.l0] at H
            by_cases c19 : x3_2 ≤ 9
            · rw [if_pos c19] at H
              have c19b0 : decide (x3_2 ≤ 9) = true := decide_eq_true c19
              clear c19
              by_cases c20 : 0 ≤ x3_2
              · rw [if_pos c20] at H
                have c20b0 : decide (0 ≤ x3_2) = true := decide_eq_true c20
                clear c20
                by_cases c21 : x3_2 < (l0_0.length : Int)
                · rw [if_pos c21] at H
                  have c21b0 : decide (x3_2 < (l0_0.length : Int)) = true := decide_eq_true c21
                  clear c21
                  replace H := Option.bind_eq_some_iff.mp H
                  obtain ⟨t133, A220, H⟩ := H
                  replace H : (if t133 = true then (spec_l2Shape.l0 k2 (wrap64 (x3_2 + 1)) l0_0 a0_1 a0_2 a0_3) else (some false)) = some r := H
                  have A22 := Aside0.mk A220
                  clear A220
                  by_cases c23 : t133 = true
                  · subst c23
                    have H1 : (spec_l2Shape.l0 k2 (wrap64 (x3_2 + 1)) l0_0 a0_1 a0_2 a0_3) = some r := by rw [if_pos rfl] at H; exact H
                    clear H
                    have H := H1
                    clear H1
                    have H' := Aside0.mk H
                    clear H
                    have hcz24_0 : wr.cell? ⟨gb125, 0, none⟩ = some (.slice A0_0 l0_0.length c0_0) := (blk_cell BK125.out 0).trans rfl
                    have hcz24_1 : wr.cell? ⟨gb125, 1, none⟩ = some (.int .i64 a0_1) := (blk_cell BK125.out 1).trans rfl
                    have hcz24_2 : wr.cell? ⟨gb125, 2, none⟩ = some (.int .i64 a0_2) := (blk_cell BK125.out 2).trans rfl
                    have hcz24_3 : wr.cell? ⟨gb125, 3, none⟩ = some (.int .i64 a0_3) := (blk_cell BK125.out 3).trans rfl
                    have hfz24_0 := blk_frozen BK125.out 0
                    have hfz24_1 := blk_frozen BK125.out 1
                    have hfz24_2 := blk_frozen BK125.out 2
                    have hfz24_3 := blk_frozen BK125.out 3
                    have p132 : 0 ≤ (x3_2 : Int) := of_decide_eq_true (by first | (with_reducible assumption) | assumption)
                    have q132 : x3_2 < (l0_0.length : Int) := of_decide_eq_true (by first | (with_reducible assumption) | assumption)
                    obtain ⟨ad132, e132, hx132_0, hx132_1, hx132_2, hx132_3, hx132_4, hx132_5⟩ := at_T63 HR0_0.out x3_2 p132 q132
                    cases e132
                    replace hx132_0 := (HB.out.cell (World.block_lt_of_cell? w _ hx132_0)).trans hx132_0
                    replace hx132_1 := (HB.out.cell (World.block_lt_of_cell? w _ hx132_1)).trans hx132_1
                    replace hx132_2 := (HB.out.cell (World.block_lt_of_cell? w _ hx132_2)).trans hx132_2
                    replace hx132_3 := (HB.out.cell (World.block_lt_of_cell? w _ hx132_3)).trans hx132_3
                    replace hx132_4 := (HB.out.cell (World.block_lt_of_cell? w _ hx132_4)).trans hx132_4
                    replace hx132_5 := (HB.out.cell (World.block_lt_of_cell? w _ hx132_5)).trans hx132_5
                    replace p132 := eq_true p132
                    replace q132 := eq_true q132
                    go_wp2_with (first | ((with_reducible refine gate_callee (f := 84) rfl ?_); refine goesL_ (some 57) rfl rfl Try.func84 (by kernel_rfl) rfl #[.agg #[.int .i64 ((rd_T63 l0_0 x3_2).f0), .int .i64 ((rd_T63 l0_0 x3_2).f1), .int .i64 ((rd_T63 l0_0 x3_2).f2), .int .i64 ((rd_T63 l0_0 x3_2).f3), .bool ((rd_T63 l0_0 x3_2).f4), .int .i64 ((rd_T63 l0_0 x3_2).f5)]] rfl (by (try simp only [List.map_toArray, List.map_cons, List.map_nil]); first | done | rfl | (simp only [List.length_drop, List.length_take]; rfl)) ?_; (with_reducible refine (spec_l2Node.calls ((rd_T63 l0_0 x3_2).f0) ((rd_T63 l0_0 x3_2).f1) ((rd_T63 l0_0 x3_2).f2) ((rd_T63 l0_0 x3_2).f3) ((rd_T63 l0_0 x3_2).f4) ((rd_T63 l0_0 x3_2).f5) true _ A22.out).mono ?_); rintro e w25 ⟨rfl, hb⟩; refine ⟨_, rfl, ?_⟩; have n0_ := Aside0.mk (blk_below (g := gb125) (o := .cells #[.slice (some ad132) l0_0.length c0_0, .int .i64 a0_1, .int .i64 a0_2, .int .i64 a0_3] 24 (0, 0)) (by (with_reducible repeat (first | refine blk_drewN ?_ _ | refine blk_drew ?_ | refine blk_alloc ?_ _)); exact BK125.out) hb); have n1_ := Aside0.mk (below_step (by repeat (first | (with_reducible first | exact HB.out | apply below_alloc | apply pw_below_drewN | apply below_drew1 | refine below_set ?_ GE125.out) | exact HB.out)) hb); clear BK125; clear HB; have BK125 := n0_; have HB := n1_; clear n0_ n1_; (try clear hb); (try clear hb2); (try clear hk); (try clear hi)))
                    go_roundg k2
                    case measure => have := HJ1.out; have := HK2.out; omega
                    case rel => exact ⟨(wrap64 (x3_2 + 1)), (by first | rfl | (simp; done) | (simp [*]; done)), H', ⟨by have := HJ1.out; have := HK2.out; omega⟩, ⟨by (with_reducible repeat (first | refine blk_drewN ?_ _ | refine blk_drew ?_ | refine blk_alloc ?_ _)); exact BK125.out⟩, ⟨by repeat (first | (with_reducible first | exact HB.out | apply below_alloc | apply pw_below_drewN | apply below_drew1 | refine below_set ?_ GE125.out) | exact HB.out)⟩⟩
                  · replace c23 := Bool.eq_false_iff.mpr c23
                    subst c23
                    have H1 : (some false) = some r := by rw [if_neg (show ¬ (false = true) by decide)] at H; exact H
                    clear H
                    have H := H1
                    clear H1
                    obtain rfl := Option.some.inj H
                    have hcz26_0 : wr.cell? ⟨gb125, 0, none⟩ = some (.slice A0_0 l0_0.length c0_0) := (blk_cell BK125.out 0).trans rfl
                    have hcz26_1 : wr.cell? ⟨gb125, 1, none⟩ = some (.int .i64 a0_1) := (blk_cell BK125.out 1).trans rfl
                    have hcz26_2 : wr.cell? ⟨gb125, 2, none⟩ = some (.int .i64 a0_2) := (blk_cell BK125.out 2).trans rfl
                    have hcz26_3 : wr.cell? ⟨gb125, 3, none⟩ = some (.int .i64 a0_3) := (blk_cell BK125.out 3).trans rfl
                    have hfz26_0 := blk_frozen BK125.out 0
                    have hfz26_1 := blk_frozen BK125.out 1
                    have hfz26_2 := blk_frozen BK125.out 2
                    have hfz26_3 := blk_frozen BK125.out 3
                    have p132 : 0 ≤ (x3_2 : Int) := of_decide_eq_true (by first | (with_reducible assumption) | assumption)
                    have q132 : x3_2 < (l0_0.length : Int) := of_decide_eq_true (by first | (with_reducible assumption) | assumption)
                    obtain ⟨ad132, e132, hx132_0, hx132_1, hx132_2, hx132_3, hx132_4, hx132_5⟩ := at_T63 HR0_0.out x3_2 p132 q132
                    cases e132
                    replace hx132_0 := (HB.out.cell (World.block_lt_of_cell? w _ hx132_0)).trans hx132_0
                    replace hx132_1 := (HB.out.cell (World.block_lt_of_cell? w _ hx132_1)).trans hx132_1
                    replace hx132_2 := (HB.out.cell (World.block_lt_of_cell? w _ hx132_2)).trans hx132_2
                    replace hx132_3 := (HB.out.cell (World.block_lt_of_cell? w _ hx132_3)).trans hx132_3
                    replace hx132_4 := (HB.out.cell (World.block_lt_of_cell? w _ hx132_4)).trans hx132_4
                    replace hx132_5 := (HB.out.cell (World.block_lt_of_cell? w _ hx132_5)).trans hx132_5
                    replace p132 := eq_true p132
                    replace q132 := eq_true q132
                    go_wp2_with (first | ((with_reducible refine gate_callee (f := 84) rfl ?_); refine goesL_ (some 57) rfl rfl Try.func84 (by kernel_rfl) rfl #[.agg #[.int .i64 ((rd_T63 l0_0 x3_2).f0), .int .i64 ((rd_T63 l0_0 x3_2).f1), .int .i64 ((rd_T63 l0_0 x3_2).f2), .int .i64 ((rd_T63 l0_0 x3_2).f3), .bool ((rd_T63 l0_0 x3_2).f4), .int .i64 ((rd_T63 l0_0 x3_2).f5)]] rfl (by (try simp only [List.map_toArray, List.map_cons, List.map_nil]); first | done | rfl | (simp only [List.length_drop, List.length_take]; rfl)) ?_; (with_reducible refine (spec_l2Node.calls ((rd_T63 l0_0 x3_2).f0) ((rd_T63 l0_0 x3_2).f1) ((rd_T63 l0_0 x3_2).f2) ((rd_T63 l0_0 x3_2).f3) ((rd_T63 l0_0 x3_2).f4) ((rd_T63 l0_0 x3_2).f5) false _ A22.out).mono ?_); rintro e w27 ⟨rfl, hb⟩; refine ⟨_, rfl, ?_⟩; have n0_ := Aside0.mk (blk_below (g := gb125) (o := .cells #[.slice (some ad132) l0_0.length c0_0, .int .i64 a0_1, .int .i64 a0_2, .int .i64 a0_3] 24 (0, 0)) (by (with_reducible repeat (first | refine blk_drewN ?_ _ | refine blk_drew ?_ | refine blk_alloc ?_ _)); exact BK125.out) hb); have n1_ := Aside0.mk (below_step (by repeat (first | (with_reducible first | exact HB.out | apply below_alloc | apply pw_below_drewN | apply below_drew1 | refine below_set ?_ GE125.out) | exact HB.out)) hb); clear BK125; clear HB; have BK125 := n0_; have HB := n1_; clear n0_ n1_; (try clear hb); (try clear hb2); (try clear hk); (try clear hi)))
                    go_ret
                    exact ⟨by first | rfl | (simp [errW_none, errW_some] <;> rfl) | (simp [*, errW_none, errW_some] <;> rfl), by repeat (first | (with_reducible first | exact HB.out | apply below_alloc | apply pw_below_drewN | apply below_drew1 | refine below_set ?_ GE125.out) | exact HB.out)⟩
                · rw [if_neg c21] at H
                  exact absurd H (by simp)
              · rw [if_neg c20] at H
                exact absurd H (by simp)
            · rw [if_neg c19] at H
              have c19b0 : decide (x3_2 ≤ 9) = false := decide_eq_false c19
              clear c19
              replace H := Option.bind_eq_some_iff.mp H
              obtain ⟨t134, A280, H⟩ := H
              replace H : (if t134 = true then ((spec_l1In.f a0_2 1 9).bind fun t135 => (if t135 = true then ((spec_l1In.f a0_3 1 9).bind fun t136 => (some t136)) else (some false))) else (some false)) = some r := H
              have A28 := Aside0.mk A280
              clear A280
              by_cases c29 : t134 = true
              · subst c29
                have H1 : ((spec_l1In.f a0_2 1 9).bind fun t135 => (if t135 = true then ((spec_l1In.f a0_3 1 9).bind fun t136 => (some t136)) else (some false))) = some r := by rw [if_pos rfl] at H; exact H
                clear H
                have H := H1
                clear H1
                replace H := Option.bind_eq_some_iff.mp H
                obtain ⟨t135, A300, H⟩ := H
                replace H : (if t135 = true then ((spec_l1In.f a0_3 1 9).bind fun t136 => (some t136)) else (some false)) = some r := H
                have A30 := Aside0.mk A300
                clear A300
                by_cases c31 : t135 = true
                · subst c31
                  have H1 : ((spec_l1In.f a0_3 1 9).bind fun t136 => (some t136)) = some r := by rw [if_pos rfl] at H; exact H
                  clear H
                  have H := H1
                  clear H1
                  replace H := Option.bind_eq_some_iff.mp H
                  obtain ⟨t136, A320, H⟩ := H
                  replace H : (some t136) = some r := H
                  have A32 := Aside0.mk A320
                  clear A320
                  obtain rfl := Option.some.inj H
                  have hcz33_0 : wr.cell? ⟨gb125, 0, none⟩ = some (.slice A0_0 l0_0.length c0_0) := (blk_cell BK125.out 0).trans rfl
                  have hcz33_1 : wr.cell? ⟨gb125, 1, none⟩ = some (.int .i64 a0_1) := (blk_cell BK125.out 1).trans rfl
                  have hcz33_2 : wr.cell? ⟨gb125, 2, none⟩ = some (.int .i64 a0_2) := (blk_cell BK125.out 2).trans rfl
                  have hcz33_3 : wr.cell? ⟨gb125, 3, none⟩ = some (.int .i64 a0_3) := (blk_cell BK125.out 3).trans rfl
                  have hfz33_0 := blk_frozen BK125.out 0
                  have hfz33_1 := blk_frozen BK125.out 1
                  have hfz33_2 := blk_frozen BK125.out 2
                  have hfz33_3 := blk_frozen BK125.out 3
                  go_wp2_with (first | ((with_reducible refine gate_callee (f := 64) rfl ?_); refine goesL_ (some 61) rfl rfl Try.func64 (by kernel_rfl) rfl #[.int .i64 a0_1, .int .i64 0, .int .i64 9] rfl (by (try simp only [List.map_toArray, List.map_cons, List.map_nil]); first | done | rfl | (simp only [List.length_drop, List.length_take]; rfl)) ?_; (with_reducible refine (spec_l1In.calls a0_1 0 9 true _ A28.out).mono ?_); rintro e w' ⟨rfl, ⟨nd, rfl⟩⟩; refine ⟨_, rfl, ?_⟩) | (go_at_call 64; (with_reducible refine (spec_l1In.calls a0_2 1 9 true _ A30.out).mono ?_); rintro e w' ⟨rfl, ⟨nd, rfl⟩⟩) | (go_at_call 64; (with_reducible refine (spec_l1In.calls a0_3 1 9 t136 _ A32.out).mono ?_); rintro e w' ⟨rfl, ⟨nd, rfl⟩⟩))
                  go_ret
                  exact ⟨by first | rfl | (simp [errW_none, errW_some] <;> rfl) | (simp [*, errW_none, errW_some] <;> rfl), by repeat (first | (with_reducible first | exact HB.out | apply below_alloc | apply pw_below_drewN | apply below_drew1 | refine below_set ?_ GE125.out) | exact HB.out)⟩
                · replace c31 := Bool.eq_false_iff.mpr c31
                  subst c31
                  have H1 : (some false) = some r := by rw [if_neg (show ¬ (false = true) by decide)] at H; exact H
                  clear H
                  have H := H1
                  clear H1
                  obtain rfl := Option.some.inj H
                  have hcz34_0 : wr.cell? ⟨gb125, 0, none⟩ = some (.slice A0_0 l0_0.length c0_0) := (blk_cell BK125.out 0).trans rfl
                  have hcz34_1 : wr.cell? ⟨gb125, 1, none⟩ = some (.int .i64 a0_1) := (blk_cell BK125.out 1).trans rfl
                  have hcz34_2 : wr.cell? ⟨gb125, 2, none⟩ = some (.int .i64 a0_2) := (blk_cell BK125.out 2).trans rfl
                  have hcz34_3 : wr.cell? ⟨gb125, 3, none⟩ = some (.int .i64 a0_3) := (blk_cell BK125.out 3).trans rfl
                  have hfz34_0 := blk_frozen BK125.out 0
                  have hfz34_1 := blk_frozen BK125.out 1
                  have hfz34_2 := blk_frozen BK125.out 2
                  have hfz34_3 := blk_frozen BK125.out 3
                  go_wp2_with (first | ((with_reducible refine gate_callee (f := 64) rfl ?_); refine goesL_ (some 61) rfl rfl Try.func64 (by kernel_rfl) rfl #[.int .i64 a0_1, .int .i64 0, .int .i64 9] rfl (by (try simp only [List.map_toArray, List.map_cons, List.map_nil]); first | done | rfl | (simp only [List.length_drop, List.length_take]; rfl)) ?_; (with_reducible refine (spec_l1In.calls a0_1 0 9 true _ A28.out).mono ?_); rintro e w' ⟨rfl, ⟨nd, rfl⟩⟩; refine ⟨_, rfl, ?_⟩) | (go_at_call 64; (with_reducible refine (spec_l1In.calls a0_2 1 9 false _ A30.out).mono ?_); rintro e w' ⟨rfl, ⟨nd, rfl⟩⟩))
                  go_ret
                  exact ⟨by first | rfl | (simp [errW_none, errW_some] <;> rfl) | (simp [*, errW_none, errW_some] <;> rfl), by repeat (first | (with_reducible first | exact HB.out | apply below_alloc | apply pw_below_drewN | apply below_drew1 | refine below_set ?_ GE125.out) | exact HB.out)⟩
              · replace c29 := Bool.eq_false_iff.mpr c29
                subst c29
                have H1 : (some false) = some r := by rw [if_neg (show ¬ (false = true) by decide)] at H; exact H
                clear H
                have H := H1
                clear H1
                obtain rfl := Option.some.inj H
                have hcz35_0 : wr.cell? ⟨gb125, 0, none⟩ = some (.slice A0_0 l0_0.length c0_0) := (blk_cell BK125.out 0).trans rfl
                have hcz35_1 : wr.cell? ⟨gb125, 1, none⟩ = some (.int .i64 a0_1) := (blk_cell BK125.out 1).trans rfl
                have hcz35_2 : wr.cell? ⟨gb125, 2, none⟩ = some (.int .i64 a0_2) := (blk_cell BK125.out 2).trans rfl
                have hcz35_3 : wr.cell? ⟨gb125, 3, none⟩ = some (.int .i64 a0_3) := (blk_cell BK125.out 3).trans rfl
                have hfz35_0 := blk_frozen BK125.out 0
                have hfz35_1 := blk_frozen BK125.out 1
                have hfz35_2 := blk_frozen BK125.out 2
                have hfz35_3 := blk_frozen BK125.out 3
                go_wp2_with (first | ((with_reducible refine gate_callee (f := 64) rfl ?_); refine goesL_ (some 61) rfl rfl Try.func64 (by kernel_rfl) rfl #[.int .i64 a0_1, .int .i64 0, .int .i64 9] rfl (by (try simp only [List.map_toArray, List.map_cons, List.map_nil]); first | done | rfl | (simp only [List.length_drop, List.length_take]; rfl)) ?_; (with_reducible refine (spec_l1In.calls a0_1 0 9 false _ A28.out).mono ?_); rintro e w' ⟨rfl, ⟨nd, rfl⟩⟩; refine ⟨_, rfl, ?_⟩))
                go_ret
                exact ⟨by first | rfl | (simp [errW_none, errW_some] <;> rfl) | (simp [*, errW_none, errW_some] <;> rfl), by repeat (first | (with_reducible first | exact HB.out | apply below_alloc | apply pw_below_drewN | apply below_drew1 | refine below_set ?_ GE125.out) | exact HB.out)⟩

end Go.Proofs.Ytmfbkcfnooieoaa.GFnExactArnChain
