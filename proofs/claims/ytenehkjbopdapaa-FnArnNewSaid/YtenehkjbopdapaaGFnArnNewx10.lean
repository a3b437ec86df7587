/- The functions that the law reaches, as plain Lean functions, and that the machine comes to their answers: laid by a program of this session. Conditions: none. -/
import Derived.Test.YtenehkjbopdapaaGFnArnNewx0
import Derived.Test.YtenehkjbopdapaaGFnArnNewx4
import Derived.Test.YtenehkjbopdapaaTAPMap
namespace Go.Proofs.Ytenehkjbopdapaa.GFnArnNew
open Go.RowKit Go.Proofs.YtenehkjbopdapaaW.PrintWords Go.Proofs.YtenehkjbopdapaaW.PrintLast Go.Proofs.YtenehkjbopdapaaW.PrintMore
attribute [local go_sem] max2_int min2_int max_two min_two max_three min_three max_four min_four   -- for this text's walks alone
set_option linter.unusedVariables false
set_option linter.unusedSimpArgs false

theorem hasD_l0 (xs : List Int) (x : Int) : ∀ (k i : Nat) (r : Bool), i < 9223372036854775808 → spec_l2Has.l0 k xs x (i : Int) = some r → decide (x ∈ xs.drop i) = r
  | 0, _, _, _, h => by simp [spec_l2Has.l0] at h
  | k + 1, i, r, hi, h => by
    simp only [spec_l2Has.l0] at h
    by_cases hl : (i : Int) < xs.length
    · have hl' : i < xs.length := by omega
      rw [if_pos hl, if_pos (by omega)] at h
      have e : rd xs (i : Int) = xs[i] := by simp [rd, hl']
      rw [List.drop_eq_getElem_cons hl']
      by_cases he : rd xs (i : Int) = x
      · rw [if_pos he] at h
        injection h with h
        subst h
        exact decide_eq_true (by rw [← he, e]; exact List.mem_cons_self)
      · rw [if_neg he] at h
        by_cases hw : i + 1 < 9223372036854775808
        · rw [show wrap64 ((i : Int) + 1) = ((i + 1 : Nat) : Int) by unfold wrap64; omega] at h
          rw [← hasD_l0 xs x k (i + 1) r hw h]
          refine decide_eq_decide.2 ⟨fun hm => ?_, fun hm => List.mem_cons_of_mem _ hm⟩
          rcases List.mem_cons.1 hm with hm | hm
          · exact absurd (by rw [e]; exact hm.symm) he
          · exact hm
        · have hneg : wrap64 ((i : Int) + 1) < 0 := by unfold wrap64; omega
          cases k with
          | zero => simp [spec_l2Has.l0] at h
          | succ k =>
            simp only [spec_l2Has.l0] at h
            rw [if_pos (by omega), if_neg (by omega)] at h
            cases h
    · rw [if_neg hl] at h
      injection h with h
      subst h
      rw [List.drop_eq_nil_of_le (by omega)]
      exact decide_eq_false (by simp)
theorem hasD_ {k : Nat} {xs : List Int} {x : Int} {r : Bool} (h : spec_l2Has.f k xs x = some r) : decide (x ∈ xs) = r := by
  have := hasD_l0 xs x k 0 r (by omega) h
  rwa [List.drop_zero] at this
/-! ### impl_PolOk: function 27 -/
mutual
def impl_PolOk.j0 : Nat → Bool → Int → List Int → List (List (S74)) → Option (Bool)
  | 0, _, _, _, _ => none
  | k + 1, x29, x273000, x273001, x273002 => if x29 = true then (some false) else (impl_PolOk.l0 k x273001 (x273001.length : Int) 0 x273000 x273001 x273002)
def impl_PolOk.l0 : Nat → List Int → Int → Int → Int → List Int → List (List (S74)) → Option (Bool)
  | 0, _, _, _, _, _, _ => none
  | k + 1, x31, x32, x33, x273000, x273001, x273002 => if x33 < x32 then (if 0 ≤ x33 then (if x33 < (x31.length : Int) then (if (rd x31 x33) < 0 then (some false) else (if (rd x31 x33) > (wrap64 (x273000 + 1)) then (some false) else (impl_PolOk.l0 k x31 x32 (wrap64 (x33 + 1)) x273000 x273001 x273002))) else (none)) else (none)) else (impl_PolOk.l1 k (([] : List Int)) x273002 (x273002.length : Int) 0 x273000 x273001 x273002)
def impl_PolOk.l1 : Nat → List Int → List (List (S74)) → Int → Int → Int → List Int → List (List (S74)) → Option (Bool)
  | 0, _, _, _, _, _, _, _ => none
  | k + 1, x5, x49, x50, x51, x273000, x273001, x273002 => if x51 < x50 then (if 0 ≤ x51 then (if x51 < (x49.length : Int) then (impl_PolOk.l2 k x5 x49 x50 x51 (rd_L4 x49 x51) ((rd_L4 x49 x51).length : Int) 0 x273000 x273001 x273002) else (none)) else (none)) else (some true)
def impl_PolOk.l2 : Nat → List Int → List (List (S74)) → Int → Int → List (S74) → Int → Int → Int → List Int → List (List (S74)) → Option (Bool)
  | 0, _, _, _, _, _, _, _, _, _, _ => none
  | k + 1, x5, x49, x50, x51, x55, x56, x57, x273000, x273001, x273002 => if x57 < x56 then (if 0 ≤ x57 then (if x57 < (x55.length : Int) then (if ((rd_T74 x55 x57).f0) < 1 then (some false) else (if ((rd_T74 x55 x57).f0) > 9 then (some false) else ((spec_l2Has.f k x5 ((rd_T74 x55 x57).f0)).bind fun t280 => (if t280 = true then (some false) else (if ((rd_T74 x55 x57).f1) < 0 then (some false) else (if ((rd_T74 x55 x57).f1) > x273000 then (some false) else (if x5.length < 17592186044416 then (impl_PolOk.l2 k (x5 ++ [(rd_T74 x55 x57).f0]) x49 x50 x51 x55 x56 (wrap64 (x57 + 1)) x273000 x273001 x273002) else (none)))))))) else (none)) else (none)) else (impl_PolOk.l1 k x5 x49 x50 (wrap64 (x51 + 1)) x273000 x273001 x273002)
end
def impl_PolOk.f (k : Nat) (a0_0 : Int) (l0_1 : List Int) (l0_2 : List (List (S74))) : Option (Bool) := if a0_0 < 0 then (impl_PolOk.j0 k true a0_0 l0_1 l0_2) else (if a0_0 > 100000 then (impl_PolOk.j0 k true a0_0 l0_1 l0_2) else (if (l0_1.length : Int) = 3 then (impl_PolOk.j0 k ((l0_2.length : Int) != 3) a0_0 l0_1 l0_2) else (impl_PolOk.j0 k true a0_0 l0_1 l0_2)))
theorem impl_PolOk.mono_l : ∀ k, (∀ y0 y1 y2 y3, LeO (impl_PolOk.j0 k y0 y1 y2 y3) (impl_PolOk.j0 (k + 1) y0 y1 y2 y3)) ∧ (∀ y0 y1 y2 y3 y4 y5, LeO (impl_PolOk.l0 k y0 y1 y2 y3 y4 y5) (impl_PolOk.l0 (k + 1) y0 y1 y2 y3 y4 y5)) ∧ (∀ y0 y1 y2 y3 y4 y5 y6, LeO (impl_PolOk.l1 k y0 y1 y2 y3 y4 y5 y6) (impl_PolOk.l1 (k + 1) y0 y1 y2 y3 y4 y5 y6)) ∧ (∀ y0 y1 y2 y3 y4 y5 y6 y7 y8 y9, LeO (impl_PolOk.l2 k y0 y1 y2 y3 y4 y5 y6 y7 y8 y9) (impl_PolOk.l2 (k + 1) y0 y1 y2 y3 y4 y5 y6 y7 y8 y9))
  | 0 => ⟨fun _ _ _ _ r h => by simp [impl_PolOk.j0] at h, fun _ _ _ _ _ _ r h => by simp [impl_PolOk.l0] at h, fun _ _ _ _ _ _ _ r h => by simp [impl_PolOk.l1] at h, fun _ _ _ _ _ _ _ _ _ _ r h => by simp [impl_PolOk.l2] at h⟩
  | k + 1 => by
    obtain ⟨ih0, ih1, ih2, ih3⟩ := impl_PolOk.mono_l k
    refine ⟨?_, ?_, ?_, ?_⟩
    · intro y0 y1 y2 y3
      unfold impl_PolOk.j0
      repeat' first
      | (with_reducible exact ih0 _ _ _ _)
      | (with_reducible exact ih1 _ _ _ _ _ _)
      | (with_reducible exact ih2 _ _ _ _ _ _ _)
      | (with_reducible exact ih3 _ _ _ _ _ _ _ _ _ _)
      | (with_reducible exact spec_l2Has.mono _ _ _)
      | (with_reducible exact LeO.refl _)
      | (with_reducible exact LeO.none _)
      | (with_reducible refine LeO.ite ?_ ?_)
      | (with_reducible refine LeO.bind ?_ (fun _ => ?_))
      | exact ih0 _ _ _ _
      | exact ih1 _ _ _ _ _ _
      | exact ih2 _ _ _ _ _ _ _
      | exact ih3 _ _ _ _ _ _ _ _ _ _
      | exact spec_l2Has.mono _ _ _
      | exact LeO.none _
      | refine LeO.ite ?_ ?_
      | refine LeO.bind ?_ (fun _ => ?_)
    · intro y0 y1 y2 y3 y4 y5
      unfold impl_PolOk.l0
      repeat' first
      | (with_reducible exact ih0 _ _ _ _)
      | (with_reducible exact ih1 _ _ _ _ _ _)
      | (with_reducible exact ih2 _ _ _ _ _ _ _)
      | (with_reducible exact ih3 _ _ _ _ _ _ _ _ _ _)
      | (with_reducible exact spec_l2Has.mono _ _ _)
      | (with_reducible exact LeO.refl _)
      | (with_reducible exact LeO.none _)
      | (with_reducible refine LeO.ite ?_ ?_)
      | (with_reducible refine LeO.bind ?_ (fun _ => ?_))
      | exact ih0 _ _ _ _
      | exact ih1 _ _ _ _ _ _
      | exact ih2 _ _ _ _ _ _ _
      | exact ih3 _ _ _ _ _ _ _ _ _ _
      | exact spec_l2Has.mono _ _ _
      | exact LeO.none _
      | refine LeO.ite ?_ ?_
      | refine LeO.bind ?_ (fun _ => ?_)
    · intro y0 y1 y2 y3 y4 y5 y6
      unfold impl_PolOk.l1
      repeat' first
      | (with_reducible exact ih0 _ _ _ _)
      | (with_reducible exact ih1 _ _ _ _ _ _)
      | (with_reducible exact ih2 _ _ _ _ _ _ _)
      | (with_reducible exact ih3 _ _ _ _ _ _ _ _ _ _)
      | (with_reducible exact spec_l2Has.mono _ _ _)
      | (with_reducible exact LeO.refl _)
      | (with_reducible exact LeO.none _)
      | (with_reducible refine LeO.ite ?_ ?_)
      | (with_reducible refine LeO.bind ?_ (fun _ => ?_))
      | exact ih0 _ _ _ _
      | exact ih1 _ _ _ _ _ _
      | exact ih2 _ _ _ _ _ _ _
      | exact ih3 _ _ _ _ _ _ _ _ _ _
      | exact spec_l2Has.mono _ _ _
      | exact LeO.none _
      | refine LeO.ite ?_ ?_
      | refine LeO.bind ?_ (fun _ => ?_)
    · intro y0 y1 y2 y3 y4 y5 y6 y7 y8 y9
      unfold impl_PolOk.l2
      repeat' first
      | (with_reducible exact ih0 _ _ _ _)
      | (with_reducible exact ih1 _ _ _ _ _ _)
      | (with_reducible exact ih2 _ _ _ _ _ _ _)
      | (with_reducible exact ih3 _ _ _ _ _ _ _ _ _ _)
      | (with_reducible exact spec_l2Has.mono _ _ _)
      | (with_reducible exact LeO.refl _)
      | (with_reducible exact LeO.none _)
      | (with_reducible refine LeO.ite ?_ ?_)
      | (with_reducible refine LeO.bind ?_ (fun _ => ?_))
      | exact ih0 _ _ _ _
      | exact ih1 _ _ _ _ _ _
      | exact ih2 _ _ _ _ _ _ _
      | exact ih3 _ _ _ _ _ _ _ _ _ _
      | exact spec_l2Has.mono _ _ _
      | exact LeO.none _
      | refine LeO.ite ?_ ?_
      | refine LeO.bind ?_ (fun _ => ?_)
theorem impl_PolOk.mono : ∀ a0 a1 a2 k, LeO (impl_PolOk.f k a0 a1 a2) (impl_PolOk.f (k + 1) a0 a1 a2) := by
  intro a0 a1 a2 k
  obtain ⟨ih0, ih1, ih2, ih3⟩ := impl_PolOk.mono_l k
  unfold impl_PolOk.f
  repeat' first
      | (with_reducible exact ih0 _ _ _ _)
      | (with_reducible exact ih1 _ _ _ _ _ _)
      | (with_reducible exact ih2 _ _ _ _ _ _ _)
      | (with_reducible exact ih3 _ _ _ _ _ _ _ _ _ _)
      | (with_reducible exact spec_l2Has.mono _ _ _)
      | (with_reducible exact LeO.refl _)
      | (with_reducible exact LeO.none _)
      | (with_reducible refine LeO.ite ?_ ?_)
      | (with_reducible refine LeO.bind ?_ (fun _ => ?_))
      | exact ih0 _ _ _ _
      | exact ih1 _ _ _ _ _ _
      | exact ih2 _ _ _ _ _ _ _
      | exact ih3 _ _ _ _ _ _ _ _ _ _
      | exact spec_l2Has.mono _ _ _
      | exact LeO.none _
      | refine LeO.ite ?_ ?_
      | refine LeO.bind ?_ (fun _ => ?_)
set_option maxHeartbeats 8000000 in
set_option maxRecDepth 100000 in
theorem impl_PolOk.calls (k : Nat) (a0_0 : Int) (A0_1 : Option Addr) (c0_1 : Nat) (l0_1 : List Int) (A0_2 : Option Addr) (c0_2 : Nat) (l0_2 : List (List (S74))) (r : Bool) (w : World) (hr0_1 : Kd.C (Kd.int .i64) w A0_1 l0_1.length l0_1) (hc0_1 : l0_1.length ≤ c0_1) (hr0_2 : Kd.C (Kd.slice 74 k74) w A0_2 l0_2.length l0_2) (hc0_2 : l0_2.length ≤ c0_2) (h : impl_PolOk.f k a0_0 l0_1 l0_2 = some r) :
    Calls Try.prog 27 #[.agg #[.int .i64 a0_0, .slice A0_1 l0_1.length c0_1, .slice A0_2 l0_2.length c0_2]] w fun e w' => e = .returned (.bool r) ∧ Below w.heap.size w w' := by
  have hu42 := Try.underlying42
  have hu74 := Try.underlying74
  have HR0_1 := Aside0.mk hr0_1
  have HC0_1 := Aside0.mk hc0_1
  clear hr0_1 hc0_1
  have HR0_2 := Aside0.mk hr0_2
  have HC0_2 := Aside0.mk hc0_2
  clear hr0_2 hc0_2
  have HB := Aside0.mk (Below.refl w.heap.size w)
  have H : (if a0_0 < 0 then (impl_PolOk.j0 k true a0_0 l0_1 l0_2) else (if a0_0 > 100000 then (impl_PolOk.j0 k true a0_0 l0_1 l0_2) else (if (l0_1.length : Int) = 3 then (impl_PolOk.j0 k ((l0_2.length : Int) != 3) a0_0 l0_1 l0_2) else (impl_PolOk.j0 k true a0_0 l0_1 l0_2)))) = some r := h
  clear h
  have HC2 := Aside0.mk H
  clear H
  go_enter Try.func27, Try.ntmps27
  go_upto_region 1 with (first | ((with_reducible refine gate_dst (N := 1) rfl ?_); (try (refine gate_guard (by rfl) ?_; dsimp only)); refine box_event ?hg (N := 1) ?hd (cs := #[.int .i64 a0_0, .slice A0_1 l0_1.length c0_1, .slice A0_2 l0_2.length c0_2]) (t := 42) ?hr ?_; (case hd => rfl); (case hg => rfl); (case hr => first | (go_simp; done) | (go_simp; rfl)); intro gb272 hg w3 hbox hb; have n0_ := Aside0.mk (below_step (by repeat (first | (with_reducible first | exact HB.out | apply below_alloc | apply pw_below_drewN | apply below_drew1) | exact HB.out)) hb); have n1_ := Aside0.mk (hbox); have n2_ := Aside0.mk ((by rw [hg]; exact (below_size (by repeat (first | (with_reducible first | exact HB.out | apply below_alloc | apply pw_below_drewN | apply below_drew1) | exact HB.out))) : w.heap.size ≤ gb272)); have n3_ := Aside0.mk ((by rw [hg]; exact (below_size (by repeat (first | (with_reducible first | exact HB.out | apply below_alloc | apply pw_below_drewN | apply below_drew1) | exact HB.out))) : w.heap.size ≤ gb272)); clear HB; have HB := n0_; have BK272 := n1_; have GW272 := n2_; have GE272 := n3_; clear n0_ n1_ n2_ n3_; clear hb hbox hg))
  (try simp only [Act.put, List.setIfInBounds_toArray, List.set_cons_zero, List.set_cons_succ])
  go_cut [29] (fun v29 wc => ∃ (kq : Nat) (x29_1 : Bool), v29 = .bool x29_1 ∧ Aside0 (impl_PolOk.j0 kq x29_1 a0_0 l0_1 l0_2 = some r) ∧ Aside0 (kq ≤ k) ∧ Aside0 (wc.heap[gb272]? = some (.cells #[.int .i64 a0_0, (.slice A0_1 l0_1.length c0_1), (.slice A0_2 l0_2.length c0_2)] 42 (0, 0))) ∧ Aside0 (Below w.heap.size w wc))
  case first =>
    have H := HC2.out
    clear HC2
    by_cases c4 : a0_0 < 0
    · rw [if_pos c4] at H
      have c4b0 : decide (a0_0 < 0) = true := decide_eq_true c4
      clear c4
      (first | rw [c4b0] | (simp only [i64_w, i32_w]; rw [c4b0]) | skip)
      have H' := Aside0.mk H
      clear H
      have hcz5_0 : w3.cell? ⟨gb272, 0, none⟩ = some (.int .i64 a0_0) := (blk_cell BK272.out 0).trans rfl
      have hcz5_1 : w3.cell? ⟨gb272, 1, none⟩ = some (.slice A0_1 l0_1.length c0_1) := (blk_cell BK272.out 1).trans rfl
      have hcz5_2 : w3.cell? ⟨gb272, 2, none⟩ = some (.slice A0_2 l0_2.length c0_2) := (blk_cell BK272.out 2).trans rfl
      have hfz5_0 := blk_frozen BK272.out 0
      have hfz5_1 := blk_frozen BK272.out 1
      have hfz5_2 := blk_frozen BK272.out 2
      go_wp2
      go_meet
      case rel => exact ⟨_, (true), (by first | rfl | (simp; done) | (simp [*]; done)), H', ⟨by first | omega | exact Nat.le_refl _⟩, ⟨by (with_reducible repeat (first | refine blk_drewN ?_ _ | refine blk_drew ?_ | refine blk_alloc ?_ _)); exact BK272.out⟩, ⟨by repeat (first | (with_reducible first | exact HB.out | apply below_alloc | apply pw_below_drewN | apply below_drew1 | refine below_set ?_ GE272.out) | exact HB.out)⟩⟩
    · rw [if_neg c4] at H
      have c4b0 : decide (a0_0 < 0) = false := decide_eq_false c4
      clear c4
      (first | rw [c4b0] | (simp only [i64_w, i32_w]; rw [c4b0]) | skip)
      by_cases c6 : a0_0 > 100000
      · rw [if_pos c6] at H
        have c6b0 : decide (100000 < a0_0) = true := decide_eq_true c6
        clear c6
        have H' := Aside0.mk H
        clear H
        have hcz7_0 : w3.cell? ⟨gb272, 0, none⟩ = some (.int .i64 a0_0) := (blk_cell BK272.out 0).trans rfl
        have hcz7_1 : w3.cell? ⟨gb272, 1, none⟩ = some (.slice A0_1 l0_1.length c0_1) := (blk_cell BK272.out 1).trans rfl
        have hcz7_2 : w3.cell? ⟨gb272, 2, none⟩ = some (.slice A0_2 l0_2.length c0_2) := (blk_cell BK272.out 2).trans rfl
        have hfz7_0 := blk_frozen BK272.out 0
        have hfz7_1 := blk_frozen BK272.out 1
        have hfz7_2 := blk_frozen BK272.out 2
        go_wp2
        go_meet
        case rel => exact ⟨_, (true), (by first | rfl | (simp; done) | (simp [*]; done)), H', ⟨by first | omega | exact Nat.le_refl _⟩, ⟨by (with_reducible repeat (first | refine blk_drewN ?_ _ | refine blk_drew ?_ | refine blk_alloc ?_ _)); exact BK272.out⟩, ⟨by repeat (first | (with_reducible first | exact HB.out | apply below_alloc | apply pw_below_drewN | apply below_drew1 | refine below_set ?_ GE272.out) | exact HB.out)⟩⟩
      · rw [if_neg c6] at H
        have c6b0 : decide (100000 < a0_0) = false := decide_eq_false c6
        clear c6
        by_cases c8 : (l0_1.length : Int) = 3
        · rw [if_pos c8] at H
          have c8b0 : ((l0_1.length : Int) == 3) = true := beq_iff_eq.mpr c8
          have c8b1 : ((l0_1.length : Int) != 3) = false := bne_eq_false_iff_eq.mpr c8
          clear c8
          have H' := Aside0.mk H
          clear H
          have hcz9_0 : w3.cell? ⟨gb272, 0, none⟩ = some (.int .i64 a0_0) := (blk_cell BK272.out 0).trans rfl
          have hcz9_1 : w3.cell? ⟨gb272, 1, none⟩ = some (.slice A0_1 l0_1.length c0_1) := (blk_cell BK272.out 1).trans rfl
          have hcz9_2 : w3.cell? ⟨gb272, 2, none⟩ = some (.slice A0_2 l0_2.length c0_2) := (blk_cell BK272.out 2).trans rfl
          have hfz9_0 := blk_frozen BK272.out 0
          have hfz9_1 := blk_frozen BK272.out 1
          have hfz9_2 := blk_frozen BK272.out 2
          go_wp2
          go_meet
          case rel => exact ⟨_, (((l0_2.length : Int) != 3)), (by first | rfl | (simp; done) | (simp [*]; done)), H', ⟨by first | omega | exact Nat.le_refl _⟩, ⟨by (with_reducible repeat (first | refine blk_drewN ?_ _ | refine blk_drew ?_ | refine blk_alloc ?_ _)); exact BK272.out⟩, ⟨by repeat (first | (with_reducible first | exact HB.out | apply below_alloc | apply pw_below_drewN | apply below_drew1 | refine below_set ?_ GE272.out) | exact HB.out)⟩⟩
        · rw [if_neg c8] at H
          have c8b0 : ((l0_1.length : Int) == 3) = false := beq_eq_false_iff_ne.mpr c8
          have c8b1 : ((l0_1.length : Int) != 3) = true := bne_iff_ne.mpr c8
          have H' := Aside0.mk H
          clear H
          have hcz10_0 : w3.cell? ⟨gb272, 0, none⟩ = some (.int .i64 a0_0) := (blk_cell BK272.out 0).trans rfl
          have hcz10_1 : w3.cell? ⟨gb272, 1, none⟩ = some (.slice A0_1 l0_1.length c0_1) := (blk_cell BK272.out 1).trans rfl
          have hcz10_2 : w3.cell? ⟨gb272, 2, none⟩ = some (.slice A0_2 l0_2.length c0_2) := (blk_cell BK272.out 2).trans rfl
          have hfz10_0 := blk_frozen BK272.out 0
          have hfz10_1 := blk_frozen BK272.out 1
          have hfz10_2 := blk_frozen BK272.out 2
          go_wp2
          go_meet
          case rel => exact ⟨_, (true), (by first | rfl | (simp; done) | (simp [*]; done)), H', ⟨by first | omega | exact Nat.le_refl _⟩, ⟨by (with_reducible repeat (first | refine blk_drewN ?_ _ | refine blk_drew ?_ | refine blk_alloc ?_ _)); exact BK272.out⟩, ⟨by repeat (first | (with_reducible first | exact HB.out | apply below_alloc | apply pw_below_drewN | apply below_drew1 | refine below_set ?_ GE272.out) | exact HB.out)⟩⟩
  case rest =>
    clear HC2
    try clear c2
    try clear p2
    try clear c4
    try clear c4b0
    try clear c6
    try clear c6b0
    try clear c8
    try clear c8b0
    try clear c8b1
    try clear hcz10_0
    try clear hcz10_1
    try clear hcz10_2
    try clear hcz5_0
    try clear hcz5_1
    try clear hcz5_2
    try clear hcz7_0
    try clear hcz7_1
    try clear hcz7_2
    try clear hcz9_0
    try clear hcz9_1
    try clear hcz9_2
    try clear hfz10_0
    try clear hfz10_1
    try clear hfz10_2
    try clear hfz5_0
    try clear hfz5_1
    try clear hfz5_2
    try clear hfz7_0
    try clear hfz7_1
    try clear hfz7_2
    try clear hfz9_0
    try clear hfz9_1
    try clear hfz9_2
    obtain ⟨kq, x29_1, rfl, HA, HJ1, BK272, HB⟩ := hcut
    cases kq with
    | zero => exact absurd HA.out (by simp [impl_PolOk.j0])
    | succ kj1 =>
      have H := HA.out
      clear HA
      simp only [impl_PolOk.j0] at H
      by_cases c11 : x29_1 = true
      · subst c11
        have H1 : (some false) = some r := by rw [if_pos rfl] at H; exact H
        clear H
        have H := H1
        clear H1
        obtain rfl := Option.some.inj H
        go_wp2
        go_ret
        exact ⟨by first | rfl | (simp [errW_none, errW_some] <;> rfl) | (simp [*, errW_none, errW_some] <;> rfl), by repeat (first | (with_reducible first | exact HB.out | apply below_alloc | apply pw_below_drewN | apply below_drew1 | refine below_set ?_ GE272.out) | exact HB.out)⟩
      · replace c11 := Bool.eq_false_iff.mpr c11
        subst c11
        have H1 : (impl_PolOk.l0 kj1 l0_1 (l0_1.length : Int) 0 a0_0 l0_1 l0_2) = some r := by rw [if_neg (show ¬ (false = true) by decide)] at H; exact H
        clear H
        have H := H1
        clear H1
        have H' := Aside0.mk H
        clear H
        have hcz12_0 : wc.cell? ⟨gb272, 0, none⟩ = some (.int .i64 a0_0) := (blk_cell BK272.out 0).trans rfl
        have hcz12_1 : wc.cell? ⟨gb272, 1, none⟩ = some (.slice A0_1 l0_1.length c0_1) := (blk_cell BK272.out 1).trans rfl
        have hcz12_2 : wc.cell? ⟨gb272, 2, none⟩ = some (.slice A0_2 l0_2.length c0_2) := (blk_cell BK272.out 2).trans rfl
        have hfz12_0 := blk_frozen BK272.out 0
        have hfz12_1 := blk_frozen BK272.out 1
        have hfz12_2 := blk_frozen BK272.out 2
        go_wp2
        go_loopg [33] kj1 (fun kq v33 w' => ∃ (x33_2 : Int), v33 = .int .i64 x33_2 ∧ Aside0 (impl_PolOk.l0 kq l0_1 (l0_1.length : Int) x33_2 a0_0 l0_1 l0_2 = some r) ∧ Aside0 (kq ≤ kj1) ∧ Aside0 (w'.heap[gb272]? = some (.cells #[.int .i64 a0_0, (.slice A0_1 l0_1.length c0_1), (.slice A0_2 l0_2.length c0_2)] 42 (0, 0))) ∧ Aside0 (Below w.heap.size w w'))
        case atStart => exact ⟨(0), (by first | rfl | (simp; done) | (simp [*]; done)), H', ⟨Nat.le_refl _⟩, ⟨by (with_reducible repeat (first | refine blk_drewN ?_ _ | refine blk_drew ?_ | refine blk_alloc ?_ _)); exact BK272.out⟩, ⟨by repeat (first | (with_reducible first | exact HB.out | apply below_alloc | apply pw_below_drewN | apply below_drew1 | refine below_set ?_ GE272.out) | exact HB.out)⟩⟩
        case round =>
          clear H'
          try clear c1
          try clear c2
          try clear p2
          try clear c4
          try clear c4b0
          try clear c6
          try clear c6b0
          try clear c8
          try clear c8b0
          try clear c8b1
          try clear c11
          try clear hcz10_0
          try clear hcz10_1
          try clear hcz10_2
          try clear hcz12_0
          try clear hcz12_1
          try clear hcz12_2
          try clear hcz5_0
          try clear hcz5_1
          try clear hcz5_2
          try clear hcz7_0
          try clear hcz7_1
          try clear hcz7_2
          try clear hcz9_0
          try clear hcz9_1
          try clear hcz9_2
          try clear hfz10_0
          try clear hfz10_1
          try clear hfz10_2
          try clear hfz12_0
          try clear hfz12_1
          try clear hfz12_2
          try clear hfz5_0
          try clear hfz5_1
          try clear hfz5_2
          try clear hfz7_0
          try clear hfz7_1
          try clear hfz7_2
          try clear hfz9_0
          try clear hfz9_1
          try clear hfz9_2
          try clear p2
          obtain ⟨x33_2, rfl, HA, HK2, BK272, HB⟩ := hrel
          cases gk with
          | zero => exact absurd HA.out (by simp [impl_PolOk.l0])
          | succ k2 =>
            have H := HA.out
            clear HA
            simp only [impl_PolOk.l0] at H
            by_cases c13 : x33_2 < (l0_1.length : Int)
            · rw [if_pos c13] at H
              have c13b0 : decide (x33_2 < (l0_1.length : Int)) = true := decide_eq_true c13
              clear c13
              by_cases c14 : 0 ≤ x33_2
              · rw [if_pos c14] at H
                have c14b0 : decide (0 ≤ x33_2) = true := decide_eq_true c14
                clear c14
                by_cases c15 : x33_2 < (l0_1.length : Int)
                · rw [if_pos c15] at H
                  have c15b0 : decide (x33_2 < (l0_1.length : Int)) = true := decide_eq_true c15
                  clear c15
                  by_cases c16 : (rd l0_1 x33_2) < 0
                  · rw [if_pos c16] at H
                    have c16b0 : decide ((rd l0_1 x33_2) < 0) = true := decide_eq_true c16
                    clear c16
                    obtain rfl := Option.some.inj H
                    have p273 : 0 ≤ (x33_2 : Int) := of_decide_eq_true (by first | (with_reducible assumption) | assumption)
                    have q273 : x33_2 < (l0_1.length : Int) := of_decide_eq_true (by first | (with_reducible assumption) | assumption)
                    obtain ⟨ad273, e273, hx273_0⟩ := Kd.at_int HR0_1.out x33_2 p273 q273
                    cases e273
                    replace hx273_0 := (HB.out.cell (World.block_lt_of_cell? w _ hx273_0)).trans hx273_0
                    replace p273 := eq_true p273
                    replace q273 := eq_true q273
                    go_wp2
                    go_ret
                    exact ⟨by first | rfl | (simp [errW_none, errW_some] <;> rfl) | (simp [*, errW_none, errW_some] <;> rfl), by repeat (first | (with_reducible first | exact HB.out | apply below_alloc | apply pw_below_drewN | apply below_drew1 | refine below_set ?_ GE272.out) | exact HB.out)⟩
                  · rw [if_neg c16] at H
                    have c16b0 : decide ((rd l0_1 x33_2) < 0) = false := decide_eq_false c16
                    clear c16
                    by_cases c17 : (rd l0_1 x33_2) > (wrap64 (a0_0 + 1))
                    · rw [if_pos c17] at H
                      have c17b0 : decide ((wrap64 (a0_0 + 1)) < (rd l0_1 x33_2)) = true := decide_eq_true c17
                      clear c17
                      obtain rfl := Option.some.inj H
                      have p273 : 0 ≤ (x33_2 : Int) := of_decide_eq_true (by first | (with_reducible assumption) | assumption)
                      have q273 : x33_2 < (l0_1.length : Int) := of_decide_eq_true (by first | (with_reducible assumption) | assumption)
                      obtain ⟨ad273, e273, hx273_0⟩ := Kd.at_int HR0_1.out x33_2 p273 q273
                      cases e273
                      replace hx273_0 := (HB.out.cell (World.block_lt_of_cell? w _ hx273_0)).trans hx273_0
                      replace p273 := eq_true p273
                      replace q273 := eq_true q273
                      have hcz18_0 : wr.cell? ⟨gb272, 0, none⟩ = some (.int .i64 a0_0) := (blk_cell BK272.out 0).trans rfl
                      have hcz18_1 : wr.cell? ⟨gb272, 1, none⟩ = some (.slice (some ad273) l0_1.length c0_1) := (blk_cell BK272.out 1).trans rfl
                      have hcz18_2 : wr.cell? ⟨gb272, 2, none⟩ = some (.slice A0_2 l0_2.length c0_2) := (blk_cell BK272.out 2).trans rfl
                      have hfz18_0 := blk_frozen BK272.out 0
                      have hfz18_1 := blk_frozen BK272.out 1
                      have hfz18_2 := blk_frozen BK272.out 2
                      go_wp2
                      go_ret
                      exact ⟨by first | rfl | (simp [errW_none, errW_some] <;> rfl) | (simp [*, errW_none, errW_some] <;> rfl), by repeat (first | (with_reducible first | exact HB.out | apply below_alloc | apply pw_below_drewN | apply below_drew1 | refine below_set ?_ GE272.out) | exact HB.out)⟩
                    · rw [if_neg c17] at H
                      have c17b0 : decide ((wrap64 (a0_0 + 1)) < (rd l0_1 x33_2)) = false := decide_eq_false c17
                      clear c17
                      have H' := Aside0.mk H
                      clear H
                      have p273 : 0 ≤ (x33_2 : Int) := of_decide_eq_true (by first | (with_reducible assumption) | assumption)
                      have q273 : x33_2 < (l0_1.length : Int) := of_decide_eq_true (by first | (with_reducible assumption) | assumption)
                      obtain ⟨ad273, e273, hx273_0⟩ := Kd.at_int HR0_1.out x33_2 p273 q273
                      cases e273
                      replace hx273_0 := (HB.out.cell (World.block_lt_of_cell? w _ hx273_0)).trans hx273_0
                      replace p273 := eq_true p273
                      replace q273 := eq_true q273
                      have hcz19_0 : wr.cell? ⟨gb272, 0, none⟩ = some (.int .i64 a0_0) := (blk_cell BK272.out 0).trans rfl
                      have hcz19_1 : wr.cell? ⟨gb272, 1, none⟩ = some (.slice (some ad273) l0_1.length c0_1) := (blk_cell BK272.out 1).trans rfl
                      have hcz19_2 : wr.cell? ⟨gb272, 2, none⟩ = some (.slice A0_2 l0_2.length c0_2) := (blk_cell BK272.out 2).trans rfl
                      have hfz19_0 := blk_frozen BK272.out 0
                      have hfz19_1 := blk_frozen BK272.out 1
                      have hfz19_2 := blk_frozen BK272.out 2
                      go_wp2
                      go_roundg k2
                      case measure => have := HJ1.out; have := HK2.out; omega
                      case rel => exact ⟨(wrap64 (x33_2 + 1)), (by first | rfl | (simp; done) | (simp [*]; done)), H', ⟨by have := HJ1.out; have := HK2.out; omega⟩, ⟨by (with_reducible repeat (first | refine blk_drewN ?_ _ | refine blk_drew ?_ | refine blk_alloc ?_ _)); exact BK272.out⟩, ⟨by repeat (first | (with_reducible first | exact HB.out | apply below_alloc | apply pw_below_drewN | apply below_drew1 | refine below_set ?_ GE272.out) | exact HB.out)⟩⟩
                · rw [if_neg c15] at H
                  exact absurd H (by simp)
              · rw [if_neg c14] at H
                exact absurd H (by simp)
            · rw [if_neg c13] at H
              have c13b0 : decide (x33_2 < (l0_1.length : Int)) = false := decide_eq_false c13
              clear c13
              obtain ⟨y274, hy274⟩ : ∃ y_ : List Int, y_ = (([] : List Int)) := ⟨_, rfl⟩
              replace H : (impl_PolOk.l1 k2 y274 l0_2 (l0_2.length : Int) 0 a0_0 l0_1 l0_2) = some r := by first | (rw [hy274]; with_reducible exact H) | (have H2_ := (Option.bind_some _ _).symm.trans H; rw [hy274]; with_reducible exact H2_) | (have H2_ := (Option.bind_some _ _).symm.trans H; with_reducible exact H2_) | with_reducible exact H | (rw [hy274]; exact H) | exact H
              have Ny274 := Aside0.mk hy274
              clear hy274
              have H' := Aside0.mk H
              clear H
              go_wp2_with (first | ((with_reducible refine gate_dst (N := 47) rfl ?_); (try (refine gate_guard (by rfl) ?_; dsimp only)); refine Go.Proofs.Ytenehkjbopdapaa.PMap.map_event ?hg (N := 47) ?hd ?ho ?_; (case hd => rfl); (case hg => rfl); (case ho => rfl); intro gm_ hgm_ w20 ho21 hb; clear hgm_; (first | rw [← Ny274.out] at ho21 | (simp only [Int.reduceToNat] at ho21; rw [← Ny274.out] at ho21)); have n0_ := Aside0.mk (Go.Proofs.Ytenehkjbopdapaa.PMap.MapR.lower ho21 (below_size (by repeat (first | (with_reducible first | exact HB.out | apply below_alloc | apply pw_below_drewN | apply below_drew1 | refine below_set ?_ GE272.out) | exact HB.out)))); have n1_ := Aside0.mk (blk_below (g := gb272) (o := .cells #[.int .i64 a0_0, .slice A0_1 l0_1.length c0_1, .slice A0_2 l0_2.length c0_2] 42 (0, 0)) (by (with_reducible repeat (first | refine blk_drewN ?_ _ | refine blk_drew ?_ | refine blk_alloc ?_ _)); exact BK272.out) hb); have n2_ := Aside0.mk (below_step (by repeat (first | (with_reducible first | exact HB.out | apply below_alloc | apply pw_below_drewN | apply below_drew1 | refine below_set ?_ GE272.out) | exact HB.out)) hb); clear BK272; clear HB; have HO276 := n0_; have BK272 := n1_; have HB := n2_; clear n0_ n1_ n2_; clear hb ho21; have hcz22_0 : w20.cell? ⟨gb272, 0, none⟩ = some (.int .i64 a0_0) := (blk_cell BK272.out 0).trans rfl; have hcz22_1 : w20.cell? ⟨gb272, 1, none⟩ = some (.slice A0_1 l0_1.length c0_1) := (blk_cell BK272.out 1).trans rfl; have hcz22_2 : w20.cell? ⟨gb272, 2, none⟩ = some (.slice A0_2 l0_2.length c0_2) := (blk_cell BK272.out 2).trans rfl; have hfz22_0 := blk_frozen BK272.out 0; have hfz22_1 := blk_frozen BK272.out 1; have hfz22_2 := blk_frozen BK272.out 2))
              go_loopg [51] k2 (fun kq v51 w' => ∃ (x5_3 : List Int) (x51_3 : Int), v51 = .int .i64 x51_3 ∧ Aside0 (impl_PolOk.l1 kq x5_3 l0_2 (l0_2.length : Int) x51_3 a0_0 l0_1 l0_2 = some r) ∧ Aside0 (kq ≤ k2) ∧ Aside0 (Go.Proofs.Ytenehkjbopdapaa.PMap.MapR w' w.heap.size gm_ x5_3) ∧ Aside0 (w'.heap[gb272]? = some (.cells #[.int .i64 a0_0, (.slice A0_1 l0_1.length c0_1), (.slice A0_2 l0_2.length c0_2)] 42 (0, 0))) ∧ Aside0 (Below w.heap.size w w'))
              case atStart => exact ⟨(y274), (0), (by first | rfl | (simp; done) | (simp [*]; done)), H', ⟨Nat.le_refl _⟩, ⟨by (with_reducible repeat (first | apply Go.Proofs.Ytenehkjbopdapaa.PMap.MapR.alloc | apply Go.Proofs.Ytenehkjbopdapaa.PMap.MapR.drewN | apply Go.Proofs.Ytenehkjbopdapaa.PMap.MapR.drew)); exact HO276.out⟩, ⟨by (with_reducible repeat (first | refine blk_drewN ?_ _ | refine blk_drew ?_ | refine blk_alloc ?_ _)); exact BK272.out⟩, ⟨by repeat (first | (with_reducible first | exact HB.out | apply below_alloc | apply pw_below_drewN | apply below_drew1 | refine below_set ?_ GE272.out) | exact HB.out)⟩⟩
              case round =>
                clear H'
                try clear c1
                try clear c2
                try clear p2
                try clear q2
                try clear hx2
                try clear c4
                try clear c4b0
                try clear c6
                try clear c6b0
                try clear p6
                try clear c8
                try clear c8b0
                try clear c8b1
                try clear c11
                try clear c13
                try clear c13b0
                try clear c14
                try clear c14b0
                try clear c15
                try clear c15b0
                try clear c16
                try clear c16b0
                try clear c17
                try clear c17b0
                try clear hcz10_0
                try clear hcz10_1
                try clear hcz10_2
                try clear hcz12_0
                try clear hcz12_1
                try clear hcz12_2
                try clear hcz18_0
                try clear hcz18_1
                try clear hcz18_2
                try clear hcz19_0
                try clear hcz19_1
                try clear hcz19_2
                try clear hcz22_0
                try clear hcz22_1
                try clear hcz22_2
                try clear hcz5_0
                try clear hcz5_1
                try clear hcz5_2
                try clear hcz7_0
                try clear hcz7_1
                try clear hcz7_2
                try clear hcz9_0
                try clear hcz9_1
                try clear hcz9_2
                try clear hfz10_0
                try clear hfz10_1
                try clear hfz10_2
                try clear hfz12_0
                try clear hfz12_1
                try clear hfz12_2
                try clear hfz18_0
                try clear hfz18_1
                try clear hfz18_2
                try clear hfz19_0
                try clear hfz19_1
                try clear hfz19_2
                try clear hfz22_0
                try clear hfz22_1
                try clear hfz22_2
                try clear hfz5_0
                try clear hfz5_1
                try clear hfz5_2
                try clear hfz7_0
                try clear hfz7_1
                try clear hfz7_2
                try clear hfz9_0
                try clear hfz9_1
                try clear hfz9_2
                try clear hx273_0
                try clear p2
                try clear p273
                try clear q273
                obtain ⟨x5_3, x51_3, rfl, HA, HK3, HO_5, BK272, HB⟩ := hrel
                cases gk with
                | zero => exact absurd HA.out (by simp [impl_PolOk.l1])
                | succ k3 =>
                  have H := HA.out
                  clear HA
                  simp only [impl_PolOk.l1] at H
                  by_cases c23 : x51_3 < (l0_2.length : Int)
                  · rw [if_pos c23] at H
                    have c23b0 : decide (x51_3 < (l0_2.length : Int)) = true := decide_eq_true c23
                    clear c23
                    by_cases c24 : 0 ≤ x51_3
                    · rw [if_pos c24] at H
                      have c24b0 : decide (0 ≤ x51_3) = true := decide_eq_true c24
                      clear c24
                      by_cases c25 : x51_3 < (l0_2.length : Int)
                      · rw [if_pos c25] at H
                        have c25b0 : decide (x51_3 < (l0_2.length : Int)) = true := decide_eq_true c25
                        clear c25
                        have H' := Aside0.mk H
                        clear H
                        have p277 : 0 ≤ (x51_3 : Int) := of_decide_eq_true (by first | (with_reducible assumption) | assumption)
                        have q277 : x51_3 < (l0_2.length : Int) := of_decide_eq_true (by first | (with_reducible assumption) | assumption)
                        obtain ⟨ad277, A277_0, c277_0, e277, hx277_0, hl277_0, hi277_0⟩ := at_L4 HR0_2.out x51_3 p277 q277
                        cases e277
                        replace hx277_0 := (HB.out.cell (World.block_lt_of_cell? w _ hx277_0)).trans hx277_0
                        have HR277_0 := Aside0.mk hi277_0
                        have HC277_0 := Aside0.mk hl277_0
                        clear hi277_0 hl277_0
                        replace p277 := eq_true p277
                        replace q277 := eq_true q277
                        go_wp2
                        go_loopg [57] k3 (fun kq v57 w' => ∃ (x5_4 : List Int) (x57_4 : Int), v57 = .int .i64 x57_4 ∧ Aside0 (impl_PolOk.l2 kq x5_4 l0_2 (l0_2.length : Int) x51_3 (rd_L4 l0_2 x51_3) ((rd_L4 l0_2 x51_3).length : Int) x57_4 a0_0 l0_1 l0_2 = some r) ∧ Aside0 (kq ≤ k3) ∧ Aside0 (Go.Proofs.Ytenehkjbopdapaa.PMap.MapR w' w.heap.size gm_ x5_4) ∧ Aside0 (w'.heap[gb272]? = some (.cells #[.int .i64 a0_0, (.slice A0_1 l0_1.length c0_1), (.slice (some ad277) l0_2.length c0_2)] 42 (0, 0))) ∧ Aside0 (Below w.heap.size w w'))
                        case atStart => exact ⟨(x5_3), (0), (by first | rfl | (simp; done) | (simp [*]; done)), H', ⟨Nat.le_refl _⟩, ⟨by (with_reducible repeat (first | apply Go.Proofs.Ytenehkjbopdapaa.PMap.MapR.alloc | apply Go.Proofs.Ytenehkjbopdapaa.PMap.MapR.drewN | apply Go.Proofs.Ytenehkjbopdapaa.PMap.MapR.drew)); exact HO_5.out⟩, ⟨by (with_reducible repeat (first | refine blk_drewN ?_ _ | refine blk_drew ?_ | refine blk_alloc ?_ _)); exact BK272.out⟩, ⟨by repeat (first | (with_reducible first | exact HB.out | apply below_alloc | apply pw_below_drewN | apply below_drew1 | refine below_set ?_ GE272.out) | exact HB.out)⟩⟩
                        case round =>
                          clear H'
                          try clear c1
                          try clear c2
                          try clear p2
                          try clear q2
                          try clear hx2
                          try clear c4
                          try clear c4b0
                          try clear c6
                          try clear c6b0
                          try clear p6
                          try clear c8
                          try clear c8b0
                          try clear c8b1
                          try clear c11
                          try clear c13
                          try clear c13b0
                          try clear c14
                          try clear c14b0
                          try clear c15
                          try clear c15b0
                          try clear c16
                          try clear c16b0
                          try clear c17
                          try clear c17b0
                          try clear c23
                          try clear c23b0
                          try clear c24
                          try clear c24b0
                          try clear c25
                          try clear c25b0
                          try clear hcz10_0
                          try clear hcz10_1
                          try clear hcz10_2
                          try clear hcz12_0
                          try clear hcz12_1
                          try clear hcz12_2
                          try clear hcz18_0
                          try clear hcz18_1
                          try clear hcz18_2
                          try clear hcz19_0
                          try clear hcz19_1
                          try clear hcz19_2
                          try clear hcz22_0
                          try clear hcz22_1
                          try clear hcz22_2
                          try clear hcz5_0
                          try clear hcz5_1
                          try clear hcz5_2
                          try clear hcz7_0
                          try clear hcz7_1
                          try clear hcz7_2
                          try clear hcz9_0
                          try clear hcz9_1
                          try clear hcz9_2
                          try clear hfz10_0
                          try clear hfz10_1
                          try clear hfz10_2
                          try clear hfz12_0
                          try clear hfz12_1
                          try clear hfz12_2
                          try clear hfz18_0
                          try clear hfz18_1
                          try clear hfz18_2
                          try clear hfz19_0
                          try clear hfz19_1
                          try clear hfz19_2
                          try clear hfz22_0
                          try clear hfz22_1
                          try clear hfz22_2
                          try clear hfz5_0
                          try clear hfz5_1
                          try clear hfz5_2
                          try clear hfz7_0
                          try clear hfz7_1
                          try clear hfz7_2
                          try clear hfz9_0
                          try clear hfz9_1
                          try clear hfz9_2
                          try clear hx273_0
                          try clear hx277_0
                          try clear p2
                          try clear p273
                          try clear p277
                          try clear p6
                          try clear q2
                          try clear q273
                          try clear q277
                          obtain ⟨x5_4, x57_4, rfl, HA, HK4, HO_5, BK272, HB⟩ := hrel
                          cases gk with
                          | zero => exact absurd HA.out (by simp [impl_PolOk.l2])
                          | succ k4 =>
                            have H := HA.out
                            clear HA
                            simp only [impl_PolOk.l2] at H
                            by_cases c26 : x57_4 < ((rd_L4 l0_2 x51_3).length : Int)
                            · rw [if_pos c26] at H
                              have c26b0 : decide (x57_4 < ((rd_L4 l0_2 x51_3).length : Int)) = true := decide_eq_true c26
                              clear c26
                              by_cases c27 : 0 ≤ x57_4
                              · rw [if_pos c27] at H
                                have c27b0 : decide (0 ≤ x57_4) = true := decide_eq_true c27
                                clear c27
                                by_cases c28 : x57_4 < ((rd_L4 l0_2 x51_3).length : Int)
                                · rw [if_pos c28] at H
                                  have c28b0 : decide (x57_4 < ((rd_L4 l0_2 x51_3).length : Int)) = true := decide_eq_true c28
                                  clear c28
                                  by_cases c29 : ((rd_T74 (rd_L4 l0_2 x51_3) x57_4).f0) < 1
                                  · rw [if_pos c29] at H
                                    have c29b0 : decide (((rd_T74 (rd_L4 l0_2 x51_3) x57_4).f0) < 1) = true := decide_eq_true c29
                                    clear c29
                                    obtain rfl := Option.some.inj H
                                    have p278 : 0 ≤ (x57_4 : Int) := of_decide_eq_true (by first | (with_reducible assumption) | assumption)
                                    have q278 : x57_4 < ((rd_L4 l0_2 x51_3).length : Int) := of_decide_eq_true (by first | (with_reducible assumption) | assumption)
                                    obtain ⟨ad278, e278, hx278_0, hx278_1⟩ := at_T74 HR277_0.out x57_4 p278 q278
                                    cases e278
                                    replace hx278_0 := (HB.out.cell (World.block_lt_of_cell? w _ hx278_0)).trans hx278_0
                                    replace hx278_1 := (HB.out.cell (World.block_lt_of_cell? w _ hx278_1)).trans hx278_1
                                    replace p278 := eq_true p278
                                    replace q278 := eq_true q278
                                    go_wp2_with (first | ((with_reducible refine gate_dst (N := 9) rfl ?_); (try (refine gate_guard (by rfl) ?_; dsimp only)); refine box_event ?hg (N := 9) ?hd (cs := #[.int .i64 0, .int .i64 0]) (t := 74) ?hr ?_; (case hd => rfl); (case hg => rfl); (case hr => first | (go_simp; done) | (go_simp; rfl)); intro gb279 hg w30 hbox hb; have n0_ := Aside0.mk (Go.Proofs.Ytenehkjbopdapaa.PMap.MapR.below (by (with_reducible repeat (first | apply Go.Proofs.Ytenehkjbopdapaa.PMap.MapR.alloc | apply Go.Proofs.Ytenehkjbopdapaa.PMap.MapR.drewN | apply Go.Proofs.Ytenehkjbopdapaa.PMap.MapR.drew)); exact HO_5.out) hb); have n1_ := Aside0.mk (blk_below (g := gb272) (o := .cells #[.int .i64 a0_0, .slice A0_1 l0_1.length c0_1, .slice (some ad277) l0_2.length c0_2] 42 (0, 0)) (by (with_reducible repeat (first | refine blk_drewN ?_ _ | refine blk_drew ?_ | refine blk_alloc ?_ _)); exact BK272.out) hb); have n2_ := Aside0.mk (below_step (by repeat (first | (with_reducible first | exact HB.out | apply below_alloc | apply pw_below_drewN | apply below_drew1 | refine below_set ?_ GE272.out) | exact HB.out)) hb); have n3_ := Aside0.mk (hbox); have n4_ := Aside0.mk ((by rw [hg]; exact (below_size (by repeat (first | (with_reducible first | exact HB.out | apply below_alloc | apply pw_below_drewN | apply below_drew1 | refine below_set ?_ GE272.out) | exact HB.out))) : w.heap.size ≤ gb279)); have n5_ := Aside0.mk ((by rw [hg]; exact (below_size (by repeat (first | (with_reducible first | exact HB.out | apply below_alloc | apply pw_below_drewN | apply below_drew1 | refine below_set ?_ GE272.out) | exact HB.out))) : w.heap.size ≤ gb279)); have n6_ := Aside0.mk ((by rw [hg]; exact Nat.ne_of_lt (blk_lt (g := gb272) (o := .cells #[.int .i64 a0_0, .slice A0_1 l0_1.length c0_1, .slice (some ad277) l0_2.length c0_2] 42 (0, 0)) (by (with_reducible repeat (first | refine blk_drewN ?_ _ | refine blk_drew ?_ | refine blk_alloc ?_ _)); exact BK272.out)) : gb272 ≠ gb279)); have n7_ := Aside0.mk ((by rw [hg]; exact Nat.ne_of_gt (blk_lt (g := gb272) (o := .cells #[.int .i64 a0_0, .slice A0_1 l0_1.length c0_1, .slice (some ad277) l0_2.length c0_2] 42 (0, 0)) (by (with_reducible repeat (first | refine blk_drewN ?_ _ | refine blk_drew ?_ | refine blk_alloc ?_ _)); exact BK272.out)) : gb279 ≠ gb272)); clear HO_5; clear BK272; clear HB; have HO_5 := n0_; have BK272 := n1_; have HB := n2_; have BK279 := n3_; have GW279 := n4_; have GE279 := n5_; have NB272_279 := n6_; have NB279_272 := n7_; clear n0_ n1_ n2_ n3_ n4_ n5_ n6_ n7_; clear hb hbox hg; have hnb31 := NB279_272.out; have hnc31 := NB272_279.out; have hcz32_0 : w30.cell? ⟨gb279, 0, none⟩ = some (.int .i64 0) := (blk_cell BK279.out 0).trans rfl; have hcz32_1 : w30.cell? ⟨gb279, 1, none⟩ = some (.int .i64 0) := (blk_cell BK279.out 1).trans rfl; have hfz32_0 := blk_frozen BK279.out 0; have hfz32_1 := blk_frozen BK279.out 1))
                                    go_ret
                                    exact ⟨by first | rfl | (simp [errW_none, errW_some] <;> rfl) | (simp [*, errW_none, errW_some] <;> rfl), by repeat (first | (with_reducible first | exact HB.out | apply below_alloc | apply pw_below_drewN | apply below_drew1 | refine below_set ?_ GE272.out | refine below_set ?_ GE279.out) | exact HB.out)⟩
                                  · rw [if_neg c29] at H
                                    have c29b0 : decide (((rd_T74 (rd_L4 l0_2 x51_3) x57_4).f0) < 1) = false := decide_eq_false c29
                                    clear c29
                                    by_cases c33 : ((rd_T74 (rd_L4 l0_2 x51_3) x57_4).f0) > 9
                                    · rw [if_pos c33] at H
                                      have c33b0 : decide (9 < ((rd_T74 (rd_L4 l0_2 x51_3) x57_4).f0)) = true := decide_eq_true c33
                                      clear c33
                                      obtain rfl := Option.some.inj H
                                      have p278 : 0 ≤ (x57_4 : Int) := of_decide_eq_true (by first | (with_reducible assumption) | assumption)
                                      have q278 : x57_4 < ((rd_L4 l0_2 x51_3).length : Int) := of_decide_eq_true (by first | (with_reducible assumption) | assumption)
                                      obtain ⟨ad278, e278, hx278_0, hx278_1⟩ := at_T74 HR277_0.out x57_4 p278 q278
                                      cases e278
                                      replace hx278_0 := (HB.out.cell (World.block_lt_of_cell? w _ hx278_0)).trans hx278_0
                                      replace hx278_1 := (HB.out.cell (World.block_lt_of_cell? w _ hx278_1)).trans hx278_1
                                      replace p278 := eq_true p278
                                      replace q278 := eq_true q278
                                      go_wp2_with (first | ((with_reducible refine gate_dst (N := 9) rfl ?_); (try (refine gate_guard (by rfl) ?_; dsimp only)); refine box_event ?hg (N := 9) ?hd (cs := #[.int .i64 0, .int .i64 0]) (t := 74) ?hr ?_; (case hd => rfl); (case hg => rfl); (case hr => first | (go_simp; done) | (go_simp; rfl)); intro gb279 hg w34 hbox hb; have n0_ := Aside0.mk (Go.Proofs.Ytenehkjbopdapaa.PMap.MapR.below (by (with_reducible repeat (first | apply Go.Proofs.Ytenehkjbopdapaa.PMap.MapR.alloc | apply Go.Proofs.Ytenehkjbopdapaa.PMap.MapR.drewN | apply Go.Proofs.Ytenehkjbopdapaa.PMap.MapR.drew)); exact HO_5.out) hb); have n1_ := Aside0.mk (blk_below (g := gb272) (o := .cells #[.int .i64 a0_0, .slice A0_1 l0_1.length c0_1, .slice (some ad277) l0_2.length c0_2] 42 (0, 0)) (by (with_reducible repeat (first | refine blk_drewN ?_ _ | refine blk_drew ?_ | refine blk_alloc ?_ _)); exact BK272.out) hb); have n2_ := Aside0.mk (below_step (by repeat (first | (with_reducible first | exact HB.out | apply below_alloc | apply pw_below_drewN | apply below_drew1 | refine below_set ?_ GE272.out) | exact HB.out)) hb); have n3_ := Aside0.mk (hbox); have n4_ := Aside0.mk ((by rw [hg]; exact (below_size (by repeat (first | (with_reducible first | exact HB.out | apply below_alloc | apply pw_below_drewN | apply below_drew1 | refine below_set ?_ GE272.out) | exact HB.out))) : w.heap.size ≤ gb279)); have n5_ := Aside0.mk ((by rw [hg]; exact (below_size (by repeat (first | (with_reducible first | exact HB.out | apply below_alloc | apply pw_below_drewN | apply below_drew1 | refine below_set ?_ GE272.out) | exact HB.out))) : w.heap.size ≤ gb279)); have n6_ := Aside0.mk ((by rw [hg]; exact Nat.ne_of_lt (blk_lt (g := gb272) (o := .cells #[.int .i64 a0_0, .slice A0_1 l0_1.length c0_1, .slice (some ad277) l0_2.length c0_2] 42 (0, 0)) (by (with_reducible repeat (first | refine blk_drewN ?_ _ | refine blk_drew ?_ | refine blk_alloc ?_ _)); exact BK272.out)) : gb272 ≠ gb279)); have n7_ := Aside0.mk ((by rw [hg]; exact Nat.ne_of_gt (blk_lt (g := gb272) (o := .cells #[.int .i64 a0_0, .slice A0_1 l0_1.length c0_1, .slice (some ad277) l0_2.length c0_2] 42 (0, 0)) (by (with_reducible repeat (first | refine blk_drewN ?_ _ | refine blk_drew ?_ | refine blk_alloc ?_ _)); exact BK272.out)) : gb279 ≠ gb272)); clear HO_5; clear BK272; clear HB; have HO_5 := n0_; have BK272 := n1_; have HB := n2_; have BK279 := n3_; have GW279 := n4_; have GE279 := n5_; have NB272_279 := n6_; have NB279_272 := n7_; clear n0_ n1_ n2_ n3_ n4_ n5_ n6_ n7_; clear hb hbox hg; have hnb35 := NB279_272.out; have hnc35 := NB272_279.out; have hcz36_0 : w34.cell? ⟨gb279, 0, none⟩ = some (.int .i64 0) := (blk_cell BK279.out 0).trans rfl; have hcz36_1 : w34.cell? ⟨gb279, 1, none⟩ = some (.int .i64 0) := (blk_cell BK279.out 1).trans rfl; have hfz36_0 := blk_frozen BK279.out 0; have hfz36_1 := blk_frozen BK279.out 1))
                                      go_ret
                                      exact ⟨by first | rfl | (simp [errW_none, errW_some] <;> rfl) | (simp [*, errW_none, errW_some] <;> rfl), by repeat (first | (with_reducible first | exact HB.out | apply below_alloc | apply pw_below_drewN | apply below_drew1 | refine below_set ?_ GE272.out | refine below_set ?_ GE279.out) | exact HB.out)⟩
                                    · rw [if_neg c33] at H
                                      have c33b0 : decide (9 < ((rd_T74 (rd_L4 l0_2 x51_3) x57_4).f0)) = false := decide_eq_false c33
                                      clear c33
                                      replace H := Option.bind_eq_some_iff.mp H
                                      obtain ⟨t280, A370, H⟩ := H
                                      replace H : (if t280 = true then (some false) else (if ((rd_T74 (rd_L4 l0_2 x51_3) x57_4).f1) < 0 then (some false) else (if ((rd_T74 (rd_L4 l0_2 x51_3) x57_4).f1) > a0_0 then (some false) else (if x5_4.length < 17592186044416 then (impl_PolOk.l2 k4 (x5_4 ++ [(rd_T74 (rd_L4 l0_2 x51_3) x57_4).f0]) l0_2 (l0_2.length : Int) x51_3 (rd_L4 l0_2 x51_3) ((rd_L4 l0_2 x51_3).length : Int) (wrap64 (x57_4 + 1)) a0_0 l0_1 l0_2) else (none))))) = some r := H
                                      have A37 := Aside0.mk A370
                                      clear A370
                                      by_cases c38 : t280 = true
                                      · subst c38
                                        have H1 : (some false) = some r := by rw [if_pos rfl] at H; exact H
                                        clear H
                                        have H := H1
                                        clear H1
                                        obtain rfl := Option.some.inj H
                                        have p278 : 0 ≤ (x57_4 : Int) := of_decide_eq_true (by first | (with_reducible assumption) | assumption)
                                        have q278 : x57_4 < ((rd_L4 l0_2 x51_3).length : Int) := of_decide_eq_true (by first | (with_reducible assumption) | assumption)
                                        obtain ⟨ad278, e278, hx278_0, hx278_1⟩ := at_T74 HR277_0.out x57_4 p278 q278
                                        cases e278
                                        replace hx278_0 := (HB.out.cell (World.block_lt_of_cell? w _ hx278_0)).trans hx278_0
                                        replace hx278_1 := (HB.out.cell (World.block_lt_of_cell? w _ hx278_1)).trans hx278_1
                                        replace p278 := eq_true p278
                                        replace q278 := eq_true q278
                                        go_wp2_with (first | ((with_reducible refine gate_dst (N := 9) rfl ?_); (try (refine gate_guard (by rfl) ?_; dsimp only)); refine box_event ?hg (N := 9) ?hd (cs := #[.int .i64 0, .int .i64 0]) (t := 74) ?hr ?_; (case hd => rfl); (case hg => rfl); (case hr => first | (go_simp; done) | (go_simp; rfl)); intro gb279 hg w39 hbox hb; have n0_ := Aside0.mk (Go.Proofs.Ytenehkjbopdapaa.PMap.MapR.below (by (with_reducible repeat (first | apply Go.Proofs.Ytenehkjbopdapaa.PMap.MapR.alloc | apply Go.Proofs.Ytenehkjbopdapaa.PMap.MapR.drewN | apply Go.Proofs.Ytenehkjbopdapaa.PMap.MapR.drew)); exact HO_5.out) hb); have n1_ := Aside0.mk (blk_below (g := gb272) (o := .cells #[.int .i64 a0_0, .slice A0_1 l0_1.length c0_1, .slice (some ad277) l0_2.length c0_2] 42 (0, 0)) (by (with_reducible repeat (first | refine blk_drewN ?_ _ | refine blk_drew ?_ | refine blk_alloc ?_ _)); exact BK272.out) hb); have n2_ := Aside0.mk (below_step (by repeat (first | (with_reducible first | exact HB.out | apply below_alloc | apply pw_below_drewN | apply below_drew1 | refine below_set ?_ GE272.out) | exact HB.out)) hb); have n3_ := Aside0.mk (hbox); have n4_ := Aside0.mk ((by rw [hg]; exact (below_size (by repeat (first | (with_reducible first | exact HB.out | apply below_alloc | apply pw_below_drewN | apply below_drew1 | refine below_set ?_ GE272.out) | exact HB.out))) : w.heap.size ≤ gb279)); have n5_ := Aside0.mk ((by rw [hg]; exact (below_size (by repeat (first | (with_reducible first | exact HB.out | apply below_alloc | apply pw_below_drewN | apply below_drew1 | refine below_set ?_ GE272.out) | exact HB.out))) : w.heap.size ≤ gb279)); have n6_ := Aside0.mk ((by rw [hg]; exact Nat.ne_of_lt (blk_lt (g := gb272) (o := .cells #[.int .i64 a0_0, .slice A0_1 l0_1.length c0_1, .slice (some ad277) l0_2.length c0_2] 42 (0, 0)) (by (with_reducible repeat (first | refine blk_drewN ?_ _ | refine blk_drew ?_ | refine blk_alloc ?_ _)); exact BK272.out)) : gb272 ≠ gb279)); have n7_ := Aside0.mk ((by rw [hg]; exact Nat.ne_of_gt (blk_lt (g := gb272) (o := .cells #[.int .i64 a0_0, .slice A0_1 l0_1.length c0_1, .slice (some ad277) l0_2.length c0_2] 42 (0, 0)) (by (with_reducible repeat (first | refine blk_drewN ?_ _ | refine blk_drew ?_ | refine blk_alloc ?_ _)); exact BK272.out)) : gb279 ≠ gb272)); clear HO_5; clear BK272; clear HB; have HO_5 := n0_; have BK272 := n1_; have HB := n2_; have BK279 := n3_; have GW279 := n4_; have GE279 := n5_; have NB272_279 := n6_; have NB279_272 := n7_; clear n0_ n1_ n2_ n3_ n4_ n5_ n6_ n7_; clear hb hbox hg; have hnb40 := NB279_272.out; have hnc40 := NB272_279.out; have hcz41_0 : w39.cell? ⟨gb279, 0, none⟩ = some (.int .i64 0) := (blk_cell BK279.out 0).trans rfl; have hcz41_1 : w39.cell? ⟨gb279, 1, none⟩ = some (.int .i64 0) := (blk_cell BK279.out 1).trans rfl; have hfz41_0 := blk_frozen BK279.out 0; have hfz41_1 := blk_frozen BK279.out 1) | ((with_reducible refine gate_dst (N := 73) rfl ?_); (try (refine gate_guard (by rfl) ?_; dsimp only)); refine Go.Proofs.Ytenehkjbopdapaa.PMap.look_event (m := .tmp 70) (x := .tmp 72) ?hg (N := 73) ?hd ?ho w.heap.size gm_ ((rd_T74 (rd_L4 l0_2 x51_3) x57_4).f0) x5_4 true ?hm ?hx ?hwf ?h0 (hasD_ A37.out) ?_; (case hg => rfl); (case hd => rfl); (case ho => rfl); (case hm => rfl); (case hx => rfl); (case hwf => exact Go.Proofs.Ytenehkjbopdapaa.PMap.wf_of c29b0 c33b0); (case h0 => (with_reducible repeat (first | apply Go.Proofs.Ytenehkjbopdapaa.PMap.MapR.alloc | apply Go.Proofs.Ytenehkjbopdapaa.PMap.MapR.drewN | apply Go.Proofs.Ytenehkjbopdapaa.PMap.MapR.drew)); exact Go.Proofs.Ytenehkjbopdapaa.PMap.MapR.far (p := ⟨gb279, 1, none⟩) (Go.Proofs.Ytenehkjbopdapaa.PMap.MapR.far (p := ⟨gb279, 0, none⟩) HO_5.out (HO_5.out.ne BK279.out) (.int .i64 ((rd_T74 (rd_L4 l0_2 x51_3) x57_4).f0))) (HO_5.out.ne BK279.out) (.int .i64 ((rd_T74 (rd_L4 l0_2 x51_3) x57_4).f1)))))
                                        go_ret
                                        exact ⟨by first | rfl | (simp [errW_none, errW_some] <;> rfl) | (simp [*, errW_none, errW_some] <;> rfl), by repeat (first | (with_reducible first | exact HB.out | apply below_alloc | apply pw_below_drewN | apply below_drew1 | refine below_set ?_ GE272.out | refine below_set ?_ GE279.out) | exact HB.out)⟩
                                      · replace c38 := Bool.eq_false_iff.mpr c38
                                        subst c38
                                        have H1 : (if ((rd_T74 (rd_L4 l0_2 x51_3) x57_4).f1) < 0 then (some false) else (if ((rd_T74 (rd_L4 l0_2 x51_3) x57_4).f1) > a0_0 then (some false) else (if x5_4.length < 17592186044416 then (impl_PolOk.l2 k4 (x5_4 ++ [(rd_T74 (rd_L4 l0_2 x51_3) x57_4).f0]) l0_2 (l0_2.length : Int) x51_3 (rd_L4 l0_2 x51_3) ((rd_L4 l0_2 x51_3).length : Int) (wrap64 (x57_4 + 1)) a0_0 l0_1 l0_2) else (none)))) = some r := by rw [if_neg (show ¬ (false = true) by decide)] at H; exact H
                                        clear H
                                        have H := H1
                                        clear H1
                                        by_cases c43 : ((rd_T74 (rd_L4 l0_2 x51_3) x57_4).f1) < 0
                                        · rw [if_pos c43] at H
                                          have c43b0 : decide (((rd_T74 (rd_L4 l0_2 x51_3) x57_4).f1) < 0) = true := decide_eq_true c43
                                          clear c43
                                          obtain rfl := Option.some.inj H
                                          have p278 : 0 ≤ (x57_4 : Int) := of_decide_eq_true (by first | (with_reducible assumption) | assumption)
                                          have q278 : x57_4 < ((rd_L4 l0_2 x51_3).length : Int) := of_decide_eq_true (by first | (with_reducible assumption) | assumption)
                                          obtain ⟨ad278, e278, hx278_0, hx278_1⟩ := at_T74 HR277_0.out x57_4 p278 q278
                                          cases e278
                                          replace hx278_0 := (HB.out.cell (World.block_lt_of_cell? w _ hx278_0)).trans hx278_0
                                          replace hx278_1 := (HB.out.cell (World.block_lt_of_cell? w _ hx278_1)).trans hx278_1
                                          replace p278 := eq_true p278
                                          replace q278 := eq_true q278
                                          go_wp2_with (first | ((with_reducible refine gate_dst (N := 9) rfl ?_); (try (refine gate_guard (by rfl) ?_; dsimp only)); refine box_event ?hg (N := 9) ?hd (cs := #[.int .i64 0, .int .i64 0]) (t := 74) ?hr ?_; (case hd => rfl); (case hg => rfl); (case hr => first | (go_simp; done) | (go_simp; rfl)); intro gb279 hg w44 hbox hb; have n0_ := Aside0.mk (Go.Proofs.Ytenehkjbopdapaa.PMap.MapR.below (by (with_reducible repeat (first | apply Go.Proofs.Ytenehkjbopdapaa.PMap.MapR.alloc | apply Go.Proofs.Ytenehkjbopdapaa.PMap.MapR.drewN | apply Go.Proofs.Ytenehkjbopdapaa.PMap.MapR.drew)); exact HO_5.out) hb); have n1_ := Aside0.mk (blk_below (g := gb272) (o := .cells #[.int .i64 a0_0, .slice A0_1 l0_1.length c0_1, .slice (some ad277) l0_2.length c0_2] 42 (0, 0)) (by (with_reducible repeat (first | refine blk_drewN ?_ _ | refine blk_drew ?_ | refine blk_alloc ?_ _)); exact BK272.out) hb); have n2_ := Aside0.mk (below_step (by repeat (first | (with_reducible first | exact HB.out | apply below_alloc | apply pw_below_drewN | apply below_drew1 | refine below_set ?_ GE272.out) | exact HB.out)) hb); have n3_ := Aside0.mk (hbox); have n4_ := Aside0.mk ((by rw [hg]; exact (below_size (by repeat (first | (with_reducible first | exact HB.out | apply below_alloc | apply pw_below_drewN | apply below_drew1 | refine below_set ?_ GE272.out) | exact HB.out))) : w.heap.size ≤ gb279)); have n5_ := Aside0.mk ((by rw [hg]; exact (below_size (by repeat (first | (with_reducible first | exact HB.out | apply below_alloc | apply pw_below_drewN | apply below_drew1 | refine below_set ?_ GE272.out) | exact HB.out))) : w.heap.size ≤ gb279)); have n6_ := Aside0.mk ((by rw [hg]; exact Nat.ne_of_lt (blk_lt (g := gb272) (o := .cells #[.int .i64 a0_0, .slice A0_1 l0_1.length c0_1, .slice (some ad277) l0_2.length c0_2] 42 (0, 0)) (by (with_reducible repeat (first | refine blk_drewN ?_ _ | refine blk_drew ?_ | refine blk_alloc ?_ _)); exact BK272.out)) : gb272 ≠ gb279)); have n7_ := Aside0.mk ((by rw [hg]; exact Nat.ne_of_gt (blk_lt (g := gb272) (o := .cells #[.int .i64 a0_0, .slice A0_1 l0_1.length c0_1, .slice (some ad277) l0_2.length c0_2] 42 (0, 0)) (by (with_reducible repeat (first | refine blk_drewN ?_ _ | refine blk_drew ?_ | refine blk_alloc ?_ _)); exact BK272.out)) : gb279 ≠ gb272)); clear HO_5; clear BK272; clear HB; have HO_5 := n0_; have BK272 := n1_; have HB := n2_; have BK279 := n3_; have GW279 := n4_; have GE279 := n5_; have NB272_279 := n6_; have NB279_272 := n7_; clear n0_ n1_ n2_ n3_ n4_ n5_ n6_ n7_; clear hb hbox hg; have hnb45 := NB279_272.out; have hnc45 := NB272_279.out; have hcz46_0 : w44.cell? ⟨gb279, 0, none⟩ = some (.int .i64 0) := (blk_cell BK279.out 0).trans rfl; have hcz46_1 : w44.cell? ⟨gb279, 1, none⟩ = some (.int .i64 0) := (blk_cell BK279.out 1).trans rfl; have hfz46_0 := blk_frozen BK279.out 0; have hfz46_1 := blk_frozen BK279.out 1) | ((with_reducible refine gate_dst (N := 73) rfl ?_); (try (refine gate_guard (by rfl) ?_; dsimp only)); refine Go.Proofs.Ytenehkjbopdapaa.PMap.look_event (m := .tmp 70) (x := .tmp 72) ?hg (N := 73) ?hd ?ho w.heap.size gm_ ((rd_T74 (rd_L4 l0_2 x51_3) x57_4).f0) x5_4 false ?hm ?hx ?hwf ?h0 (hasD_ A37.out) ?_; (case hg => rfl); (case hd => rfl); (case ho => rfl); (case hm => rfl); (case hx => rfl); (case hwf => exact Go.Proofs.Ytenehkjbopdapaa.PMap.wf_of c29b0 c33b0); (case h0 => (with_reducible repeat (first | apply Go.Proofs.Ytenehkjbopdapaa.PMap.MapR.alloc | apply Go.Proofs.Ytenehkjbopdapaa.PMap.MapR.drewN | apply Go.Proofs.Ytenehkjbopdapaa.PMap.MapR.drew)); exact Go.Proofs.Ytenehkjbopdapaa.PMap.MapR.far (p := ⟨gb279, 1, none⟩) (Go.Proofs.Ytenehkjbopdapaa.PMap.MapR.far (p := ⟨gb279, 0, none⟩) HO_5.out (HO_5.out.ne BK279.out) (.int .i64 ((rd_T74 (rd_L4 l0_2 x51_3) x57_4).f0))) (HO_5.out.ne BK279.out) (.int .i64 ((rd_T74 (rd_L4 l0_2 x51_3) x57_4).f1)))))
                                          go_ret
                                          exact ⟨by first | rfl | (simp [errW_none, errW_some] <;> rfl) | (simp [*, errW_none, errW_some] <;> rfl), by repeat (first | (with_reducible first | exact HB.out | apply below_alloc | apply pw_below_drewN | apply below_drew1 | refine below_set ?_ GE272.out | refine below_set ?_ GE279.out) | exact HB.out)⟩
                                        · rw [if_neg c43] at H
                                          have c43b0 : decide (((rd_T74 (rd_L4 l0_2 x51_3) x57_4).f1) < 0) = false := decide_eq_false c43
                                          clear c43
                                          by_cases c48 : ((rd_T74 (rd_L4 l0_2 x51_3) x57_4).f1) > a0_0
                                          · rw [if_pos c48] at H
                                            have c48b0 : decide (a0_0 < ((rd_T74 (rd_L4 l0_2 x51_3) x57_4).f1)) = true := decide_eq_true c48
                                            clear c48
                                            obtain rfl := Option.some.inj H
                                            have p278 : 0 ≤ (x57_4 : Int) := of_decide_eq_true (by first | (with_reducible assumption) | assumption)
                                            have q278 : x57_4 < ((rd_L4 l0_2 x51_3).length : Int) := of_decide_eq_true (by first | (with_reducible assumption) | assumption)
                                            obtain ⟨ad278, e278, hx278_0, hx278_1⟩ := at_T74 HR277_0.out x57_4 p278 q278
                                            cases e278
                                            replace hx278_0 := (HB.out.cell (World.block_lt_of_cell? w _ hx278_0)).trans hx278_0
                                            replace hx278_1 := (HB.out.cell (World.block_lt_of_cell? w _ hx278_1)).trans hx278_1
                                            replace p278 := eq_true p278
                                            replace q278 := eq_true q278
                                            go_wp2_with (first | ((with_reducible refine gate_dst (N := 9) rfl ?_); (try (refine gate_guard (by rfl) ?_; dsimp only)); refine box_event ?hg (N := 9) ?hd (cs := #[.int .i64 0, .int .i64 0]) (t := 74) ?hr ?_; (case hd => rfl); (case hg => rfl); (case hr => first | (go_simp; done) | (go_simp; rfl)); intro gb279 hg w49 hbox hb; have n0_ := Aside0.mk (Go.Proofs.Ytenehkjbopdapaa.PMap.MapR.below (by (with_reducible repeat (first | apply Go.Proofs.Ytenehkjbopdapaa.PMap.MapR.alloc | apply Go.Proofs.Ytenehkjbopdapaa.PMap.MapR.drewN | apply Go.Proofs.Ytenehkjbopdapaa.PMap.MapR.drew)); exact HO_5.out) hb); have n1_ := Aside0.mk (blk_below (g := gb272) (o := .cells #[.int .i64 a0_0, .slice A0_1 l0_1.length c0_1, .slice (some ad277) l0_2.length c0_2] 42 (0, 0)) (by (with_reducible repeat (first | refine blk_drewN ?_ _ | refine blk_drew ?_ | refine blk_alloc ?_ _)); exact BK272.out) hb); have n2_ := Aside0.mk (below_step (by repeat (first | (with_reducible first | exact HB.out | apply below_alloc | apply pw_below_drewN | apply below_drew1 | refine below_set ?_ GE272.out) | exact HB.out)) hb); have n3_ := Aside0.mk (hbox); have n4_ := Aside0.mk ((by rw [hg]; exact (below_size (by repeat (first | (with_reducible first | exact HB.out | apply below_alloc | apply pw_below_drewN | apply below_drew1 | refine below_set ?_ GE272.out) | exact HB.out))) : w.heap.size ≤ gb279)); have n5_ := Aside0.mk ((by rw [hg]; exact (below_size (by repeat (first | (with_reducible first | exact HB.out | apply below_alloc | apply pw_below_drewN | apply below_drew1 | refine below_set ?_ GE272.out) | exact HB.out))) : w.heap.size ≤ gb279)); have n6_ := Aside0.mk ((by rw [hg]; exact Nat.ne_of_lt (blk_lt (g := gb272) (o := .cells #[.int .i64 a0_0, .slice A0_1 l0_1.length c0_1, .slice (some ad277) l0_2.length c0_2] 42 (0, 0)) (by (with_reducible repeat (first | refine blk_drewN ?_ _ | refine blk_drew ?_ | refine blk_alloc ?_ _)); exact BK272.out)) : gb272 ≠ gb279)); have n7_ := Aside0.mk ((by rw [hg]; exact Nat.ne_of_gt (blk_lt (g := gb272) (o := .cells #[.int .i64 a0_0, .slice A0_1 l0_1.length c0_1, .slice (some ad277) l0_2.length c0_2] 42 (0, 0)) (by (with_reducible repeat (first | refine blk_drewN ?_ _ | refine blk_drew ?_ | refine blk_alloc ?_ _)); exact BK272.out)) : gb279 ≠ gb272)); clear HO_5; clear BK272; clear HB; have HO_5 := n0_; have BK272 := n1_; have HB := n2_; have BK279 := n3_; have GW279 := n4_; have GE279 := n5_; have NB272_279 := n6_; have NB279_272 := n7_; clear n0_ n1_ n2_ n3_ n4_ n5_ n6_ n7_; clear hb hbox hg; have hnb50 := NB279_272.out; have hnc50 := NB272_279.out; have hcz51_0 : w49.cell? ⟨gb279, 0, none⟩ = some (.int .i64 0) := (blk_cell BK279.out 0).trans rfl; have hcz51_1 : w49.cell? ⟨gb279, 1, none⟩ = some (.int .i64 0) := (blk_cell BK279.out 1).trans rfl; have hfz51_0 := blk_frozen BK279.out 0; have hfz51_1 := blk_frozen BK279.out 1) | ((with_reducible refine gate_dst (N := 73) rfl ?_); (try (refine gate_guard (by rfl) ?_; dsimp only)); refine Go.Proofs.Ytenehkjbopdapaa.PMap.look_event (m := .tmp 70) (x := .tmp 72) ?hg (N := 73) ?hd ?ho w.heap.size gm_ ((rd_T74 (rd_L4 l0_2 x51_3) x57_4).f0) x5_4 false ?hm ?hx ?hwf ?h0 (hasD_ A37.out) ?_; (case hg => rfl); (case hd => rfl); (case ho => rfl); (case hm => rfl); (case hx => rfl); (case hwf => exact Go.Proofs.Ytenehkjbopdapaa.PMap.wf_of c29b0 c33b0); (case h0 => (with_reducible repeat (first | apply Go.Proofs.Ytenehkjbopdapaa.PMap.MapR.alloc | apply Go.Proofs.Ytenehkjbopdapaa.PMap.MapR.drewN | apply Go.Proofs.Ytenehkjbopdapaa.PMap.MapR.drew)); exact Go.Proofs.Ytenehkjbopdapaa.PMap.MapR.far (p := ⟨gb279, 1, none⟩) (Go.Proofs.Ytenehkjbopdapaa.PMap.MapR.far (p := ⟨gb279, 0, none⟩) HO_5.out (HO_5.out.ne BK279.out) (.int .i64 ((rd_T74 (rd_L4 l0_2 x51_3) x57_4).f0))) (HO_5.out.ne BK279.out) (.int .i64 ((rd_T74 (rd_L4 l0_2 x51_3) x57_4).f1))); have hcz53_0 : w49.cell? ⟨gb272, 0, none⟩ = some (.int .i64 a0_0) := (blk_cell BK272.out 0).trans rfl; have hcz53_1 : w49.cell? ⟨gb272, 1, none⟩ = some (.slice A0_1 l0_1.length c0_1) := (blk_cell BK272.out 1).trans rfl; have hcz53_2 : w49.cell? ⟨gb272, 2, none⟩ = some (.slice (some ad277) l0_2.length c0_2) := (blk_cell BK272.out 2).trans rfl; have hfz53_0 := blk_frozen BK272.out 0; have hfz53_1 := blk_frozen BK272.out 1; have hfz53_2 := blk_frozen BK272.out 2))
                                            go_ret
                                            exact ⟨by first | rfl | (simp [errW_none, errW_some] <;> rfl) | (simp [*, errW_none, errW_some] <;> rfl), by repeat (first | (with_reducible first | exact HB.out | apply below_alloc | apply pw_below_drewN | apply below_drew1 | refine below_set ?_ GE272.out | refine below_set ?_ GE279.out) | exact HB.out)⟩
                                          · rw [if_neg c48] at H
                                            have c48b0 : decide (a0_0 < ((rd_T74 (rd_L4 l0_2 x51_3) x57_4).f1)) = false := decide_eq_false c48
                                            clear c48
                                            by_cases c54 : x5_4.length < 17592186044416
                                            · rw [if_pos c54] at H
                                              have LMc54 := Aside0.mk c54
                                              clear c54
                                              obtain ⟨y281, hy281⟩ : ∃ y_ : List Int, y_ = (x5_4 ++ [(rd_T74 (rd_L4 l0_2 x51_3) x57_4).f0]) := ⟨_, rfl⟩
                                              replace H : (impl_PolOk.l2 k4 y281 l0_2 (l0_2.length : Int) x51_3 (rd_L4 l0_2 x51_3) ((rd_L4 l0_2 x51_3).length : Int) (wrap64 (x57_4 + 1)) a0_0 l0_1 l0_2) = some r := by first | (rw [hy281]; with_reducible exact H) | (have H2_ := (Option.bind_some _ _).symm.trans H; rw [hy281]; with_reducible exact H2_) | (have H2_ := (Option.bind_some _ _).symm.trans H; with_reducible exact H2_) | with_reducible exact H | (rw [hy281]; exact H) | exact H
                                              have Ny281 := Aside0.mk hy281
                                              clear hy281
                                              have H' := Aside0.mk H
                                              clear H
                                              have p278 : 0 ≤ (x57_4 : Int) := of_decide_eq_true (by first | (with_reducible assumption) | assumption)
                                              have q278 : x57_4 < ((rd_L4 l0_2 x51_3).length : Int) := of_decide_eq_true (by first | (with_reducible assumption) | assumption)
                                              obtain ⟨ad278, e278, hx278_0, hx278_1⟩ := at_T74 HR277_0.out x57_4 p278 q278
                                              cases e278
                                              replace hx278_0 := (HB.out.cell (World.block_lt_of_cell? w _ hx278_0)).trans hx278_0
                                              replace hx278_1 := (HB.out.cell (World.block_lt_of_cell? w _ hx278_1)).trans hx278_1
                                              replace p278 := eq_true p278
                                              replace q278 := eq_true q278
                                              go_wp2_with (first | ((with_reducible refine gate_dst (N := 9) rfl ?_); (try (refine gate_guard (by rfl) ?_; dsimp only)); refine box_event ?hg (N := 9) ?hd (cs := #[.int .i64 0, .int .i64 0]) (t := 74) ?hr ?_; (case hd => rfl); (case hg => rfl); (case hr => first | (go_simp; done) | (go_simp; rfl)); intro gb279 hg w55 hbox hb; have n0_ := Aside0.mk (Go.Proofs.Ytenehkjbopdapaa.PMap.MapR.below (by (with_reducible repeat (first | apply Go.Proofs.Ytenehkjbopdapaa.PMap.MapR.alloc | apply Go.Proofs.Ytenehkjbopdapaa.PMap.MapR.drewN | apply Go.Proofs.Ytenehkjbopdapaa.PMap.MapR.drew)); exact HO_5.out) hb); have n1_ := Aside0.mk (blk_below (g := gb272) (o := .cells #[.int .i64 a0_0, .slice A0_1 l0_1.length c0_1, .slice (some ad277) l0_2.length c0_2] 42 (0, 0)) (by (with_reducible repeat (first | refine blk_drewN ?_ _ | refine blk_drew ?_ | refine blk_alloc ?_ _)); exact BK272.out) hb); have n2_ := Aside0.mk (below_step (by repeat (first | (with_reducible first | exact HB.out | apply below_alloc | apply pw_below_drewN | apply below_drew1 | refine below_set ?_ GE272.out) | exact HB.out)) hb); have n3_ := Aside0.mk (hbox); have n4_ := Aside0.mk ((by rw [hg]; exact (below_size (by repeat (first | (with_reducible first | exact HB.out | apply below_alloc | apply pw_below_drewN | apply below_drew1 | refine below_set ?_ GE272.out) | exact HB.out))) : w.heap.size ≤ gb279)); have n5_ := Aside0.mk ((by rw [hg]; exact (below_size (by repeat (first | (with_reducible first | exact HB.out | apply below_alloc | apply pw_below_drewN | apply below_drew1 | refine below_set ?_ GE272.out) | exact HB.out))) : w.heap.size ≤ gb279)); have n6_ := Aside0.mk ((by rw [hg]; exact Nat.ne_of_lt (blk_lt (g := gb272) (o := .cells #[.int .i64 a0_0, .slice A0_1 l0_1.length c0_1, .slice (some ad277) l0_2.length c0_2] 42 (0, 0)) (by (with_reducible repeat (first | refine blk_drewN ?_ _ | refine blk_drew ?_ | refine blk_alloc ?_ _)); exact BK272.out)) : gb272 ≠ gb279)); have n7_ := Aside0.mk ((by rw [hg]; exact Nat.ne_of_gt (blk_lt (g := gb272) (o := .cells #[.int .i64 a0_0, .slice A0_1 l0_1.length c0_1, .slice (some ad277) l0_2.length c0_2] 42 (0, 0)) (by (with_reducible repeat (first | refine blk_drewN ?_ _ | refine blk_drew ?_ | refine blk_alloc ?_ _)); exact BK272.out)) : gb279 ≠ gb272)); clear HO_5; clear BK272; clear HB; have HO_5 := n0_; have BK272 := n1_; have HB := n2_; have BK279 := n3_; have GW279 := n4_; have GE279 := n5_; have NB272_279 := n6_; have NB279_272 := n7_; clear n0_ n1_ n2_ n3_ n4_ n5_ n6_ n7_; clear hb hbox hg; have hnb56 := NB279_272.out; have hnc56 := NB272_279.out; have hcz57_0 : w55.cell? ⟨gb279, 0, none⟩ = some (.int .i64 0) := (blk_cell BK279.out 0).trans rfl; have hcz57_1 : w55.cell? ⟨gb279, 1, none⟩ = some (.int .i64 0) := (blk_cell BK279.out 1).trans rfl; have hfz57_0 := blk_frozen BK279.out 0; have hfz57_1 := blk_frozen BK279.out 1) | ((with_reducible refine gate_dst (N := 73) rfl ?_); (try (refine gate_guard (by rfl) ?_; dsimp only)); refine Go.Proofs.Ytenehkjbopdapaa.PMap.look_event (m := .tmp 70) (x := .tmp 72) ?hg (N := 73) ?hd ?ho w.heap.size gm_ ((rd_T74 (rd_L4 l0_2 x51_3) x57_4).f0) x5_4 false ?hm ?hx ?hwf ?h0 (hasD_ A37.out) ?_; (case hg => rfl); (case hd => rfl); (case ho => rfl); (case hm => rfl); (case hx => rfl); (case hwf => exact Go.Proofs.Ytenehkjbopdapaa.PMap.wf_of c29b0 c33b0); (case h0 => (with_reducible repeat (first | apply Go.Proofs.Ytenehkjbopdapaa.PMap.MapR.alloc | apply Go.Proofs.Ytenehkjbopdapaa.PMap.MapR.drewN | apply Go.Proofs.Ytenehkjbopdapaa.PMap.MapR.drew)); exact Go.Proofs.Ytenehkjbopdapaa.PMap.MapR.far (p := ⟨gb279, 1, none⟩) (Go.Proofs.Ytenehkjbopdapaa.PMap.MapR.far (p := ⟨gb279, 0, none⟩) HO_5.out (HO_5.out.ne BK279.out) (.int .i64 ((rd_T74 (rd_L4 l0_2 x51_3) x57_4).f0))) (HO_5.out.ne BK279.out) (.int .i64 ((rd_T74 (rd_L4 l0_2 x51_3) x57_4).f1))); have hcz59_0 : w55.cell? ⟨gb272, 0, none⟩ = some (.int .i64 a0_0) := (blk_cell BK272.out 0).trans rfl; have hcz59_1 : w55.cell? ⟨gb272, 1, none⟩ = some (.slice A0_1 l0_1.length c0_1) := (blk_cell BK272.out 1).trans rfl; have hcz59_2 : w55.cell? ⟨gb272, 2, none⟩ = some (.slice (some ad277) l0_2.length c0_2) := (blk_cell BK272.out 2).trans rfl; have hfz59_0 := blk_frozen BK272.out 0; have hfz59_1 := blk_frozen BK272.out 1; have hfz59_2 := blk_frozen BK272.out 2) | ((with_reducible refine Go.Proofs.Ytenehkjbopdapaa.PMap.gate_update (t := 65) (m := .tmp 87) (x := .tmp 89) (v := .const (.bool true)) rfl ?_); (try (refine gate_guard (by rfl) ?_; dsimp only)); refine Go.Proofs.Ytenehkjbopdapaa.PMap.set_event (m := .tmp 87) (x := .tmp 89) (v := .const (.bool true)) ?hg ?ho w.heap.size gm_ ((rd_T74 (rd_L4 l0_2 x51_3) x57_4).f0) x5_4 ?hm ?hx ?hv ?hwf ?hl ?h0 ?_; (case hg => rfl); (case ho => rfl); (case hm => rfl); (case hx => rfl); (case hv => rfl); (case hwf => exact Go.Proofs.Ytenehkjbopdapaa.PMap.wf_of c29b0 c33b0); (case hl => have := LMc54.out; unfold maxLen; omega); (case h0 => (with_reducible repeat (first | apply Go.Proofs.Ytenehkjbopdapaa.PMap.MapR.alloc | apply Go.Proofs.Ytenehkjbopdapaa.PMap.MapR.drewN | apply Go.Proofs.Ytenehkjbopdapaa.PMap.MapR.drew)); exact Go.Proofs.Ytenehkjbopdapaa.PMap.MapR.far (p := ⟨gb279, 1, none⟩) (Go.Proofs.Ytenehkjbopdapaa.PMap.MapR.far (p := ⟨gb279, 0, none⟩) HO_5.out (HO_5.out.ne BK279.out) (.int .i64 ((rd_T74 (rd_L4 l0_2 x51_3) x57_4).f0))) (HO_5.out.ne BK279.out) (.int .i64 ((rd_T74 (rd_L4 l0_2 x51_3) x57_4).f1))); intro w60 ho hg; have hb := Below.grown (by repeat (first | (with_reducible first | exact HB.out | apply below_alloc | apply pw_below_drewN | apply below_drew1 | refine below_set ?_ GE272.out | refine below_set ?_ GE279.out) | exact HB.out)) hg (below_size (by repeat (first | (with_reducible first | exact HB.out | apply below_alloc | apply pw_below_drewN | apply below_drew1 | refine below_set ?_ GE272.out | refine below_set ?_ GE279.out) | exact HB.out))) (fun k hk => by injection hk with hk; subst hk; exact HO_5.out.1); rw [← Ny281.out] at ho; have n0_ := Aside0.mk (blk_grown (g := gb272) (o := .cells #[.int .i64 a0_0, .slice A0_1 l0_1.length c0_1, .slice (some ad277) l0_2.length c0_2] 42 (0, 0)) (by (with_reducible repeat (first | refine blk_drewN ?_ _ | refine blk_drew ?_ | refine blk_alloc ?_ _)); refine blk_far ?_ NB272_279.out _; (with_reducible repeat (first | refine blk_drewN ?_ _ | refine blk_drew ?_ | refine blk_alloc ?_ _)); refine blk_far ?_ NB272_279.out _; (with_reducible repeat (first | refine blk_drewN ?_ _ | refine blk_drew ?_ | refine blk_alloc ?_ _)); exact BK272.out) hg (fun e => HO_5.out.ne BK272.out (Option.some.inj e).symm)); have n1_ := Aside0.mk (blk_grown (g := gb279) (o := .cells #[.int .i64 ((rd_T74 (rd_L4 l0_2 x51_3) x57_4).f0), .int .i64 ((rd_T74 (rd_L4 l0_2 x51_3) x57_4).f1)] 74 (0, 0)) (by (with_reducible repeat (first | refine blk_drewN ?_ _ | refine blk_drew ?_ | refine blk_alloc ?_ _)); refine blk_put (cs := #[.int .i64 ((rd_T74 (rd_L4 l0_2 x51_3) x57_4).f0), .int .i64 0]) ?_ 1 _ rfl; (with_reducible repeat (first | refine blk_drewN ?_ _ | refine blk_drew ?_ | refine blk_alloc ?_ _)); refine blk_put (cs := #[.int .i64 0, .int .i64 0]) ?_ 0 _ rfl; (with_reducible repeat (first | refine blk_drewN ?_ _ | refine blk_drew ?_ | refine blk_alloc ?_ _)); exact BK279.out) hg (fun e => HO_5.out.ne BK279.out (Option.some.inj e).symm)); have n2_ := Aside0.mk (hb); have n3_ := Aside0.mk (ho); clear BK272; clear BK279; clear HB; clear HO_5; have BK272 := n0_; have BK279 := n1_; have HB := n2_; have HO283 := n3_; clear n0_ n1_ n2_ n3_; clear ho hb hg))
                                              go_roundg k4
                                              case measure => have := HJ1.out; have := HK2.out; have := HK3.out; have := HK4.out; omega
                                              case rel => exact ⟨(y281), (wrap64 (x57_4 + 1)), (by first | rfl | (simp; done) | (simp [*]; done)), H', ⟨by have := HJ1.out; have := HK2.out; have := HK3.out; have := HK4.out; omega⟩, ⟨by (with_reducible repeat (first | apply Go.Proofs.Ytenehkjbopdapaa.PMap.MapR.alloc | apply Go.Proofs.Ytenehkjbopdapaa.PMap.MapR.drewN | apply Go.Proofs.Ytenehkjbopdapaa.PMap.MapR.drew)); exact HO283.out⟩, ⟨by (with_reducible repeat (first | refine blk_drewN ?_ _ | refine blk_drew ?_ | refine blk_alloc ?_ _)); exact BK272.out⟩, ⟨by repeat (first | (with_reducible first | exact HB.out | apply below_alloc | apply pw_below_drewN | apply below_drew1 | refine below_set ?_ GE272.out | refine below_set ?_ GE279.out) | exact HB.out)⟩⟩
                                            · rw [if_neg c54] at H
                                              exact absurd H (by simp)
                                · rw [if_neg c28] at H
                                  exact absurd H (by simp)
                              · rw [if_neg c27] at H
                                exact absurd H (by simp)
                            · rw [if_neg c26] at H
                              have c26b0 : decide (x57_4 < ((rd_L4 l0_2 x51_3).length : Int)) = false := decide_eq_false c26
                              clear c26
                              have H' := Aside0.mk H
                              clear H
                              go_wp2
                              go_roundg k4
                              case measure => have := HJ1.out; have := HK2.out; have := HK3.out; have := HK4.out; omega
                              case rel => exact ⟨(x5_4), (wrap64 (x51_3 + 1)), (by first | rfl | (simp; done) | (simp [*]; done)), H', ⟨by have := HJ1.out; have := HK2.out; have := HK3.out; have := HK4.out; omega⟩, ⟨by (with_reducible repeat (first | apply Go.Proofs.Ytenehkjbopdapaa.PMap.MapR.alloc | apply Go.Proofs.Ytenehkjbopdapaa.PMap.MapR.drewN | apply Go.Proofs.Ytenehkjbopdapaa.PMap.MapR.drew)); exact HO_5.out⟩, ⟨by (with_reducible repeat (first | refine blk_drewN ?_ _ | refine blk_drew ?_ | refine blk_alloc ?_ _)); exact BK272.out⟩, ⟨by repeat (first | (with_reducible first | exact HB.out | apply below_alloc | apply pw_below_drewN | apply below_drew1 | refine below_set ?_ GE272.out) | exact HB.out)⟩⟩
                      · rw [if_neg c25] at H
                        exact absurd H (by simp)
                    · rw [if_neg c24] at H
                      exact absurd H (by simp)
                  · rw [if_neg c23] at H
                    have c23b0 : decide (x51_3 < (l0_2.length : Int)) = false := decide_eq_false c23
                    clear c23
                    obtain rfl := Option.some.inj H
                    go_wp2
                    go_ret
                    exact ⟨by first | rfl | (simp [errW_none, errW_some] <;> rfl) | (simp [*, errW_none, errW_some] <;> rfl), by repeat (first | (with_reducible first | exact HB.out | apply below_alloc | apply pw_below_drewN | apply below_drew1 | refine below_set ?_ GE272.out) | exact HB.out)⟩

end Go.Proofs.Ytenehkjbopdapaa.GFnArnNew
