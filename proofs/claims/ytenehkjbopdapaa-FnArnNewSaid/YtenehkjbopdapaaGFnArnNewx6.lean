/- The functions that the law reaches, as plain Lean functions, and that the machine comes to their answers: laid by a program of this session. Conditions: none. -/
import Derived.Test.YtenehkjbopdapaaGFnArnNewx0
import Derived.Test.YtenehkjbopdapaaGFnArnNewx4
import Derived.Test.YtenehkjbopdapaaGFnArnNewx5
namespace Go.Proofs.Ytenehkjbopdapaa.GFnArnNew
open Go.RowKit Go.Proofs.YtenehkjbopdapaaW.PrintWords Go.Proofs.YtenehkjbopdapaaW.PrintLast Go.Proofs.YtenehkjbopdapaaW.PrintMore
attribute [local go_sem] max2_int min2_int max_two min_two max_three min_three max_four min_four   -- for this text's walks alone
set_option linter.unusedVariables false
set_option linter.unusedSimpArgs false

/-! ### impl_ArnArena_values: function 54 -/
def impl_ArnArena_values.l0 : Nat → List Int → List Int → Int → Int → List (S62) → Int → Int → Int → Option (List Int)
  | 0, _, _, _, _, _, _, _, _ => none
  | k + 1, x5, x8, x9, x10, x194000, x194001, x194002, x194003 => if x10 < x9 then (if 0 ≤ x10 then (if x10 < (x8.length : Int) then (if 0 ≤ (rd x8 x10) then (if (rd x8 x10) < (x194000.length : Int) then (if x5.length < 17592186044416 then (impl_ArnArena_values.l0 k (x5 ++ [(rd_T62 x194000 (rd x8 x10)).f1]) x8 x9 (wrap64 (x10 + 1)) x194000 x194001 x194002 x194003) else (none)) else (none)) else (none)) else (none)) else (none)) else (some x5)
def impl_ArnArena_values.f (k : Nat) (l0_0 : List (S62)) (a0_1 : Int) (a0_2 : Int) (a0_3 : Int) (l1 : List Int) : Option (List Int) := impl_ArnArena_values.l0 k ([] : List Int) l1 (l1.length : Int) 0 l0_0 a0_1 a0_2 a0_3
theorem impl_ArnArena_values.mono_l : ∀ k, (∀ y0 y1 y2 y3 y4 y5 y6 y7, LeO (impl_ArnArena_values.l0 k y0 y1 y2 y3 y4 y5 y6 y7) (impl_ArnArena_values.l0 (k + 1) y0 y1 y2 y3 y4 y5 y6 y7))
  | 0 => fun _ _ _ _ _ _ _ _ r h => by simp [impl_ArnArena_values.l0] at h
  | k + 1 => by
    have ih0 := impl_ArnArena_values.mono_l k
    · intro y0 y1 y2 y3 y4 y5 y6 y7
      unfold impl_ArnArena_values.l0
      repeat' first
      | (with_reducible exact ih0 _ _ _ _ _ _ _ _)
      | (with_reducible exact LeO.refl _)
      | (with_reducible exact LeO.none _)
      | (with_reducible refine LeO.ite ?_ ?_)
      | (with_reducible refine LeO.bind ?_ (fun _ => ?_))
      | exact ih0 _ _ _ _ _ _ _ _
      | exact LeO.none _
      | refine LeO.ite ?_ ?_
      | refine LeO.bind ?_ (fun _ => ?_)
theorem impl_ArnArena_values.mono : ∀ a0 a1 a2 a3 a4 k, LeO (impl_ArnArena_values.f k a0 a1 a2 a3 a4) (impl_ArnArena_values.f (k + 1) a0 a1 a2 a3 a4) := by
  intro a0 a1 a2 a3 a4 k
  have ih0 := impl_ArnArena_values.mono_l k
  unfold impl_ArnArena_values.f
  repeat' first
      | (with_reducible exact ih0 _ _ _ _ _ _ _ _)
      | (with_reducible exact LeO.refl _)
      | (with_reducible exact LeO.none _)
      | (with_reducible refine LeO.ite ?_ ?_)
      | (with_reducible refine LeO.bind ?_ (fun _ => ?_))
      | exact ih0 _ _ _ _ _ _ _ _
      | exact LeO.none _
      | refine LeO.ite ?_ ?_
      | refine LeO.bind ?_ (fun _ => ?_)
set_option maxHeartbeats 8000000 in
set_option maxRecDepth 100000 in
theorem impl_ArnArena_values.calls (k : Nat) (A0_0 : Option Addr) (c0_0 : Nat) (l0_0 : List (S62)) (a0_1 : Int) (a0_2 : Int) (a0_3 : Int) (A1 : Option Addr) (c1 : Nat) (l1 : List Int) (r : List Int) (w : World) (hr0_0 : Kd.C k62 w A0_0 l0_0.length l0_0) (hc0_0 : l0_0.length ≤ c0_0) (hr1 : Kd.C (Kd.int .i64) w A1 l1.length l1) (hc1 : l1.length ≤ c1) (h : impl_ArnArena_values.f k l0_0 a0_1 a0_2 a0_3 l1 = some r) :
    Calls Try.prog 54 #[.agg #[.slice A0_0 l0_0.length c0_0, .int .i64 a0_1, .int .i64 a0_2, .int .i64 a0_3], .slice A1 l1.length c1] w fun e w' => ∃ v0_ : Value, e = .returned (v0_) ∧ Kd.R (Kd.int .i64) 3 w' w.heap.size (fun _ => True) v0_ r ∧ Below w.heap.size w w' := by
  have hu29 := Try.underlying29
  have HR0_0 := Aside0.mk hr0_0
  have HC0_0 := Aside0.mk hc0_0
  clear hr0_0 hc0_0
  have HR1 := Aside0.mk hr1
  have HC1 := Aside0.mk hc1
  clear hr1 hc1
  have HB := Aside0.mk (Below.refl w.heap.size w)
  have H : (impl_ArnArena_values.l0 k ([] : List Int) l1 (l1.length : Int) 0 l0_0 a0_1 a0_2 a0_3) = some r := h
  clear h
  have H' := Aside0.mk H
  clear H
  go_enter Try.func54, Try.ntmps54
  go_wp2_with (first | ((with_reducible refine gate_dst (N := 2) rfl ?_); refine box_event ?hg (N := 2) ?hd (cs := #[.slice A0_0 l0_0.length c0_0, .int .i64 a0_1, .int .i64 a0_2, .int .i64 a0_3]) (t := 29) ?hr ?_; (case hd => rfl); (case hg => rfl); (case hr => first | (go_simp; done) | (go_simp; rfl)); intro gb193 hg w3 hbox hb; have n0_ := Aside0.mk (below_step (by repeat (first | (with_reducible first | exact HB.out | apply below_alloc | apply pw_below_drewN | apply below_drew1) | exact HB.out)) hb); have n1_ := Aside0.mk (hbox); have n2_ := Aside0.mk ((by rw [hg]; exact (below_size (by repeat (first | (with_reducible first | exact HB.out | apply below_alloc | apply pw_below_drewN | apply below_drew1) | exact HB.out))) : w.heap.size ≤ gb193)); have n3_ := Aside0.mk ((by rw [hg]; exact (below_size (by repeat (first | (with_reducible first | exact HB.out | apply below_alloc | apply pw_below_drewN | apply below_drew1) | exact HB.out))) : w.heap.size ≤ gb193)); clear HB; have HB := n0_; have BK193 := n1_; have GW193 := n2_; have GE193 := n3_; clear n0_ n1_ n2_ n3_; clear hb hbox hg))
  go_loopg [5, 10] k (fun kq v5 v10 w' => ∃ (x5_1 : List Int) (x10_1 : Int), v10 = .int .i64 x10_1 ∧ Aside0 (impl_ArnArena_values.l0 kq x5_1 l1 (l1.length : Int) x10_1 l0_0 a0_1 a0_2 a0_3 = some r) ∧ Aside0 (kq ≤ k) ∧ Aside0 (Kd.R (Kd.int .i64) 3 w' w.heap.size (fun _ => True) v5 x5_1) ∧ Aside0 (w'.heap[gb193]? = some (.cells #[(.slice A0_0 l0_0.length c0_0), .int .i64 a0_1, .int .i64 a0_2, .int .i64 a0_3] 29 (0, 0))) ∧ Aside0 (Below w.heap.size w w'))
  case atStart => exact ⟨(([] : List Int)), (0), (by first | rfl | (simp; done) | (simp [*]; done)), H', ⟨Nat.le_refl _⟩, ⟨by first | exact Kd.R_nil _ _ _ _ _ | exact Kd.N_nil _ _ _ _ _ | exact Kd.V_nil _ _ _ _ _ | exact Kd.Q_nil _ _ _ _ _ | exact Kd.S_nil _ _ _ _ _⟩, ⟨by (with_reducible repeat (first | refine blk_drewN ?_ _ | refine blk_drew ?_ | refine blk_alloc ?_ _)); exact BK193.out⟩, ⟨by repeat (first | (with_reducible first | exact HB.out | apply below_alloc | apply pw_below_drewN | apply below_drew1 | refine below_set ?_ GE193.out) | exact HB.out)⟩⟩
  case round =>
    clear H'
    try clear c1
    try clear p2
    obtain ⟨x5_1, x10_1, rfl, HA, HK1, HO_5, BK193, HB⟩ := hrel
    cases gk with
    | zero => exact absurd HA.out (by simp [impl_ArnArena_values.l0])
    | succ k1 =>
      have H := HA.out
      clear HA
      simp only [impl_ArnArena_values.l0] at H
      by_cases c4 : x10_1 < (l1.length : Int)
      · rw [if_pos c4] at H
        have c4b0 : decide (x10_1 < (l1.length : Int)) = true := decide_eq_true c4
        clear c4
        by_cases c5 : 0 ≤ x10_1
        · rw [if_pos c5] at H
          have c5b0 : decide (0 ≤ x10_1) = true := decide_eq_true c5
          clear c5
          by_cases c6 : x10_1 < (l1.length : Int)
          · rw [if_pos c6] at H
            have c6b0 : decide (x10_1 < (l1.length : Int)) = true := decide_eq_true c6
            clear c6
            by_cases c7 : 0 ≤ (rd l1 x10_1)
            · rw [if_pos c7] at H
              have c7b0 : decide (0 ≤ (rd l1 x10_1)) = true := decide_eq_true c7
              clear c7
              by_cases c8 : (rd l1 x10_1) < (l0_0.length : Int)
              · rw [if_pos c8] at H
                have c8b0 : decide ((rd l1 x10_1) < (l0_0.length : Int)) = true := decide_eq_true c8
                clear c8
                by_cases c9 : x5_1.length < 17592186044416
                · rw [if_pos c9] at H
                  have LMc9 := Aside0.mk c9
                  clear c9
                  obtain ⟨y196, hy196⟩ : ∃ y_ : List Int, y_ = (x5_1 ++ [(rd_T62 l0_0 (rd l1 x10_1)).f1]) := ⟨_, rfl⟩
                  replace H : (impl_ArnArena_values.l0 k1 y196 l1 (l1.length : Int) (wrap64 (x10_1 + 1)) l0_0 a0_1 a0_2 a0_3) = some r := by first | (rw [hy196]; with_reducible exact H) | (have H2_ := (Option.bind_some _ _).symm.trans H; rw [hy196]; with_reducible exact H2_) | (have H2_ := (Option.bind_some _ _).symm.trans H; with_reducible exact H2_) | with_reducible exact H | (rw [hy196]; exact H) | exact H
                  have Ny196 := Aside0.mk hy196
                  clear hy196
                  have H' := Aside0.mk H
                  clear H
                  have p194 : 0 ≤ (x10_1 : Int) := of_decide_eq_true (by first | (with_reducible assumption) | assumption)
                  have q194 : x10_1 < (l1.length : Int) := of_decide_eq_true (by first | (with_reducible assumption) | assumption)
                  obtain ⟨ad194, e194, hx194_0⟩ := Kd.at_int HR1.out x10_1 p194 q194
                  cases e194
                  replace hx194_0 := (HB.out.cell (World.block_lt_of_cell? w _ hx194_0)).trans hx194_0
                  replace p194 := eq_true p194
                  replace q194 := eq_true q194
                  have hcz10_0 : wr.cell? ⟨gb193, 0, none⟩ = some (.slice A0_0 l0_0.length c0_0) := (blk_cell BK193.out 0).trans rfl
                  have hcz10_1 : wr.cell? ⟨gb193, 1, none⟩ = some (.int .i64 a0_1) := (blk_cell BK193.out 1).trans rfl
                  have hcz10_2 : wr.cell? ⟨gb193, 2, none⟩ = some (.int .i64 a0_2) := (blk_cell BK193.out 2).trans rfl
                  have hcz10_3 : wr.cell? ⟨gb193, 3, none⟩ = some (.int .i64 a0_3) := (blk_cell BK193.out 3).trans rfl
                  have hfz10_0 := blk_frozen BK193.out 0
                  have hfz10_1 := blk_frozen BK193.out 1
                  have hfz10_2 := blk_frozen BK193.out 2
                  have hfz10_3 := blk_frozen BK193.out 3
                  have p195 : 0 ≤ ((rd l1 x10_1) : Int) := of_decide_eq_true (by first | (with_reducible assumption) | assumption)
                  have q195 : (rd l1 x10_1) < (l0_0.length : Int) := of_decide_eq_true (by first | (with_reducible assumption) | assumption)
                  obtain ⟨ad195, e195, hx195_0, hx195_1, hx195_2, hx195_3, hx195_4, hx195_5⟩ := at_T62 HR0_0.out (rd l1 x10_1) p195 q195
                  cases e195
                  replace hx195_0 := (HB.out.cell (World.block_lt_of_cell? w _ hx195_0)).trans hx195_0
                  replace hx195_1 := (HB.out.cell (World.block_lt_of_cell? w _ hx195_1)).trans hx195_1
                  replace hx195_2 := (HB.out.cell (World.block_lt_of_cell? w _ hx195_2)).trans hx195_2
                  replace hx195_3 := (HB.out.cell (World.block_lt_of_cell? w _ hx195_3)).trans hx195_3
                  replace hx195_4 := (HB.out.cell (World.block_lt_of_cell? w _ hx195_4)).trans hx195_4
                  replace hx195_5 := (HB.out.cell (World.block_lt_of_cell? w _ hx195_5)).trans hx195_5
                  replace p195 := eq_true p195
                  replace q195 := eq_true q195
                  go_wp2_with (first | ((with_reducible refine gate_builtin (b := .append) (xs := #[.tmp 14, .tmp 21]) rfl ?_); at_builtin; refine Kd.R_append (Kd.int .i64) (w0 := w) w.heap.size rfl (.tmp 14) (.tmp 21) 33 3 (.int .i64 0) 8 rfl Try.underlying33 info3 rfl (by decide) (by omega) u5 x5_1 ((rd_T62 l0_0 (rd l1 x10_1)).f1) [.int .i64 ((rd_T62 l0_0 (rd l1 x10_1)).f1)] (fun _ => True) (fun _ => False) rfl rfl ?aP (fun _ hk => hk.elim) ?aF ?aO ?aB ?aS ?aL ?_; (case aP => exact rfl); (case aB => exact (by repeat (first | (with_reducible first | exact HB.out | apply below_alloc | apply pw_below_drewN | apply below_drew1 | refine below_set ?_ GE193.out) | exact HB.out))); (case aF => exact (fun _ _ => trivial)); (case aO => exact (by (with_reducible repeat (first | apply Kd.R_alloc | apply Kd.R_drewN | apply Kd.R_drew)); exact HO_5.out)); (case aS => exact (below_size (by repeat (first | (with_reducible first | exact HB.out | apply below_alloc | apply pw_below_drewN | apply below_drew1 | refine below_set ?_ GE193.out) | exact HB.out)))); (case aL => have := LMc9.out; omega); intro v197 w11 ho hb hg hat; rw [← Ny196.out] at ho; have n0_ := Aside0.mk (blk_grown (g := gb193) (o := .cells #[.slice (some ad195) l0_0.length c0_0, .int .i64 a0_1, .int .i64 a0_2, .int .i64 a0_3] 29 (0, 0)) (by (with_reducible repeat (first | refine blk_drewN ?_ _ | refine blk_drew ?_ | refine blk_alloc ?_ _)); exact BK193.out) hg (Kd.R_ne HO_5.out BK193.out (by decide))); have n1_ := Aside0.mk (hb); have n2_ := Aside0.mk (ho); clear BK193; clear HB; clear HO_5; have BK193 := n0_; have HB := n1_; have HO198 := n2_; clear n0_ n1_ n2_; clear ho hb hg hat))
                  go_roundg k1
                  case measure => have := HK1.out; omega
                  case rel => exact ⟨(y196), (wrap64 (x10_1 + 1)), (by first | rfl | (simp; done) | (simp [*]; done)), H', ⟨by have := HK1.out; omega⟩, ⟨by (with_reducible repeat (first | apply Kd.R_alloc | apply Kd.R_drewN | apply Kd.R_drew)); exact HO198.out⟩, ⟨by (with_reducible repeat (first | refine blk_drewN ?_ _ | refine blk_drew ?_ | refine blk_alloc ?_ _)); exact BK193.out⟩, ⟨by repeat (first | (with_reducible first | exact HB.out | apply below_alloc | apply pw_below_drewN | apply below_drew1 | refine below_set ?_ GE193.out) | exact HB.out)⟩⟩
                · rw [if_neg c9] at H
                  exact absurd H (by simp)
              · rw [if_neg c8] at H
                exact absurd H (by simp)
            · rw [if_neg c7] at H
              exact absurd H (by simp)
          · rw [if_neg c6] at H
            exact absurd H (by simp)
        · rw [if_neg c5] at H
          exact absurd H (by simp)
      · rw [if_neg c4] at H
        have c4b0 : decide (x10_1 < (l1.length : Int)) = false := decide_eq_false c4
        clear c4
        obtain rfl := Option.some.inj H
        go_wp2
        go_ret
        exact ⟨_, by first | rfl | (simp [errW_none, errW_some] <;> rfl) | (simp [*, errW_none, errW_some] <;> rfl), by (with_reducible repeat (first | apply Kd.R_alloc | apply Kd.R_drewN | apply Kd.R_drew)); exact HO_5.out, by repeat (first | (with_reducible first | exact HB.out | apply below_alloc | apply pw_below_drewN | apply below_drew1 | refine below_set ?_ GE193.out) | exact HB.out)⟩

/-! ### impl_ArnQueue: function 13 -/
def impl_ArnQueue.f (k : Nat) (l0_0 : List (S62)) (a0_1 : Int) (a0_2 : Int) (a0_3 : Int) : Option (List Int) := (impl_ArnOk.f k l0_0 a0_1 a0_2 a0_3).bind fun t200 => (if t200 = true then ((impl_ArnQueued.f k l0_0 a0_1 a0_2 a0_3).bind fun t201 => (if 1 ≤ (t201.length : Int) then ((impl_ArnArena_values.f k l0_0 a0_1 a0_2 a0_3 (t201.drop 1)).bind fun t208 => (some t208)) else (none))) else (some ([] : List Int)))
theorem impl_ArnQueue.mono : ∀ a0 a1 a2 a3 k, LeO (impl_ArnQueue.f k a0 a1 a2 a3) (impl_ArnQueue.f (k + 1) a0 a1 a2 a3) := by
  intro a0 a1 a2 a3 k
  unfold impl_ArnQueue.f
  repeat' first
      | (with_reducible exact impl_ArnArena_values.mono _ _ _ _ _ _)
      | (with_reducible exact impl_ArnOk.mono _ _ _ _ _)
      | (with_reducible exact impl_ArnQueued.mono _ _ _ _ _)
      | (with_reducible exact LeO.refl _)
      | (with_reducible exact LeO.none _)
      | (with_reducible refine LeO.ite ?_ ?_)
      | (with_reducible refine LeO.bind ?_ (fun _ => ?_))
      | exact impl_ArnArena_values.mono _ _ _ _ _ _
      | exact impl_ArnOk.mono _ _ _ _ _
      | exact impl_ArnQueued.mono _ _ _ _ _
      | exact LeO.none _
      | refine LeO.ite ?_ ?_
      | refine LeO.bind ?_ (fun _ => ?_)
set_option maxHeartbeats 8000000 in
set_option maxRecDepth 100000 in
theorem impl_ArnQueue.calls (k : Nat) (A0_0 : Option Addr) (c0_0 : Nat) (l0_0 : List (S62)) (a0_1 : Int) (a0_2 : Int) (a0_3 : Int) (r : List Int) (w : World) (hr0_0 : Kd.C k62 w A0_0 l0_0.length l0_0) (hc0_0 : l0_0.length ≤ c0_0) (h : impl_ArnQueue.f k l0_0 a0_1 a0_2 a0_3 = some r) :
    Calls Try.prog 13 #[.agg #[.slice A0_0 l0_0.length c0_0, .int .i64 a0_1, .int .i64 a0_2, .int .i64 a0_3]] w fun e w' => ∃ v0_ : Value, e = .returned (v0_) ∧ Kd.R (Kd.int .i64) 3 w' w.heap.size (fun _ => True) v0_ r ∧ Below w.heap.size w w' := by
  have hu29 := Try.underlying29
  have HR0_0 := Aside0.mk hr0_0
  have HC0_0 := Aside0.mk hc0_0
  clear hr0_0 hc0_0
  have HB := Aside0.mk (Below.refl w.heap.size w)
  have H : ((impl_ArnOk.f k l0_0 a0_1 a0_2 a0_3).bind fun t200 => (if t200 = true then ((impl_ArnQueued.f k l0_0 a0_1 a0_2 a0_3).bind fun t201 => (if 1 ≤ (t201.length : Int) then ((impl_ArnArena_values.f k l0_0 a0_1 a0_2 a0_3 (t201.drop 1)).bind fun t208 => (some t208)) else (none))) else (some ([] : List Int)))) = some r := h
  clear h
  replace H := Option.bind_eq_some_iff.mp H
  obtain ⟨t200, A20, H⟩ := H
  replace H : (if t200 = true then ((impl_ArnQueued.f k l0_0 a0_1 a0_2 a0_3).bind fun t201 => (if 1 ≤ (t201.length : Int) then ((impl_ArnArena_values.f k l0_0 a0_1 a0_2 a0_3 (t201.drop 1)).bind fun t208 => (some t208)) else (none))) else (some ([] : List Int))) = some r := H
  have A2 := Aside0.mk A20
  clear A20
  by_cases c3 : t200 = true
  · subst c3
    have H1 : ((impl_ArnQueued.f k l0_0 a0_1 a0_2 a0_3).bind fun t201 => (if 1 ≤ (t201.length : Int) then ((impl_ArnArena_values.f k l0_0 a0_1 a0_2 a0_3 (t201.drop 1)).bind fun t208 => (some t208)) else (none))) = some r := by rw [if_pos rfl] at H; exact H
    clear H
    have H := H1
    clear H1
    replace H := Option.bind_eq_some_iff.mp H
    obtain ⟨t201, A40, H⟩ := H
    replace H : (if 1 ≤ (t201.length : Int) then ((impl_ArnArena_values.f k l0_0 a0_1 a0_2 a0_3 (t201.drop 1)).bind fun t208 => (some t208)) else (none)) = some r := H
    have A4 := Aside0.mk A40
    clear A40
    by_cases c5 : 1 ≤ (t201.length : Int)
    · rw [if_pos c5] at H
      have c5b0 := eq_true c5
      have c5b1 : decide (1 ≤ (t201.length : Int)) = true := decide_eq_true c5
      clear c5
      obtain ⟨y204, hy204⟩ : ∃ y_ : List Int, y_ = (t201.drop 1) := ⟨_, rfl⟩
      replace H : ((impl_ArnArena_values.f k l0_0 a0_1 a0_2 a0_3 y204).bind fun t208 => (some t208)) = some r := by first | (rw [hy204]; with_reducible exact H) | (have H2_ := (Option.bind_some _ _).symm.trans H; rw [hy204]; with_reducible exact H2_) | (have H2_ := (Option.bind_some _ _).symm.trans H; with_reducible exact H2_) | with_reducible exact H | (rw [hy204]; exact H) | exact H
      have Ny204 := Aside0.mk hy204
      clear hy204
      replace H := Option.bind_eq_some_iff.mp H
      obtain ⟨t208, A60, H⟩ := H
      replace H : (some t208) = some r := H
      have A6 := Aside0.mk A60
      clear A60
      obtain rfl := Option.some.inj H
      go_enter Try.func13, Try.ntmps13
      try go_wp2_with (first | ((with_reducible refine gate_dst (N := 1) rfl ?_); refine box_event ?hg (N := 1) ?hd (cs := #[.slice A0_0 l0_0.length c0_0, .int .i64 a0_1, .int .i64 a0_2, .int .i64 a0_3]) (t := 29) ?hr ?_; (case hd => rfl); (case hg => rfl); (case hr => first | (go_simp; done) | (go_simp; rfl)); intro gb199 hg w7 hbox hb; have n0_ := Aside0.mk (below_step (by repeat (first | (with_reducible first | exact HB.out | apply below_alloc | apply pw_below_drewN | apply below_drew1) | exact HB.out)) hb); have n1_ := Aside0.mk (hbox); have n2_ := Aside0.mk ((by rw [hg]; exact (below_size (by repeat (first | (with_reducible first | exact HB.out | apply below_alloc | apply pw_below_drewN | apply below_drew1) | exact HB.out))) : w.heap.size ≤ gb199)); have n3_ := Aside0.mk ((by rw [hg]; exact (below_size (by repeat (first | (with_reducible first | exact HB.out | apply below_alloc | apply pw_below_drewN | apply below_drew1) | exact HB.out))) : w.heap.size ≤ gb199)); clear HB; have HB := n0_; have BK199 := n1_; have GW199 := n2_; have GE199 := n3_; clear n0_ n1_ n2_ n3_; clear hb hbox hg; have hcz8_0 : w7.cell? ⟨gb199, 0, none⟩ = some (.slice A0_0 l0_0.length c0_0) := (blk_cell BK199.out 0).trans rfl; have hcz8_1 : w7.cell? ⟨gb199, 1, none⟩ = some (.int .i64 a0_1) := (blk_cell BK199.out 1).trans rfl; have hcz8_2 : w7.cell? ⟨gb199, 2, none⟩ = some (.int .i64 a0_2) := (blk_cell BK199.out 2).trans rfl; have hcz8_3 : w7.cell? ⟨gb199, 3, none⟩ = some (.int .i64 a0_3) := (blk_cell BK199.out 3).trans rfl; have hfz8_0 := blk_frozen BK199.out 0; have hfz8_1 := blk_frozen BK199.out 1; have hfz8_2 := blk_frozen BK199.out 2; have hfz8_3 := blk_frozen BK199.out 3) | ((with_reducible refine gate_callee (f := 10) rfl ?_); refine goesL_ (some 4) rfl rfl Try.func10 (by kernel_rfl) rfl #[.agg #[.slice A0_0 l0_0.length c0_0, .int .i64 a0_1, .int .i64 a0_2, .int .i64 a0_3]] rfl (by (try simp only [List.map_toArray, List.map_cons, List.map_nil]); first | done | rfl | (simp only [List.length_drop, List.length_take]; rfl)) ?_; (with_reducible refine (impl_ArnOk.calls k _ _ l0_0 a0_1 a0_2 a0_3 true _ ?side1 ?side2 A2.out).mono ?_); (case side1 => repeat (first | exact (Kd.C_below HR0_0.out HB.out) | (with_reducible refine Kd.C_alloc ?_ _) | (with_reducible refine Kd.C_drewN ?_ _) | (with_reducible refine Kd.C_drew ?_))); (case side2 => exact HC0_0.out); rintro e w9 ⟨rfl, hb⟩; refine ⟨_, rfl, ?_⟩; have n0_ := Aside0.mk (blk_below (g := gb199) (o := .cells #[.slice A0_0 l0_0.length c0_0, .int .i64 a0_1, .int .i64 a0_2, .int .i64 a0_3] 29 (0, 0)) (by (with_reducible repeat (first | refine blk_drewN ?_ _ | refine blk_drew ?_ | refine blk_alloc ?_ _)); exact BK199.out) hb); have n1_ := Aside0.mk (below_step (by repeat (first | (with_reducible first | exact HB.out | apply below_alloc | apply pw_below_drewN | apply below_drew1 | refine below_set ?_ GE199.out) | exact HB.out)) hb); clear BK199; clear HB; have BK199 := n0_; have HB := n1_; clear n0_ n1_; (try clear hb); (try clear hb2); (try clear hk); (try clear hi)))
      have n0_ := Aside0.mk (blk_drew BK199.out)
      have n1_ := Aside0.mk (below_drew1 HB.out)
      clear BK199
      clear HB
      have BK199 := n0_
      have HB := n1_
      clear n0_ n1_
      refine start_ (n := 6) (S := fun w' => w'.cell? ⟨gb199, 0, none⟩ = some (.slice A0_0 l0_0.length c0_0) ∧ w'.cell? ⟨gb199, 1, none⟩ = some (.int .i64 a0_1) ∧ w'.cell? ⟨gb199, 2, none⟩ = some (.int .i64 a0_2) ∧ w'.cell? ⟨gb199, 3, none⟩ = some (.int .i64 a0_3)) (ds := []) #[false, false, false, false, false, false] (by kernel_rfl) rfl rfl ⟨(blk_cell BK199.out 0).trans rfl, (blk_cell BK199.out 1).trans rfl, (blk_cell BK199.out 2).trans rfl, (blk_cell BK199.out 3).trans rfl⟩ (fun hHeld => ?_)
      generalize w9.drew = w10 at BK199 HB hHeld ⊢
      refine take_ (i := 0) (N := some 6) (v := ?_) (a' := ?_) #[true, false, false, false, false, false] rfl rfl (by kernel_rfl) (fun _ _ _ h => h) (Or.inl ⟨by rfl, ?_⟩) hHeld ?_ ?_
      rotate_left
      · rintro w' ⟨s0, s1, s2, s3⟩
        go_simp
        with_reducible rfl
      rotate_left
      · simp only [Act.put, List.setIfInBounds_toArray, List.set_cons_zero, List.set_cons_succ, i64_w, i32_w]
        rfl
      refine take_ (i := 1) (N := some 7) (v := ?_) (a' := ?_) #[true, true, false, false, false, false] rfl rfl (by kernel_rfl) (fun _ _ _ h => h) (Or.inl ⟨by rfl, ?_⟩) hHeld ?_ ?_
      rotate_left
      · rintro w' ⟨s0, s1, s2, s3⟩
        go_simp
        with_reducible rfl
      rotate_left
      · simp only [Act.put, List.setIfInBounds_toArray, List.set_cons_zero, List.set_cons_succ, i64_w, i32_w]
        rfl
      refine one_ (i := 2) (N := some 8) #[true, true, true, false, false, false] rfl rfl (by kernel_rfl) (by decide) (fun K hK => ?_)
      refine goes_ Try.func48 (by kernel_rfl) rfl #[.agg #[.slice A0_0 l0_0.length c0_0, .int .i64 a0_1, .int .i64 a0_2, .int .i64 a0_3]] (by rfl) rfl rfl (by (try simp only [List.map_toArray, List.map_cons, List.map_nil]); first | done | rfl | (simp only [List.length_drop, List.length_take]; rfl)) ?_
      with_reducible refine (impl_ArnQueued.calls k _ _ l0_0 a0_1 a0_2 a0_3 t201 _ ?side1 ?side2 A4.out).mono ?_
      (case side1 => repeat (first | exact (Kd.C_below HR0_0.out HB.out) | (with_reducible refine Kd.C_alloc ?_ _) | (with_reducible refine Kd.C_drewN ?_ _) | (with_reducible refine Kd.C_drew ?_)))
      (case side2 => exact HC0_0.out)
      rintro e w11 ⟨v202, rfl, ho0, hb⟩
      refine ⟨_, rfl, ?_⟩
      have n0_ := Aside0.mk (Kd.R_lower ho0 (below_size (by repeat (first | (with_reducible first | exact HB.out | apply below_alloc | apply pw_below_drewN | apply below_drew1 | refine below_set ?_ GE199.out) | exact HB.out))))
      have n1_ := Aside0.mk (blk_below (g := gb199) (o := .cells #[.slice A0_0 l0_0.length c0_0, .int .i64 a0_1, .int .i64 a0_2, .int .i64 a0_3] 29 (0, 0)) (by (with_reducible repeat (first | refine blk_drewN ?_ _ | refine blk_drew ?_ | refine blk_alloc ?_ _)); exact BK199.out) hb)
      have n2_ := Aside0.mk (below_step (by repeat (first | (with_reducible first | exact HB.out | apply below_alloc | apply pw_below_drewN | apply below_drew1 | refine below_set ?_ GE199.out) | exact HB.out)) hb)
      clear BK199
      clear HB
      have HO203 := n0_
      have BK199 := n1_
      have HB := n2_
      clear n0_ n1_ n2_
      (try clear hb)
      (try clear hb2)
      (try clear hk)
      (try clear hi)
      (try clear ho0)
      obtain ⟨Ao13, co13, eo13⟩ := Kd.R_slice HO203.out
      (first | subst eo13 | (injection eo13 with f1_ f2_ f3_; have f4_ := f1_.symm; have f5_ := f3_.symm; clear f1_ f2_ f3_; subst f4_; subst f5_))
      have q12 : (1 : Int) ≤ ((t201.length : Int) : Int) := of_decide_eq_true (by first | (with_reducible assumption) | assumption)
      obtain ⟨i012, hi012, _, hsz12, _⟩ := info_parts info3
      have hroom12 : t201.length ≤ co13 := (Kd.R_reads' HO203.out).2.1
      have hC12 : Kd.C (Kd.int .i64) _ Ao13 t201.length t201 := (Kd.R_reads' HO203.out).2.2
      have hcut12 := cut_from (P := Try.prog) 33 3 .i64 Try.underlying33 hi012 1 hsz12 Ao13 t201.length co13 1 (by omega) q12
      have hr12 := Kd.C_drop (m := (1 : Int).toNat) (c := co13) hC12 (by omega) hroom12
      obtain ⟨A12, hA12⟩ : ∃ A1, A1 = (if co13 = (1 : Int).toNat then Ao13 else (Ao13 : Option Addr).map (·.add ((1 : Int).toNat * 1))) := ⟨_, rfl⟩
      obtain ⟨c12, hc12⟩ : ∃ c1, c1 = co13 - (1 : Int).toNat := ⟨_, rfl⟩
      have hy12 : y204.length = t201.length - (1 : Int).toNat := (by rw [Ny204.out, List.length_drop] <;> omega)
      rw [show (t201).drop (1 : Int).toNat = y204 from Ny204.out.symm] at hr12
      replace hr12 : Kd.C (Kd.int .i64) _ A12 y204.length y204 := (by rw [hA12]; exact hr12)
      rw [← hy12, ← hA12, ← hc12] at hcut12
      have HR207 := Aside0.mk hr12
      have HC207 := Aside0.mk (show y204.length ≤ c12 from by rw [hy12, hc12]; exact Nat.sub_le_sub_right hroom12 _)
      clear hr12 hC12 hroom12 hi012 hsz12 hc12
      have KY12 := Aside0.mk hy12
      have KA12 := Aside0.mk hA12
      clear hy12 hA12
      have KL12 := Aside0.mk (show 1 ≤ t201.length from by omega)
      replace q12 := eq_true q12
      refine hK.out _ _ ⟨(blk_cell BK199.out 0).trans rfl, (blk_cell BK199.out 1).trans rfl, (blk_cell BK199.out 2).trans rfl, (blk_cell BK199.out 3).trans rfl⟩ (fun hHeld => ?_)
      clear hK K
      refine norm_ (a' := ?_) ?_ ?_
      rotate_left
      · show Act.put _ (some 8) _ = _
        simp only [Act.put, List.setIfInBounds_toArray, List.set_cons_zero, List.set_cons_succ, i64_w, i32_w]
        rfl
      refine pure_ (i := 3) (N := some 9) (v := ?_) (a' := ?_) #[true, true, true, true, false, false] rfl rfl (by kernel_rfl) (fun _ _ _ h => h) (Or.inl ⟨by rfl, ?_⟩) ?_ ?_
      rotate_left
      · intro w'
        go_simp
        with_reducible rfl
      rotate_left
      · simp only [Act.put, List.setIfInBounds_toArray, List.set_cons_zero, List.set_cons_succ, i64_w, i32_w]
        rfl
      refine one_ (i := 4) (N := some 10) #[true, true, true, true, true, false] rfl rfl (by kernel_rfl) (by decide) (fun K hK => ?_)
      refine goes_ Try.func54 (by kernel_rfl) rfl #[.agg #[.slice A0_0 l0_0.length c0_0, .int .i64 a0_1, .int .i64 a0_2, .int .i64 a0_3], .slice A12 y204.length c12] (by rfl) rfl rfl (by (try simp only [List.map_toArray, List.map_cons, List.map_nil]); first | done | rfl | (simp only [List.length_drop, List.length_take]; rfl)) ?_
      with_reducible refine (impl_ArnArena_values.calls k _ _ l0_0 a0_1 a0_2 a0_3 _ _ y204 t208 _ ?side1 ?side2 ?side3 ?side4 A6.out).mono ?_
      (case side1 => repeat (first | exact (Kd.C_below HR0_0.out HB.out) | (with_reducible refine Kd.C_alloc ?_ _) | (with_reducible refine Kd.C_drewN ?_ _) | (with_reducible refine Kd.C_drew ?_)))
      (case side2 => exact HC0_0.out)
      (case side3 => repeat (first | exact (by repeat (first | (with_reducible exact HR207.out) | (with_reducible refine Kd.C_alloc ?_ _) | (with_reducible refine Kd.C_drewN ?_ _) | (with_reducible refine Kd.C_drew ?_) | exact HR207.out)) | (with_reducible refine Kd.C_alloc ?_ _) | (with_reducible refine Kd.C_drewN ?_ _) | (with_reducible refine Kd.C_drew ?_)))
      (case side4 => exact HC207.out)
      rintro e w14 ⟨v209, rfl, ho0, hb⟩
      refine ⟨_, rfl, ?_⟩
      have n0_ := Aside0.mk (Kd.R_elder' (by (with_reducible repeat (first | apply Kd.R_alloc | apply Kd.R_drewN | apply Kd.R_drew)); exact HO203.out) (Kd.R_base ho0) hb)
      have n1_ := Aside0.mk (Kd.R_lower (Kd.R_new' ho0 (Kd.R_lt (by (with_reducible repeat (first | apply Kd.R_alloc | apply Kd.R_drewN | apply Kd.R_drew)); exact HO203.out))) (below_size (by repeat (first | (with_reducible first | exact HB.out | apply below_alloc | apply pw_below_drewN | apply below_drew1 | refine below_set ?_ GE199.out) | exact HB.out))))
      have n2_ := Aside0.mk (blk_below (g := gb199) (o := .cells #[.slice A0_0 l0_0.length c0_0, .int .i64 a0_1, .int .i64 a0_2, .int .i64 a0_3] 29 (0, 0)) (by (with_reducible repeat (first | refine blk_drewN ?_ _ | refine blk_drew ?_ | refine blk_alloc ?_ _)); exact BK199.out) hb)
      have n3_ := Aside0.mk (Kd.C_below (by repeat (first | (with_reducible exact HR207.out) | (with_reducible refine Kd.C_alloc ?_ _) | (with_reducible refine Kd.C_drewN ?_ _) | (with_reducible refine Kd.C_drew ?_) | exact HR207.out)) hb)
      have n4_ := Aside0.mk (below_step (by repeat (first | (with_reducible first | exact HB.out | apply below_alloc | apply pw_below_drewN | apply below_drew1 | refine below_set ?_ GE199.out) | exact HB.out)) hb)
      clear HO203
      clear BK199
      clear HR207
      clear HB
      have HO203 := n0_
      have HO210 := n1_
      have BK199 := n2_
      have HR207 := n3_
      have HB := n4_
      clear n0_ n1_ n2_ n3_ n4_
      (try clear hb)
      (try clear hb2)
      (try clear hk)
      (try clear hi)
      (try clear ho0)
      refine hK.out _ _ ⟨(blk_cell BK199.out 0).trans rfl, (blk_cell BK199.out 1).trans rfl, (blk_cell BK199.out 2).trans rfl, (blk_cell BK199.out 3).trans rfl⟩ (fun hHeld => ?_)
      clear hK K
      refine norm_ (a' := ?_) ?_ ?_
      rotate_left
      · show Act.put _ (some 10) _ = _
        simp only [Act.put, List.setIfInBounds_toArray, List.set_cons_zero, List.set_cons_succ, i64_w, i32_w]
        rfl
      refine pure_ (i := 5) (N := some 2) (v := ?_) (a' := ?_) #[true, true, true, true, true, true] rfl rfl (by kernel_rfl) (fun _ _ _ h => h) (Or.inl ⟨by rfl, ?_⟩) ?_ ?_
      rotate_left
      · intro w'
        go_simp
        with_reducible rfl
      rotate_left
      · simp only [Act.put, List.setIfInBounds_toArray, List.set_cons_zero, List.set_cons_succ, i64_w, i32_w]
        rfl
      refine done_ (by kernel_rfl) ?_
      try go_wp2
      go_ret
      exact ⟨_, by first | rfl | (simp [errW_none, errW_some] <;> rfl) | (simp [*, errW_none, errW_some] <;> rfl), by (with_reducible repeat (first | apply Kd.R_alloc | apply Kd.R_drewN | apply Kd.R_drew)); exact Kd.R_mono HO210.out (fun _ hk => trivial), by repeat (first | (with_reducible first | exact HB.out | apply below_alloc | apply pw_below_drewN | apply below_drew1 | refine below_set ?_ GE199.out) | exact HB.out)⟩
    · rw [if_neg c5] at H
      exact absurd H (by simp)
  · replace c3 := Bool.eq_false_iff.mpr c3
    subst c3
    have H1 : (some ([] : List Int)) = some r := by rw [if_neg (show ¬ (false = true) by decide)] at H; exact H
    clear H
    have H := H1
    clear H1
    obtain rfl := Option.some.inj H
    go_enter Try.func13, Try.ntmps13
    go_wp2_with (first | ((with_reducible refine gate_dst (N := 1) rfl ?_); refine box_event ?hg (N := 1) ?hd (cs := #[.slice A0_0 l0_0.length c0_0, .int .i64 a0_1, .int .i64 a0_2, .int .i64 a0_3]) (t := 29) ?hr ?_; (case hd => rfl); (case hg => rfl); (case hr => first | (go_simp; done) | (go_simp; rfl)); intro gb199 hg w15 hbox hb; have n0_ := Aside0.mk (below_step (by repeat (first | (with_reducible first | exact HB.out | apply below_alloc | apply pw_below_drewN | apply below_drew1) | exact HB.out)) hb); have n1_ := Aside0.mk (hbox); have n2_ := Aside0.mk ((by rw [hg]; exact (below_size (by repeat (first | (with_reducible first | exact HB.out | apply below_alloc | apply pw_below_drewN | apply below_drew1) | exact HB.out))) : w.heap.size ≤ gb199)); have n3_ := Aside0.mk ((by rw [hg]; exact (below_size (by repeat (first | (with_reducible first | exact HB.out | apply below_alloc | apply pw_below_drewN | apply below_drew1) | exact HB.out))) : w.heap.size ≤ gb199)); clear HB; have HB := n0_; have BK199 := n1_; have GW199 := n2_; have GE199 := n3_; clear n0_ n1_ n2_ n3_; clear hb hbox hg; have hcz16_0 : w15.cell? ⟨gb199, 0, none⟩ = some (.slice A0_0 l0_0.length c0_0) := (blk_cell BK199.out 0).trans rfl; have hcz16_1 : w15.cell? ⟨gb199, 1, none⟩ = some (.int .i64 a0_1) := (blk_cell BK199.out 1).trans rfl; have hcz16_2 : w15.cell? ⟨gb199, 2, none⟩ = some (.int .i64 a0_2) := (blk_cell BK199.out 2).trans rfl; have hcz16_3 : w15.cell? ⟨gb199, 3, none⟩ = some (.int .i64 a0_3) := (blk_cell BK199.out 3).trans rfl; have hfz16_0 := blk_frozen BK199.out 0; have hfz16_1 := blk_frozen BK199.out 1; have hfz16_2 := blk_frozen BK199.out 2; have hfz16_3 := blk_frozen BK199.out 3) | ((with_reducible refine gate_callee (f := 10) rfl ?_); refine goesL_ (some 4) rfl rfl Try.func10 (by kernel_rfl) rfl #[.agg #[.slice A0_0 l0_0.length c0_0, .int .i64 a0_1, .int .i64 a0_2, .int .i64 a0_3]] rfl (by (try simp only [List.map_toArray, List.map_cons, List.map_nil]); first | done | rfl | (simp only [List.length_drop, List.length_take]; rfl)) ?_; (with_reducible refine (impl_ArnOk.calls k _ _ l0_0 a0_1 a0_2 a0_3 false _ ?side1 ?side2 A2.out).mono ?_); (case side1 => repeat (first | exact (Kd.C_below HR0_0.out HB.out) | (with_reducible refine Kd.C_alloc ?_ _) | (with_reducible refine Kd.C_drewN ?_ _) | (with_reducible refine Kd.C_drew ?_))); (case side2 => exact HC0_0.out); rintro e w17 ⟨rfl, hb⟩; refine ⟨_, rfl, ?_⟩; have n0_ := Aside0.mk (blk_below (g := gb199) (o := .cells #[.slice A0_0 l0_0.length c0_0, .int .i64 a0_1, .int .i64 a0_2, .int .i64 a0_3] 29 (0, 0)) (by (with_reducible repeat (first | refine blk_drewN ?_ _ | refine blk_drew ?_ | refine blk_alloc ?_ _)); exact BK199.out) hb); have n1_ := Aside0.mk (below_step (by repeat (first | (with_reducible first | exact HB.out | apply below_alloc | apply pw_below_drewN | apply below_drew1 | refine below_set ?_ GE199.out) | exact HB.out)) hb); clear BK199; clear HB; have BK199 := n0_; have HB := n1_; clear n0_ n1_; (try clear hb); (try clear hb2); (try clear hk); (try clear hi)))
    go_ret
    exact ⟨_, by first | rfl | (simp [errW_none, errW_some] <;> rfl) | (simp [*, errW_none, errW_some] <;> rfl), by first | exact Kd.R_nil _ _ _ _ _ | exact Kd.N_nil _ _ _ _ _ | exact Kd.V_nil _ _ _ _ _ | exact Kd.Q_nil _ _ _ _ _ | exact Kd.S_nil _ _ _ _ _, by repeat (first | (with_reducible first | exact HB.out | apply below_alloc | apply pw_below_drewN | apply below_drew1 | refine below_set ?_ GE199.out) | exact HB.out)⟩

/-! ### impl_ArnNew: function 18 -/
def impl_ArnNew.f  : Option ((List (S62)) × Int × Int × Int) := if 10 ≤ 5864062014805 then ((some (List.replicate 10 z62 : List (S62))).bind fun y212 => (if 0 < (y212.length : Int) then ((some (y212.set (0 : Int).toNat (⟨(rd_T62 y212 0).f0, (rd_T62 y212 0).f1, (rd_T62 y212 0).f2, (rd_T62 y212 0).f3, true, (rd_T62 y212 0).f5⟩ : S62) : List (S62))).bind fun y216 => (if 1 < (y212.length : Int) then ((some (y216.set (1 : Int).toNat (⟨(rd_T62 y216 1).f0, (rd_T62 y216 1).f1, (rd_T62 y216 1).f2, (rd_T62 y216 1).f3, true, (rd_T62 y216 1).f5⟩ : S62) : List (S62))).bind fun y217 => (some ((y217.set (1 : Int).toNat (⟨(rd_T62 y217 1).f0, (rd_T62 y217 1).f1, (rd_T62 y217 1).f2, (rd_T62 y217 1).f3, (rd_T62 y217 1).f4, 1⟩ : S62)), 0, 1, 1))) else (none))) else (none))) else (none)
set_option maxHeartbeats 8000000 in
set_option maxRecDepth 100000 in
theorem impl_ArnNew.calls  (r1 : List (S62)) (r2 : Int) (r3 : Int) (r4 : Int) (w : World) (h : impl_ArnNew.f  = some (r1, r2, r3, r4)) :
    Calls Try.prog 18 #[] w fun e w' => ∃ v0_ : Value, e = .returned (.agg #[v0_, .int .i64 r2, .int .i64 r3, .int .i64 r4]) ∧ Kd.R k62 62 w' w.heap.size (fun _ => True) v0_ r1 ∧ Below w.heap.size w w' := by
  have hu29 := Try.underlying29
  have HB := Aside0.mk (Below.refl w.heap.size w)
  have H : (if 10 ≤ 5864062014805 then ((some (List.replicate 10 z62 : List (S62))).bind fun y212 => (if 0 < (y212.length : Int) then ((some (y212.set (0 : Int).toNat (⟨(rd_T62 y212 0).f0, (rd_T62 y212 0).f1, (rd_T62 y212 0).f2, (rd_T62 y212 0).f3, true, (rd_T62 y212 0).f5⟩ : S62) : List (S62))).bind fun y216 => (if 1 < (y212.length : Int) then ((some (y216.set (1 : Int).toNat (⟨(rd_T62 y216 1).f0, (rd_T62 y216 1).f1, (rd_T62 y216 1).f2, (rd_T62 y216 1).f3, true, (rd_T62 y216 1).f5⟩ : S62) : List (S62))).bind fun y217 => (some ((y217.set (1 : Int).toNat (⟨(rd_T62 y217 1).f0, (rd_T62 y217 1).f1, (rd_T62 y217 1).f2, (rd_T62 y217 1).f3, (rd_T62 y217 1).f4, 1⟩ : S62)), 0, 1, 1))) else (none))) else (none))) else (none)) = some (r1, r2, r3, r4) := h
  clear h
  by_cases c1 : 10 ≤ 5864062014805
  · rw [if_pos c1] at H
    have c1b0 := eq_true c1
    have c1b1 : decide (10 ≤ 5864062014805) = true := decide_eq_true c1
    clear c1
    obtain ⟨y212, hy212⟩ : ∃ y_ : List (S62), y_ = (List.replicate 10 z62) := ⟨_, rfl⟩
    replace H : (if 0 < (y212.length : Int) then ((some (y212.set (0 : Int).toNat (⟨(rd_T62 y212 0).f0, (rd_T62 y212 0).f1, (rd_T62 y212 0).f2, (rd_T62 y212 0).f3, true, (rd_T62 y212 0).f5⟩ : S62) : List (S62))).bind fun y216 => (if 1 < (y212.length : Int) then ((some (y216.set (1 : Int).toNat (⟨(rd_T62 y216 1).f0, (rd_T62 y216 1).f1, (rd_T62 y216 1).f2, (rd_T62 y216 1).f3, true, (rd_T62 y216 1).f5⟩ : S62) : List (S62))).bind fun y217 => (some ((y217.set (1 : Int).toNat (⟨(rd_T62 y217 1).f0, (rd_T62 y217 1).f1, (rd_T62 y217 1).f2, (rd_T62 y217 1).f3, (rd_T62 y217 1).f4, 1⟩ : S62)), 0, 1, 1))) else (none))) else (none)) = some (r1, r2, r3, r4) := by first | (rw [hy212]; with_reducible exact H) | (have H2_ := (Option.bind_some _ _).symm.trans H; rw [hy212]; with_reducible exact H2_) | (have H2_ := (Option.bind_some _ _).symm.trans H; with_reducible exact H2_) | with_reducible exact H | (rw [hy212]; exact H) | exact H
    have Ny212 := Aside0.mk hy212
    clear hy212
    by_cases c2 : 0 < (y212.length : Int)
    · rw [if_pos c2] at H
      have c2b0 : decide (0 < (y212.length : Int)) = true := decide_eq_true c2
      have c2b1 : decide (0 < y212.length) = true := decide_eq_true (by omega)
      clear c2
      obtain ⟨y216, hy216⟩ : ∃ y_ : List (S62), y_ = (y212.set (0 : Int).toNat (⟨(rd_T62 y212 0).f0, (rd_T62 y212 0).f1, (rd_T62 y212 0).f2, (rd_T62 y212 0).f3, true, (rd_T62 y212 0).f5⟩ : S62)) := ⟨_, rfl⟩
      replace H : (if 1 < (y212.length : Int) then ((some (y216.set (1 : Int).toNat (⟨(rd_T62 y216 1).f0, (rd_T62 y216 1).f1, (rd_T62 y216 1).f2, (rd_T62 y216 1).f3, true, (rd_T62 y216 1).f5⟩ : S62) : List (S62))).bind fun y217 => (some ((y217.set (1 : Int).toNat (⟨(rd_T62 y217 1).f0, (rd_T62 y217 1).f1, (rd_T62 y217 1).f2, (rd_T62 y217 1).f3, (rd_T62 y217 1).f4, 1⟩ : S62)), 0, 1, 1))) else (none)) = some (r1, r2, r3, r4) := by first | (rw [hy216]; with_reducible exact H) | (have H2_ := (Option.bind_some _ _).symm.trans H; rw [hy216]; with_reducible exact H2_) | (have H2_ := (Option.bind_some _ _).symm.trans H; with_reducible exact H2_) | with_reducible exact H | (rw [hy216]; exact H) | exact H
      have Ny216 := Aside0.mk hy216
      clear hy216
      by_cases c4 : 1 < (y212.length : Int)
      · rw [if_pos c4] at H
        have c4b0 : decide (1 < (y212.length : Int)) = true := decide_eq_true c4
        have c4b1 : decide (1 < y212.length) = true := decide_eq_true (by omega)
        clear c4
        obtain ⟨y217, hy217⟩ : ∃ y_ : List (S62), y_ = (y216.set (1 : Int).toNat (⟨(rd_T62 y216 1).f0, (rd_T62 y216 1).f1, (rd_T62 y216 1).f2, (rd_T62 y216 1).f3, true, (rd_T62 y216 1).f5⟩ : S62)) := ⟨_, rfl⟩
        replace H : (some ((y217.set (1 : Int).toNat (⟨(rd_T62 y217 1).f0, (rd_T62 y217 1).f1, (rd_T62 y217 1).f2, (rd_T62 y217 1).f3, (rd_T62 y217 1).f4, 1⟩ : S62)), 0, 1, 1)) = some (r1, r2, r3, r4) := by first | (rw [hy217]; with_reducible exact H) | (have H2_ := (Option.bind_some _ _).symm.trans H; rw [hy217]; with_reducible exact H2_) | (have H2_ := (Option.bind_some _ _).symm.trans H; with_reducible exact H2_) | with_reducible exact H | (rw [hy217]; exact H) | exact H
        have Ny217 := Aside0.mk hy217
        clear hy217
        obtain ⟨y218, hy218⟩ : ∃ y_ : List (S62), y_ = (y217.set (1 : Int).toNat (⟨(rd_T62 y217 1).f0, (rd_T62 y217 1).f1, (rd_T62 y217 1).f2, (rd_T62 y217 1).f3, (rd_T62 y217 1).f4, 1⟩ : S62)) := ⟨_, rfl⟩
        replace H : (some (y218, 0, 1, 1)) = some (r1, r2, r3, r4) := by first | (rw [hy218]; with_reducible exact H) | (have H2_ := (Option.bind_some _ _).symm.trans H; rw [hy218]; with_reducible exact H2_) | (have H2_ := (Option.bind_some _ _).symm.trans H; with_reducible exact H2_) | with_reducible exact H | (rw [hy218]; exact H) | exact H
        have Ny218 := Aside0.mk hy218
        clear hy218
        simp only [Option.some.injEq, Prod.mk.injEq] at H
        obtain ⟨rfl, rfl, rfl, rfl⟩ := H
        go_enter Try.func18, Try.ntmps18
        go_wp2_with (first | ((with_reducible refine gate_dst (N := 0) rfl ?_); refine box_event ?hg (N := 0) ?hd (cs := #[.slice none 0 0, .int .i64 0, .int .i64 0, .int .i64 0]) (t := 29) ?hr ?_; (case hd => rfl); (case hg => rfl); (case hr => first | (go_simp; done) | (go_simp; rfl)); intro gb211 hg w7 hbox hb; have n0_ := Aside0.mk (below_step (by repeat (first | (with_reducible first | exact HB.out | apply below_alloc | apply pw_below_drewN | apply below_drew1) | exact HB.out)) hb); have n1_ := Aside0.mk (hbox); have n2_ := Aside0.mk ((by rw [hg]; exact (below_size (by repeat (first | (with_reducible first | exact HB.out | apply below_alloc | apply pw_below_drewN | apply below_drew1) | exact HB.out))) : w.heap.size ≤ gb211)); have n3_ := Aside0.mk ((by rw [hg]; exact (below_size (by repeat (first | (with_reducible first | exact HB.out | apply below_alloc | apply pw_below_drewN | apply below_drew1) | exact HB.out))) : w.heap.size ≤ gb211)); clear HB; have HB := n0_; have BK211 := n1_; have GW211 := n2_; have GE211 := n3_; clear n0_ n1_ n2_ n3_; clear hb hbox hg) | ((with_reducible refine gate_dst (N := 2) rfl ?_); refine Kd.R_make k62 _ 62 rfl (N := 2) rfl 27 _ _ rfl 10 rfl rfl Try.underlying27 (.agg #[(.int .i64 0), (.int .i64 0), (.int .i64 0), (.int .i64 0), (.bool false), (.int .i64 0)]) 48 info62 rfl (by decide) (by omega) z62 (ok := fun _ => True) (okp := fun _ => True) (k62_mkM _ _ _ z62 ) (fun _ hk => hk) trivial (by omega) (by omega) (Below.refl _ _) (Nat.le_refl _) ?_; intro v213 w8 ho9 hb hg_ hnew_; clear hg_ hnew_; (first | rw [← Ny212.out] at ho9 | (simp only [Int.reduceToNat] at ho9; rw [← Ny212.out] at ho9)); have n0_ := Aside0.mk (Kd.R_lower ho9 (below_size (by repeat (first | (with_reducible first | exact HB.out | apply below_alloc | apply pw_below_drewN | apply below_drew1 | refine below_set ?_ GE211.out) | exact HB.out)))); have n1_ := Aside0.mk (blk_below (g := gb211) (o := .cells #[.slice none 0 0, .int .i64 0, .int .i64 0, .int .i64 0] 29 (0, 0)) (by (with_reducible repeat (first | refine blk_drewN ?_ _ | refine blk_drew ?_ | refine blk_alloc ?_ _)); exact BK211.out) hb); have n2_ := Aside0.mk (below_step (by repeat (first | (with_reducible first | exact HB.out | apply below_alloc | apply pw_below_drewN | apply below_drew1 | refine below_set ?_ GE211.out) | exact HB.out)) hb); clear BK211; clear HB; have HO214 := n0_; have BK211 := n1_; have HB := n2_; clear n0_ n1_ n2_; clear hb ho9; obtain ⟨Ao10, co10, eo10⟩ := Kd.R_slice HO214.out; subst eo10) | ((with_reducible refine gate_dst (N := 1) rfl ?_); refine box_event ?hg (N := 1) ?hd (cs := #[.slice none 0 0, .int .i64 0, .int .i64 0, .int .i64 0]) (t := 29) ?hr ?_; (case hd => rfl); (case hg => rfl); (case hr => first | (go_simp; done) | (go_simp; rfl)); intro gb215 hg w11 hbox hb; have n0_ := Aside0.mk (Kd.R_below (by (with_reducible repeat (first | apply Kd.R_alloc | apply Kd.R_drewN | apply Kd.R_drew)); exact HO214.out) hb); have n1_ := Aside0.mk (blk_below (g := gb211) (o := .cells #[.slice none 0 0, .int .i64 0, .int .i64 0, .int .i64 0] 29 (0, 0)) (by (with_reducible repeat (first | refine blk_drewN ?_ _ | refine blk_drew ?_ | refine blk_alloc ?_ _)); exact BK211.out) hb); have n2_ := Aside0.mk (below_step (by repeat (first | (with_reducible first | exact HB.out | apply below_alloc | apply pw_below_drewN | apply below_drew1 | refine below_set ?_ GE211.out) | exact HB.out)) hb); have n3_ := Aside0.mk (hbox); have n4_ := Aside0.mk ((by rw [hg]; exact (below_size (by repeat (first | (with_reducible first | exact HB.out | apply below_alloc | apply pw_below_drewN | apply below_drew1 | refine below_set ?_ GE211.out) | exact HB.out))) : w.heap.size ≤ gb215)); have n5_ := Aside0.mk ((by rw [hg]; exact (below_size (by repeat (first | (with_reducible first | exact HB.out | apply below_alloc | apply pw_below_drewN | apply below_drew1 | refine below_set ?_ GE211.out) | exact HB.out))) : w.heap.size ≤ gb215)); have n6_ := Aside0.mk ((by rw [hg]; exact Nat.ne_of_lt (blk_lt (g := gb211) (o := .cells #[.slice none 0 0, .int .i64 0, .int .i64 0, .int .i64 0] 29 (0, 0)) (by (with_reducible repeat (first | refine blk_drewN ?_ _ | refine blk_drew ?_ | refine blk_alloc ?_ _)); exact BK211.out)) : gb211 ≠ gb215)); have n7_ := Aside0.mk ((by rw [hg]; exact Nat.ne_of_gt (blk_lt (g := gb211) (o := .cells #[.slice none 0 0, .int .i64 0, .int .i64 0, .int .i64 0] 29 (0, 0)) (by (with_reducible repeat (first | refine blk_drewN ?_ _ | refine blk_drew ?_ | refine blk_alloc ?_ _)); exact BK211.out)) : gb215 ≠ gb211)); clear HO214; clear BK211; clear HB; have HO214 := n0_; have BK211 := n1_; have HB := n2_; have BK215 := n3_; have GW215 := n4_; have GE215 := n5_; have NB211_215 := n6_; have NB215_211 := n7_; clear n0_ n1_ n2_ n3_ n4_ n5_ n6_ n7_; clear hb hbox hg; have hnb12 := NB215_211.out; have hnc12 := NB211_215.out; have hcz13_0 : w11.cell? ⟨gb215, 0, none⟩ = some (.slice none 0 0) := (blk_cell BK215.out 0).trans rfl; have hcz13_1 : w11.cell? ⟨gb215, 1, none⟩ = some (.int .i64 0) := (blk_cell BK215.out 1).trans rfl; have hcz13_2 : w11.cell? ⟨gb215, 2, none⟩ = some (.int .i64 0) := (blk_cell BK215.out 2).trans rfl; have hcz13_3 : w11.cell? ⟨gb215, 3, none⟩ = some (.int .i64 0) := (blk_cell BK215.out 3).trans rfl; have hfz13_0 := blk_frozen BK215.out 0; have hfz13_1 := blk_frozen BK215.out 1; have hfz13_2 := blk_frozen BK215.out 2; have hfz13_3 := blk_frozen BK215.out 3) | ((with_reducible refine gate_store (t := 29) (p := 1) rfl ?_); refine store_event (t := 29) (p := 1) (v := ?vo_w14) (w1 := ((((w11.setCell ⟨gb215, 0, none⟩ (.slice Ao10 y212.length co10)).setCell ⟨gb215, 1, none⟩ (.int .i64 0)).setCell ⟨gb215, 2, none⟩ (.int .i64 1)).setCell ⟨gb215, 3, none⟩ (.int .i64 1))) ?hg ?ho ?hn ?hr ?_; (case ho => rfl); (case hg => rfl); (case hn => rfl); (case hr => first | (go_simp; done) | (go_simp; rfl)); intro w14 hw; have n0_ : Aside0 (Kd.R k62 62 w14 w.heap.size (fun _ => True) (.slice Ao10 y212.length co10) y212) := ⟨(by rw [hw]; exact (by (with_reducible repeat (first | apply Kd.R_alloc | apply Kd.R_drewN | apply Kd.R_drew)); exact Kd.R_mono (Kd.R_far (p := ⟨gb215, 3, none⟩) (Kd.R_far (p := ⟨gb215, 2, none⟩) (Kd.R_far (p := ⟨gb215, 1, none⟩) (Kd.R_far (p := ⟨gb215, 0, none⟩) (Kd.R_types HO214.out BK215.out (by decide)) (fun _ hk => by first | exact hk.2 | trivial | simp [hk]) (.slice Ao10 y212.length co10)) (fun _ hk => by first | exact hk.2 | trivial | simp [hk]) (.int .i64 0)) (fun _ hk => by first | exact hk.2 | trivial | simp [hk]) (.int .i64 1)) (fun _ hk => by first | exact hk.2 | trivial | simp [hk]) (.int .i64 1)) (fun _ hk => trivial)))⟩; have n1_ : Aside0 (w14.heap[gb211]? = some (.cells #[.slice none 0 0, .int .i64 0, .int .i64 0, .int .i64 0] 29 (0, 0))) := ⟨(by rw [hw]; exact (by (with_reducible repeat (first | refine blk_drewN ?_ _ | refine blk_drew ?_ | refine blk_alloc ?_ _)); refine blk_far ?_ NB211_215.out _; (with_reducible repeat (first | refine blk_drewN ?_ _ | refine blk_drew ?_ | refine blk_alloc ?_ _)); refine blk_far ?_ NB211_215.out _; (with_reducible repeat (first | refine blk_drewN ?_ _ | refine blk_drew ?_ | refine blk_alloc ?_ _)); refine blk_far ?_ NB211_215.out _; (with_reducible repeat (first | refine blk_drewN ?_ _ | refine blk_drew ?_ | refine blk_alloc ?_ _)); refine blk_far ?_ NB211_215.out _; (with_reducible repeat (first | refine blk_drewN ?_ _ | refine blk_drew ?_ | refine blk_alloc ?_ _)); exact BK211.out))⟩; have n2_ : Aside0 (w14.heap[gb215]? = some (.cells #[.slice Ao10 y212.length co10, .int .i64 0, .int .i64 1, .int .i64 1] 29 (0, 0))) := ⟨(by rw [hw]; exact (by (with_reducible repeat (first | refine blk_drewN ?_ _ | refine blk_drew ?_ | refine blk_alloc ?_ _)); refine blk_put (cs := #[.slice Ao10 y212.length co10, .int .i64 0, .int .i64 1, .int .i64 0]) ?_ 3 _ rfl; (with_reducible repeat (first | refine blk_drewN ?_ _ | refine blk_drew ?_ | refine blk_alloc ?_ _)); refine blk_put (cs := #[.slice Ao10 y212.length co10, .int .i64 0, .int .i64 0, .int .i64 0]) ?_ 2 _ rfl; (with_reducible repeat (first | refine blk_drewN ?_ _ | refine blk_drew ?_ | refine blk_alloc ?_ _)); refine blk_put (cs := #[.slice Ao10 y212.length co10, .int .i64 0, .int .i64 0, .int .i64 0]) ?_ 1 _ rfl; (with_reducible repeat (first | refine blk_drewN ?_ _ | refine blk_drew ?_ | refine blk_alloc ?_ _)); refine blk_put (cs := #[.slice none 0 0, .int .i64 0, .int .i64 0, .int .i64 0]) ?_ 0 _ rfl; (with_reducible repeat (first | refine blk_drewN ?_ _ | refine blk_drew ?_ | refine blk_alloc ?_ _)); exact BK215.out))⟩; have n3_ : Aside0 (Below w.heap.size w w14) := ⟨(by rw [hw]; exact (by repeat (first | (with_reducible first | exact HB.out | apply below_alloc | apply pw_below_drewN | apply below_drew1 | refine below_set ?_ GE211.out | refine below_set ?_ GE215.out) | exact HB.out)))⟩; clear hw; clear HO214; clear BK211; clear BK215; clear HB; have HO214 := n0_; have BK211 := n1_; have BK215 := n2_; have HB := n3_; clear n0_ n1_ n2_ n3_; have hcz15_0 : w14.cell? ⟨gb215, 0, none⟩ = some (.slice Ao10 y212.length co10) := (blk_cell BK215.out 0).trans rfl; have hcz15_1 : w14.cell? ⟨gb215, 1, none⟩ = some (.int .i64 0) := (blk_cell BK215.out 1).trans rfl; have hcz15_2 : w14.cell? ⟨gb215, 2, none⟩ = some (.int .i64 1) := (blk_cell BK215.out 2).trans rfl; have hcz15_3 : w14.cell? ⟨gb215, 3, none⟩ = some (.int .i64 1) := (blk_cell BK215.out 3).trans rfl; have hfz15_0 := blk_frozen BK215.out 0; have hfz15_1 := blk_frozen BK215.out 1; have hfz15_2 := blk_frozen BK215.out 2; have hfz15_3 := blk_frozen BK215.out 3; have p3 : 0 ≤ (0 : Int) := (by omega); have q3 : (0 : Int) < ((y212.length : Int) : Int) := of_decide_eq_true (by first | (with_reducible assumption) | assumption); have qi3 : (0 < y212.length) = True := eq_true (by omega); obtain ⟨go3, co3, eo3, gb3, gl3, cl3, HG3⟩ := Kd.R_form HO214.out (by omega); (first | cases eo3 | (injection eo3 with ea_ en_ ec_; (first | subst ea_ | (injection ea_ with ea_; subst ea_)); subst ec_; clear en_)); have GB3 := Aside0.mk gb3; have GG3 := Aside0.mk HG3; clear gb3 gl3 HG3; obtain ⟨ce3, hcl3, hM3, hcc3, hfr3⟩ := Kd.R_elem HO214.out z62 (0 : Int) p3 q3; obtain rfl := k62_openM hM3; have hx3_0 : w14.cell? ⟨go3, (0 : Int).toNat * 6, none⟩ = some (.int .i64 ((rd_T62 y212 0).f0)) := hcc3 0 _ rfl; have hx3_1 : w14.cell? ⟨go3, (0 : Int).toNat * 6 + 1, none⟩ = some (.int .i64 ((rd_T62 y212 0).f1)) := hcc3 1 _ rfl; have hx3_2 : w14.cell? ⟨go3, (0 : Int).toNat * 6 + 2, none⟩ = some (.int .i64 ((rd_T62 y212 0).f2)) := hcc3 2 _ rfl; have hx3_3 : w14.cell? ⟨go3, (0 : Int).toNat * 6 + 3, none⟩ = some (.int .i64 ((rd_T62 y212 0).f3)) := hcc3 3 _ rfl; have hx3_4 : w14.cell? ⟨go3, (0 : Int).toNat * 6 + 4, none⟩ = some (.bool ((rd_T62 y212 0).f4)) := hcc3 4 _ rfl; have hx3_5 : w14.cell? ⟨go3, (0 : Int).toNat * 6 + 5, none⟩ = some (.int .i64 ((rd_T62 y212 0).f5)) := hcc3 5 _ rfl; have hf3_0 : w14.frozen? ⟨go3, (0 : Int).toNat * 6, none⟩ = false := hfr3 0; have hf3_1 : w14.frozen? ⟨go3, (0 : Int).toNat * 6 + 1, none⟩ = false := hfr3 1; have hf3_2 : w14.frozen? ⟨go3, (0 : Int).toNat * 6 + 2, none⟩ = false := hfr3 2; have hf3_3 : w14.frozen? ⟨go3, (0 : Int).toNat * 6 + 3, none⟩ = false := hfr3 3; have hf3_4 : w14.frozen? ⟨go3, (0 : Int).toNat * 6 + 4, none⟩ = false := hfr3 4; have hf3_5 : w14.frozen? ⟨go3, (0 : Int).toNat * 6 + 5, none⟩ = false := hfr3 5; (try clear hcl3); (try clear hcc3); (try clear hfr3); (try clear hM3); (try rw [show ((0 : Int)).toNat = 0 from rfl] at hx3_0); (try simp only [Nat.reduceMul, Nat.zero_mul, Nat.zero_add, Nat.reduceAdd] at hx3_0); (try rw [show ((0 : Int)).toNat = 0 from rfl] at hf3_0); (try simp only [Nat.reduceMul, Nat.zero_mul, Nat.zero_add, Nat.reduceAdd] at hf3_0); (try rw [show ((0 : Int)).toNat = 0 from rfl] at hx3_1); (try simp only [Nat.reduceMul, Nat.zero_mul, Nat.zero_add, Nat.reduceAdd] at hx3_1); (try rw [show ((0 : Int)).toNat = 0 from rfl] at hf3_1); (try simp only [Nat.reduceMul, Nat.zero_mul, Nat.zero_add, Nat.reduceAdd] at hf3_1); (try rw [show ((0 : Int)).toNat = 0 from rfl] at hx3_2); (try simp only [Nat.reduceMul, Nat.zero_mul, Nat.zero_add, Nat.reduceAdd] at hx3_2); (try rw [show ((0 : Int)).toNat = 0 from rfl] at hf3_2); (try simp only [Nat.reduceMul, Nat.zero_mul, Nat.zero_add, Nat.reduceAdd] at hf3_2); (try rw [show ((0 : Int)).toNat = 0 from rfl] at hx3_3); (try simp only [Nat.reduceMul, Nat.zero_mul, Nat.zero_add, Nat.reduceAdd] at hx3_3); (try rw [show ((0 : Int)).toNat = 0 from rfl] at hf3_3); (try simp only [Nat.reduceMul, Nat.zero_mul, Nat.zero_add, Nat.reduceAdd] at hf3_3); (try rw [show ((0 : Int)).toNat = 0 from rfl] at hx3_4); (try simp only [Nat.reduceMul, Nat.zero_mul, Nat.zero_add, Nat.reduceAdd] at hx3_4); (try rw [show ((0 : Int)).toNat = 0 from rfl] at hf3_4); (try simp only [Nat.reduceMul, Nat.zero_mul, Nat.zero_add, Nat.reduceAdd] at hf3_4); (try rw [show ((0 : Int)).toNat = 0 from rfl] at hx3_5); (try simp only [Nat.reduceMul, Nat.zero_mul, Nat.zero_add, Nat.reduceAdd] at hx3_5); (try rw [show ((0 : Int)).toNat = 0 from rfl] at hf3_5); (try simp only [Nat.reduceMul, Nat.zero_mul, Nat.zero_add, Nat.reduceAdd] at hf3_5); replace p3 := eq_true p3; replace q3 := eq_true q3; have HX16 := Aside0.mk (show Kd.R k62 62 w14 w.heap.size (fun _ => True) (.slice (some ⟨go3, 0, none⟩) y212.length co10) y212 from (by (with_reducible repeat (first | apply Kd.R_alloc | apply Kd.R_drewN | apply Kd.R_drew)); exact HO214.out)); obtain ⟨ce16, hcl16, hM16, hcc16, hfr16⟩ := Kd.R_elem HX16.out z62 (0 : Int) (by omega) (by have h_ : (0 : Int) < ((y212.length : Int) : Int) := of_decide_eq_true (by first | (with_reducible assumption) | assumption); first | exact h_ | (have e_ := (Kd.R_reads' HO214.out).1; omega) | simpa using h_); obtain rfl := k62_openM hM16; have HP16 := Kd.R_seg HX16.out (0 : Int) (by omega) (by have h_ : (0 : Int) < ((y212.length : Int) : Int) := of_decide_eq_true (by first | (with_reducible assumption) | assumption); first | exact h_ | (have e_ := (Kd.R_reads' HO214.out).1; omega) | simpa using h_) (seg := [.bool true]) (j := 4) hcl16 hcc16 (show 5 ≤ 6 from by decide) (x' := (⟨(rd_T62 y212 0).f0, (rd_T62 y212 0).f1, (rd_T62 y212 0).f2, (rd_T62 y212 0).f3, true, (rd_T62 y212 0).f5⟩ : S62)) (k62_mkM _ _ _ (⟨(rd_T62 y212 0).f0, (rd_T62 y212 0).f1, (rd_T62 y212 0).f2, (rd_T62 y212 0).f3, true, (rd_T62 y212 0).f5⟩ : S62) ) (fun _ hk => hk); have hx16_4 := hcc16 4 _ rfl; (try simp only [show (k62).sz = 6 from rfl, Nat.mul_one, Nat.add_zero] at hx16_4); (try rw [show ((0 : Int)).toNat = 0 from rfl] at hx16_4); (try simp only [Nat.reduceMul, Nat.zero_mul, Nat.zero_add, Nat.reduceAdd] at hx16_4); have hf16_4 := hfr16 4; (try simp only [show (k62).sz = 6 from rfl, Nat.mul_one, Nat.add_zero] at hf16_4); (try rw [show ((0 : Int)).toNat = 0 from rfl] at hf16_4); (try simp only [Nat.reduceMul, Nat.zero_mul, Nat.zero_add, Nat.reduceAdd] at hf16_4); (try clear hcl16); (try clear hcc16); (try clear hfr16); (try clear hM16)) | ((with_reducible refine gate_store (t := 4) (p := 7) rfl ?_); refine store_event (t := 4) (p := 7) (v := ?vo_w17) (w1 := (w14.setCell ⟨go3, 4, none⟩ (.bool true))) ?hg ?ho ?hn ?hr ?_; (case ho => rfl); (case hg => rfl); (case hn => rfl); (case hr => first | (go_simp; done) | (go_simp; rfl)); intro w17 hw; have hg : w14.grownBy w17 (some go3) := (by rw [hw]; exact HP16.2); have hp_ : Kd.R k62 62 w17 w.heap.size (fun _ => True) (.slice (some ⟨go3, 0, none⟩) y212.length co10) y216 := (by rw [hw, Ny216.out]; exact HP16.1); clear HP16; have n0_ := Aside0.mk (blk_grown (g := gb211) (o := .cells #[.slice none 0 0, .int .i64 0, .int .i64 0, .int .i64 0] 29 (0, 0)) (by (with_reducible repeat (first | refine blk_drewN ?_ _ | refine blk_drew ?_ | refine blk_alloc ?_ _)); exact BK211.out) hg (Kd.R_ne HO214.out BK211.out (by decide))); have n1_ := Aside0.mk (hp_); have n2_ := Aside0.mk (blk_grown (g := gb215) (o := .cells #[.slice (some ⟨go3, 0, none⟩) y212.length co10, .int .i64 0, .int .i64 1, .int .i64 1] 29 (0, 0)) (by (with_reducible repeat (first | refine blk_drewN ?_ _ | refine blk_drew ?_ | refine blk_alloc ?_ _)); exact BK215.out) hg (Kd.R_ne HO214.out BK215.out (by decide))); have n3_ := Aside0.mk ((by rw [hw]; exact below_set (HB.out) GB3.out : Below w.heap.size w w17)); clear BK211; clear HO214; clear BK215; clear HB; have BK211 := n0_; have HO214 := n1_; have BK215 := n2_; have HB := n3_; clear n0_ n1_ n2_ n3_; clear hg hw hp_; have hcz18_0 : w17.cell? ⟨gb215, 0, none⟩ = some (.slice (some ⟨go3, 0, none⟩) y212.length co10) := (blk_cell BK215.out 0).trans rfl; have hcz18_1 : w17.cell? ⟨gb215, 1, none⟩ = some (.int .i64 0) := (blk_cell BK215.out 1).trans rfl; have hcz18_2 : w17.cell? ⟨gb215, 2, none⟩ = some (.int .i64 1) := (blk_cell BK215.out 2).trans rfl; have hcz18_3 : w17.cell? ⟨gb215, 3, none⟩ = some (.int .i64 1) := (blk_cell BK215.out 3).trans rfl; have hfz18_0 := blk_frozen BK215.out 0; have hfz18_1 := blk_frozen BK215.out 1; have hfz18_2 := blk_frozen BK215.out 2; have hfz18_3 := blk_frozen BK215.out 3; have p5 : 0 ≤ (1 : Int) := (by omega); have q5 : (1 : Int) < ((y212.length : Int) : Int) := of_decide_eq_true (by first | (with_reducible assumption) | assumption); have qi5 : (1 < y212.length) = True := eq_true (by omega); obtain ⟨ce5, hcl5, hM5, hcc5, hfr5⟩ := Kd.R_elem HO214.out z62 (1 : Int) p5 q5; obtain rfl := k62_openM hM5; have hx5_0 : w17.cell? ⟨go3, (1 : Int).toNat * 6, none⟩ = some (.int .i64 ((rd_T62 y216 1).f0)) := hcc5 0 _ rfl; have hx5_1 : w17.cell? ⟨go3, (1 : Int).toNat * 6 + 1, none⟩ = some (.int .i64 ((rd_T62 y216 1).f1)) := hcc5 1 _ rfl; have hx5_2 : w17.cell? ⟨go3, (1 : Int).toNat * 6 + 2, none⟩ = some (.int .i64 ((rd_T62 y216 1).f2)) := hcc5 2 _ rfl; have hx5_3 : w17.cell? ⟨go3, (1 : Int).toNat * 6 + 3, none⟩ = some (.int .i64 ((rd_T62 y216 1).f3)) := hcc5 3 _ rfl; have hx5_4 : w17.cell? ⟨go3, (1 : Int).toNat * 6 + 4, none⟩ = some (.bool ((rd_T62 y216 1).f4)) := hcc5 4 _ rfl; have hx5_5 : w17.cell? ⟨go3, (1 : Int).toNat * 6 + 5, none⟩ = some (.int .i64 ((rd_T62 y216 1).f5)) := hcc5 5 _ rfl; have hf5_0 : w17.frozen? ⟨go3, (1 : Int).toNat * 6, none⟩ = false := hfr5 0; have hf5_1 : w17.frozen? ⟨go3, (1 : Int).toNat * 6 + 1, none⟩ = false := hfr5 1; have hf5_2 : w17.frozen? ⟨go3, (1 : Int).toNat * 6 + 2, none⟩ = false := hfr5 2; have hf5_3 : w17.frozen? ⟨go3, (1 : Int).toNat * 6 + 3, none⟩ = false := hfr5 3; have hf5_4 : w17.frozen? ⟨go3, (1 : Int).toNat * 6 + 4, none⟩ = false := hfr5 4; have hf5_5 : w17.frozen? ⟨go3, (1 : Int).toNat * 6 + 5, none⟩ = false := hfr5 5; (try clear hcl5); (try clear hcc5); (try clear hfr5); (try clear hM5); (try rw [show ((1 : Int)).toNat = 1 from rfl] at hx5_0); (try simp only [Nat.reduceMul, Nat.zero_mul, Nat.zero_add, Nat.reduceAdd] at hx5_0); (try rw [show ((1 : Int)).toNat = 1 from rfl] at hf5_0); (try simp only [Nat.reduceMul, Nat.zero_mul, Nat.zero_add, Nat.reduceAdd] at hf5_0); (try rw [show ((1 : Int)).toNat = 1 from rfl] at hx5_1); (try simp only [Nat.reduceMul, Nat.zero_mul, Nat.zero_add, Nat.reduceAdd] at hx5_1); (try rw [show ((1 : Int)).toNat = 1 from rfl] at hf5_1); (try simp only [Nat.reduceMul, Nat.zero_mul, Nat.zero_add, Nat.reduceAdd] at hf5_1); (try rw [show ((1 : Int)).toNat = 1 from rfl] at hx5_2); (try simp only [Nat.reduceMul, Nat.zero_mul, Nat.zero_add, Nat.reduceAdd] at hx5_2); (try rw [show ((1 : Int)).toNat = 1 from rfl] at hf5_2); (try simp only [Nat.reduceMul, Nat.zero_mul, Nat.zero_add, Nat.reduceAdd] at hf5_2); (try rw [show ((1 : Int)).toNat = 1 from rfl] at hx5_3); (try simp only [Nat.reduceMul, Nat.zero_mul, Nat.zero_add, Nat.reduceAdd] at hx5_3); (try rw [show ((1 : Int)).toNat = 1 from rfl] at hf5_3); (try simp only [Nat.reduceMul, Nat.zero_mul, Nat.zero_add, Nat.reduceAdd] at hf5_3); (try rw [show ((1 : Int)).toNat = 1 from rfl] at hx5_4); (try simp only [Nat.reduceMul, Nat.zero_mul, Nat.zero_add, Nat.reduceAdd] at hx5_4); (try rw [show ((1 : Int)).toNat = 1 from rfl] at hf5_4); (try simp only [Nat.reduceMul, Nat.zero_mul, Nat.zero_add, Nat.reduceAdd] at hf5_4); (try rw [show ((1 : Int)).toNat = 1 from rfl] at hx5_5); (try simp only [Nat.reduceMul, Nat.zero_mul, Nat.zero_add, Nat.reduceAdd] at hx5_5); (try rw [show ((1 : Int)).toNat = 1 from rfl] at hf5_5); (try simp only [Nat.reduceMul, Nat.zero_mul, Nat.zero_add, Nat.reduceAdd] at hf5_5); replace p5 := eq_true p5; replace q5 := eq_true q5; have HX19 := Aside0.mk (show Kd.R k62 62 w17 w.heap.size (fun _ => True) (.slice (some ⟨go3, 0, none⟩) y212.length co10) y216 from (by (with_reducible repeat (first | apply Kd.R_alloc | apply Kd.R_drewN | apply Kd.R_drew)); exact HO214.out)); obtain ⟨ce19, hcl19, hM19, hcc19, hfr19⟩ := Kd.R_elem HX19.out z62 (1 : Int) (by omega) (by have h_ : (1 : Int) < ((y212.length : Int) : Int) := of_decide_eq_true (by first | (with_reducible assumption) | assumption); first | exact h_ | (have e_ := (Kd.R_reads' HO214.out).1; omega) | simpa using h_); obtain rfl := k62_openM hM19; have HP19 := Kd.R_seg HX19.out (1 : Int) (by omega) (by have h_ : (1 : Int) < ((y212.length : Int) : Int) := of_decide_eq_true (by first | (with_reducible assumption) | assumption); first | exact h_ | (have e_ := (Kd.R_reads' HO214.out).1; omega) | simpa using h_) (seg := [.bool true]) (j := 4) hcl19 hcc19 (show 5 ≤ 6 from by decide) (x' := (⟨(rd_T62 y216 1).f0, (rd_T62 y216 1).f1, (rd_T62 y216 1).f2, (rd_T62 y216 1).f3, true, (rd_T62 y216 1).f5⟩ : S62)) (k62_mkM _ _ _ (⟨(rd_T62 y216 1).f0, (rd_T62 y216 1).f1, (rd_T62 y216 1).f2, (rd_T62 y216 1).f3, true, (rd_T62 y216 1).f5⟩ : S62) ) (fun _ hk => hk); have hx19_4 := hcc19 4 _ rfl; (try simp only [show (k62).sz = 6 from rfl, Nat.mul_one, Nat.add_zero] at hx19_4); (try rw [show ((1 : Int)).toNat = 1 from rfl] at hx19_4); (try simp only [Nat.reduceMul, Nat.zero_mul, Nat.zero_add, Nat.reduceAdd] at hx19_4); have hf19_4 := hfr19 4; (try simp only [show (k62).sz = 6 from rfl, Nat.mul_one, Nat.add_zero] at hf19_4); (try rw [show ((1 : Int)).toNat = 1 from rfl] at hf19_4); (try simp only [Nat.reduceMul, Nat.zero_mul, Nat.zero_add, Nat.reduceAdd] at hf19_4); (try clear hcl19); (try clear hcc19); (try clear hfr19); (try clear hM19)) | ((with_reducible refine gate_store (t := 4) (p := 11) rfl ?_); refine store_event (t := 4) (p := 11) (v := ?vo_w20) (w1 := (w17.setCell ⟨go3, 10, none⟩ (.bool true))) ?hg ?ho ?hn ?hr ?_; (case ho => rfl); (case hg => rfl); (case hn => rfl); (case hr => first | (go_simp; done) | (go_simp; rfl)); intro w20 hw; have hg : w17.grownBy w20 (some go3) := (by rw [hw]; exact HP19.2); have hp_ : Kd.R k62 62 w20 w.heap.size (fun _ => True) (.slice (some ⟨go3, 0, none⟩) y212.length co10) y217 := (by rw [hw, Ny217.out]; exact HP19.1); clear HP19; have n0_ := Aside0.mk (blk_grown (g := gb211) (o := .cells #[.slice none 0 0, .int .i64 0, .int .i64 0, .int .i64 0] 29 (0, 0)) (by (with_reducible repeat (first | refine blk_drewN ?_ _ | refine blk_drew ?_ | refine blk_alloc ?_ _)); exact BK211.out) hg (Kd.R_ne HO214.out BK211.out (by decide))); have n1_ := Aside0.mk (hp_); have n2_ := Aside0.mk (blk_grown (g := gb215) (o := .cells #[.slice (some ⟨go3, 0, none⟩) y212.length co10, .int .i64 0, .int .i64 1, .int .i64 1] 29 (0, 0)) (by (with_reducible repeat (first | refine blk_drewN ?_ _ | refine blk_drew ?_ | refine blk_alloc ?_ _)); exact BK215.out) hg (Kd.R_ne HO214.out BK215.out (by decide))); have n3_ := Aside0.mk ((by rw [hw]; exact below_set (HB.out) GB3.out : Below w.heap.size w w20)); clear BK211; clear HO214; clear BK215; clear HB; have BK211 := n0_; have HO214 := n1_; have BK215 := n2_; have HB := n3_; clear n0_ n1_ n2_ n3_; clear hg hw hp_; have hcz21_0 : w20.cell? ⟨gb215, 0, none⟩ = some (.slice (some ⟨go3, 0, none⟩) y212.length co10) := (blk_cell BK215.out 0).trans rfl; have hcz21_1 : w20.cell? ⟨gb215, 1, none⟩ = some (.int .i64 0) := (blk_cell BK215.out 1).trans rfl; have hcz21_2 : w20.cell? ⟨gb215, 2, none⟩ = some (.int .i64 1) := (blk_cell BK215.out 2).trans rfl; have hcz21_3 : w20.cell? ⟨gb215, 3, none⟩ = some (.int .i64 1) := (blk_cell BK215.out 3).trans rfl; have hfz21_0 := blk_frozen BK215.out 0; have hfz21_1 := blk_frozen BK215.out 1; have hfz21_2 := blk_frozen BK215.out 2; have hfz21_3 := blk_frozen BK215.out 3; have p6 : 0 ≤ (1 : Int) := (by omega); have q6 : (1 : Int) < ((y212.length : Int) : Int) := of_decide_eq_true (by first | (with_reducible assumption) | assumption); have qi6 : (1 < y212.length) = True := eq_true (by omega); obtain ⟨ce6, hcl6, hM6, hcc6, hfr6⟩ := Kd.R_elem HO214.out z62 (1 : Int) p6 q6; obtain rfl := k62_openM hM6; have hx6_0 : w20.cell? ⟨go3, (1 : Int).toNat * 6, none⟩ = some (.int .i64 ((rd_T62 y217 1).f0)) := hcc6 0 _ rfl; have hx6_1 : w20.cell? ⟨go3, (1 : Int).toNat * 6 + 1, none⟩ = some (.int .i64 ((rd_T62 y217 1).f1)) := hcc6 1 _ rfl; have hx6_2 : w20.cell? ⟨go3, (1 : Int).toNat * 6 + 2, none⟩ = some (.int .i64 ((rd_T62 y217 1).f2)) := hcc6 2 _ rfl; have hx6_3 : w20.cell? ⟨go3, (1 : Int).toNat * 6 + 3, none⟩ = some (.int .i64 ((rd_T62 y217 1).f3)) := hcc6 3 _ rfl; have hx6_4 : w20.cell? ⟨go3, (1 : Int).toNat * 6 + 4, none⟩ = some (.bool ((rd_T62 y217 1).f4)) := hcc6 4 _ rfl; have hx6_5 : w20.cell? ⟨go3, (1 : Int).toNat * 6 + 5, none⟩ = some (.int .i64 ((rd_T62 y217 1).f5)) := hcc6 5 _ rfl; have hf6_0 : w20.frozen? ⟨go3, (1 : Int).toNat * 6, none⟩ = false := hfr6 0; have hf6_1 : w20.frozen? ⟨go3, (1 : Int).toNat * 6 + 1, none⟩ = false := hfr6 1; have hf6_2 : w20.frozen? ⟨go3, (1 : Int).toNat * 6 + 2, none⟩ = false := hfr6 2; have hf6_3 : w20.frozen? ⟨go3, (1 : Int).toNat * 6 + 3, none⟩ = false := hfr6 3; have hf6_4 : w20.frozen? ⟨go3, (1 : Int).toNat * 6 + 4, none⟩ = false := hfr6 4; have hf6_5 : w20.frozen? ⟨go3, (1 : Int).toNat * 6 + 5, none⟩ = false := hfr6 5; (try clear hcl6); (try clear hcc6); (try clear hfr6); (try clear hM6); (try rw [show ((1 : Int)).toNat = 1 from rfl] at hx6_0); (try simp only [Nat.reduceMul, Nat.zero_mul, Nat.zero_add, Nat.reduceAdd] at hx6_0); (try rw [show ((1 : Int)).toNat = 1 from rfl] at hf6_0); (try simp only [Nat.reduceMul, Nat.zero_mul, Nat.zero_add, Nat.reduceAdd] at hf6_0); (try rw [show ((1 : Int)).toNat = 1 from rfl] at hx6_1); (try simp only [Nat.reduceMul, Nat.zero_mul, Nat.zero_add, Nat.reduceAdd] at hx6_1); (try rw [show ((1 : Int)).toNat = 1 from rfl] at hf6_1); (try simp only [Nat.reduceMul, Nat.zero_mul, Nat.zero_add, Nat.reduceAdd] at hf6_1); (try rw [show ((1 : Int)).toNat = 1 from rfl] at hx6_2); (try simp only [Nat.reduceMul, Nat.zero_mul, Nat.zero_add, Nat.reduceAdd] at hx6_2); (try rw [show ((1 : Int)).toNat = 1 from rfl] at hf6_2); (try simp only [Nat.reduceMul, Nat.zero_mul, Nat.zero_add, Nat.reduceAdd] at hf6_2); (try rw [show ((1 : Int)).toNat = 1 from rfl] at hx6_3); (try simp only [Nat.reduceMul, Nat.zero_mul, Nat.zero_add, Nat.reduceAdd] at hx6_3); (try rw [show ((1 : Int)).toNat = 1 from rfl] at hf6_3); (try simp only [Nat.reduceMul, Nat.zero_mul, Nat.zero_add, Nat.reduceAdd] at hf6_3); (try rw [show ((1 : Int)).toNat = 1 from rfl] at hx6_4); (try simp only [Nat.reduceMul, Nat.zero_mul, Nat.zero_add, Nat.reduceAdd] at hx6_4); (try rw [show ((1 : Int)).toNat = 1 from rfl] at hf6_4); (try simp only [Nat.reduceMul, Nat.zero_mul, Nat.zero_add, Nat.reduceAdd] at hf6_4); (try rw [show ((1 : Int)).toNat = 1 from rfl] at hx6_5); (try simp only [Nat.reduceMul, Nat.zero_mul, Nat.zero_add, Nat.reduceAdd] at hx6_5); (try rw [show ((1 : Int)).toNat = 1 from rfl] at hf6_5); (try simp only [Nat.reduceMul, Nat.zero_mul, Nat.zero_add, Nat.reduceAdd] at hf6_5); replace p6 := eq_true p6; replace q6 := eq_true q6; have HX22 := Aside0.mk (show Kd.R k62 62 w20 w.heap.size (fun _ => True) (.slice (some ⟨go3, 0, none⟩) y212.length co10) y217 from (by (with_reducible repeat (first | apply Kd.R_alloc | apply Kd.R_drewN | apply Kd.R_drew)); exact HO214.out)); obtain ⟨ce22, hcl22, hM22, hcc22, hfr22⟩ := Kd.R_elem HX22.out z62 (1 : Int) (by omega) (by have h_ : (1 : Int) < ((y212.length : Int) : Int) := of_decide_eq_true (by first | (with_reducible assumption) | assumption); first | exact h_ | (have e_ := (Kd.R_reads' HO214.out).1; omega) | simpa using h_); obtain rfl := k62_openM hM22; have HP22 := Kd.R_seg HX22.out (1 : Int) (by omega) (by have h_ : (1 : Int) < ((y212.length : Int) : Int) := of_decide_eq_true (by first | (with_reducible assumption) | assumption); first | exact h_ | (have e_ := (Kd.R_reads' HO214.out).1; omega) | simpa using h_) (seg := [.int .i64 1]) (j := 5) hcl22 hcc22 (show 6 ≤ 6 from by decide) (x' := (⟨(rd_T62 y217 1).f0, (rd_T62 y217 1).f1, (rd_T62 y217 1).f2, (rd_T62 y217 1).f3, (rd_T62 y217 1).f4, 1⟩ : S62)) (k62_mkM _ _ _ (⟨(rd_T62 y217 1).f0, (rd_T62 y217 1).f1, (rd_T62 y217 1).f2, (rd_T62 y217 1).f3, (rd_T62 y217 1).f4, 1⟩ : S62) ) (fun _ hk => hk); have hx22_5 := hcc22 5 _ rfl; (try simp only [show (k62).sz = 6 from rfl, Nat.mul_one, Nat.add_zero] at hx22_5); (try rw [show ((1 : Int)).toNat = 1 from rfl] at hx22_5); (try simp only [Nat.reduceMul, Nat.zero_mul, Nat.zero_add, Nat.reduceAdd] at hx22_5); have hf22_5 := hfr22 5; (try simp only [show (k62).sz = 6 from rfl, Nat.mul_one, Nat.add_zero] at hf22_5); (try rw [show ((1 : Int)).toNat = 1 from rfl] at hf22_5); (try simp only [Nat.reduceMul, Nat.zero_mul, Nat.zero_add, Nat.reduceAdd] at hf22_5); (try clear hcl22); (try clear hcc22); (try clear hfr22); (try clear hM22)) | ((with_reducible refine gate_store (t := 3) (p := 15) rfl ?_); refine store_event (t := 3) (p := 15) (v := ?vo_w23) (w1 := (w20.setCell ⟨go3, 11, none⟩ (.int .i64 1))) ?hg ?ho ?hn ?hr ?_; (case ho => rfl); (case hg => rfl); (case hn => rfl); (case hr => first | (go_simp; done) | (go_simp; rfl)); intro w23 hw; have hg : w20.grownBy w23 (some go3) := (by rw [hw]; exact HP22.2); have hp_ : Kd.R k62 62 w23 w.heap.size (fun _ => True) (.slice (some ⟨go3, 0, none⟩) y212.length co10) y218 := (by rw [hw, Ny218.out]; exact HP22.1); clear HP22; have n0_ := Aside0.mk (blk_grown (g := gb211) (o := .cells #[.slice none 0 0, .int .i64 0, .int .i64 0, .int .i64 0] 29 (0, 0)) (by (with_reducible repeat (first | refine blk_drewN ?_ _ | refine blk_drew ?_ | refine blk_alloc ?_ _)); exact BK211.out) hg (Kd.R_ne HO214.out BK211.out (by decide))); have n1_ := Aside0.mk (hp_); have n2_ := Aside0.mk (blk_grown (g := gb215) (o := .cells #[.slice (some ⟨go3, 0, none⟩) y212.length co10, .int .i64 0, .int .i64 1, .int .i64 1] 29 (0, 0)) (by (with_reducible repeat (first | refine blk_drewN ?_ _ | refine blk_drew ?_ | refine blk_alloc ?_ _)); exact BK215.out) hg (Kd.R_ne HO214.out BK215.out (by decide))); have n3_ := Aside0.mk ((by rw [hw]; exact below_set (HB.out) GB3.out : Below w.heap.size w w23)); clear BK211; clear HO214; clear BK215; clear HB; have BK211 := n0_; have HO214 := n1_; have BK215 := n2_; have HB := n3_; clear n0_ n1_ n2_ n3_; clear hg hw hp_; have hcz24_0 : w23.cell? ⟨gb215, 0, none⟩ = some (.slice (some ⟨go3, 0, none⟩) y212.length co10) := (blk_cell BK215.out 0).trans rfl; have hcz24_1 : w23.cell? ⟨gb215, 1, none⟩ = some (.int .i64 0) := (blk_cell BK215.out 1).trans rfl; have hcz24_2 : w23.cell? ⟨gb215, 2, none⟩ = some (.int .i64 1) := (blk_cell BK215.out 2).trans rfl; have hcz24_3 : w23.cell? ⟨gb215, 3, none⟩ = some (.int .i64 1) := (blk_cell BK215.out 3).trans rfl; have hfz24_0 := blk_frozen BK215.out 0; have hfz24_1 := blk_frozen BK215.out 1; have hfz24_2 := blk_frozen BK215.out 2; have hfz24_3 := blk_frozen BK215.out 3; have hcz25_0 : w23.cell? ⟨gb211, 0, none⟩ = some (.slice none 0 0) := (blk_cell BK211.out 0).trans rfl; have hcz25_1 : w23.cell? ⟨gb211, 1, none⟩ = some (.int .i64 0) := (blk_cell BK211.out 1).trans rfl; have hcz25_2 : w23.cell? ⟨gb211, 2, none⟩ = some (.int .i64 0) := (blk_cell BK211.out 2).trans rfl; have hcz25_3 : w23.cell? ⟨gb211, 3, none⟩ = some (.int .i64 0) := (blk_cell BK211.out 3).trans rfl; have hfz25_0 := blk_frozen BK211.out 0; have hfz25_1 := blk_frozen BK211.out 1; have hfz25_2 := blk_frozen BK211.out 2; have hfz25_3 := blk_frozen BK211.out 3))
        refine bodyPost_ret (results_cell_row rfl _ _ gb211 29 #[.slice (some ⟨go3, 0, none⟩) y212.length co10, .int .i64 0, .int .i64 1, .int .i64 1] (0, 0) _ rfl (by (with_reducible repeat (first | refine blk_drewN ?_ _ | refine blk_drew ?_ | refine blk_alloc ?_ _)); refine blk_put (cs := #[.slice (some ⟨go3, 0, none⟩) y212.length co10, .int .i64 0, .int .i64 1, .int .i64 0]) ?_ 3 _ rfl; (with_reducible repeat (first | refine blk_drewN ?_ _ | refine blk_drew ?_ | refine blk_alloc ?_ _)); refine blk_put (cs := #[.slice (some ⟨go3, 0, none⟩) y212.length co10, .int .i64 0, .int .i64 0, .int .i64 0]) ?_ 2 _ rfl; (with_reducible repeat (first | refine blk_drewN ?_ _ | refine blk_drew ?_ | refine blk_alloc ?_ _)); refine blk_put (cs := #[.slice (some ⟨go3, 0, none⟩) y212.length co10, .int .i64 0, .int .i64 0, .int .i64 0]) ?_ 1 _ rfl; (with_reducible repeat (first | refine blk_drewN ?_ _ | refine blk_drew ?_ | refine blk_alloc ?_ _)); refine blk_put (cs := #[.slice none 0 0, .int .i64 0, .int .i64 0, .int .i64 0]) ?_ 0 _ rfl; (with_reducible repeat (first | refine blk_drewN ?_ _ | refine blk_drew ?_ | refine blk_alloc ?_ _)); exact BK211.out) Try.underlying29 rfl (by kernel_rfl)) rfl ?_
        exact ⟨_, by first | rfl | (simp [errW_none, errW_some] <;> rfl) | (simp [*, errW_none, errW_some] <;> rfl), by (with_reducible repeat (first | apply Kd.R_alloc | apply Kd.R_drewN | apply Kd.R_drew)); exact Kd.R_mono (Kd.R_far (p := ⟨gb211, 3, none⟩) (Kd.R_far (p := ⟨gb211, 2, none⟩) (Kd.R_far (p := ⟨gb211, 1, none⟩) (Kd.R_far (p := ⟨gb211, 0, none⟩) (Kd.R_types HO214.out BK211.out (by decide)) (fun _ hk => by first | exact hk.2 | trivial | simp [hk]) (.slice (some ⟨go3, 0, none⟩) y212.length co10)) (fun _ hk => by first | exact hk.2 | trivial | simp [hk]) (.int .i64 0)) (fun _ hk => by first | exact hk.2 | trivial | simp [hk]) (.int .i64 1)) (fun _ hk => by first | exact hk.2 | trivial | simp [hk]) (.int .i64 1)) (fun _ hk => trivial), by repeat (first | (with_reducible first | exact HB.out | apply below_alloc | apply pw_below_drewN | apply below_drew1 | refine below_set ?_ GE211.out | refine below_set ?_ GE215.out) | exact HB.out)⟩
      · rw [if_neg c4] at H
        exact absurd H (by simp)
    · rw [if_neg c2] at H
      exact absurd H (by simp)
  · rw [if_neg c1] at H
    exact absurd H (by simp)

/-! ### impl_PolNew: function 19 -/
def impl_PolNew.f  : Option (Int × List Int × (List (List (S74)))) := if 3 ≤ 35184372088832 then (if 3 ≤ 11728124029610 then (some (0, (List.replicate 3 0), (List.replicate 3 []))) else (none)) else (none)
set_option maxHeartbeats 8000000 in
set_option maxRecDepth 100000 in
theorem impl_PolNew.calls  (r1 : Int) (r2 : List Int) (r3 : List (List (S74))) (w : World) (h : impl_PolNew.f  = some (r1, r2, r3)) :
    Calls Try.prog 19 #[] w fun e w' => ∃ v1_ v2_ : Value, e = .returned (.agg #[.int .i64 r1, v1_, v2_]) ∧ Kd.R (Kd.int .i64) 3 w' w.heap.size (fun _ => True) v1_ r2 ∧ Kd.S (Kd.slice 74 k74) 72 w' w.heap.size (fun _ => True) v2_ r3 ∧ Below w.heap.size w w' := by
  have hu42 := Try.underlying42
  have HB := Aside0.mk (Below.refl w.heap.size w)
  have H : (if 3 ≤ 35184372088832 then (if 3 ≤ 11728124029610 then (some (0, (List.replicate 3 0), (List.replicate 3 []))) else (none)) else (none)) = some (r1, r2, r3) := h
  clear h
  by_cases c1 : 3 ≤ 35184372088832
  · rw [if_pos c1] at H
    have c1b0 := eq_true c1
    have c1b1 : decide (3 ≤ 35184372088832) = true := decide_eq_true c1
    clear c1
    obtain ⟨y220, hy220⟩ : ∃ y_ : List Int, y_ = (List.replicate 3 0) := ⟨_, rfl⟩
    replace H : (if 3 ≤ 11728124029610 then (some (0, y220, (List.replicate 3 []))) else (none)) = some (r1, r2, r3) := by first | (rw [hy220]; with_reducible exact H) | (have H2_ := (Option.bind_some _ _).symm.trans H; rw [hy220]; with_reducible exact H2_) | (have H2_ := (Option.bind_some _ _).symm.trans H; with_reducible exact H2_) | with_reducible exact H | (rw [hy220]; exact H) | exact H
    have Ny220 := Aside0.mk hy220
    clear hy220
    by_cases c2 : 3 ≤ 11728124029610
    · rw [if_pos c2] at H
      have c2b0 := eq_true c2
      have c2b1 : decide (3 ≤ 11728124029610) = true := decide_eq_true c2
      clear c2
      obtain ⟨y223, hy223⟩ : ∃ y_ : List (List (S74)), y_ = (List.replicate 3 []) := ⟨_, rfl⟩
      replace H : (some (0, y220, y223)) = some (r1, r2, r3) := by first | (rw [hy223]; with_reducible exact H) | (have H2_ := (Option.bind_some _ _).symm.trans H; rw [hy223]; with_reducible exact H2_) | (have H2_ := (Option.bind_some _ _).symm.trans H; with_reducible exact H2_) | with_reducible exact H | (rw [hy223]; exact H) | exact H
      have Ny223 := Aside0.mk hy223
      clear hy223
      simp only [Option.some.injEq, Prod.mk.injEq] at H
      obtain ⟨rfl, rfl, rfl⟩ := H
      go_enter Try.func19, Try.ntmps19
      try go_wp2_with (first | ((with_reducible refine gate_dst (N := 0) rfl ?_); refine box_event ?hg (N := 0) ?hd (cs := #[.int .i64 0, .slice none 0 0, .slice none 0 0]) (t := 42) ?hr ?_; (case hd => rfl); (case hg => rfl); (case hr => first | (go_simp; done) | (go_simp; rfl)); intro gb219 hg w3 hbox hb; have n0_ := Aside0.mk (below_step (by repeat (first | (with_reducible first | exact HB.out | apply below_alloc | apply pw_below_drewN | apply below_drew1) | exact HB.out)) hb); have n1_ := Aside0.mk (hbox); have n2_ := Aside0.mk ((by rw [hg]; exact (below_size (by repeat (first | (with_reducible first | exact HB.out | apply below_alloc | apply pw_below_drewN | apply below_drew1) | exact HB.out))) : w.heap.size ≤ gb219)); have n3_ := Aside0.mk ((by rw [hg]; exact (below_size (by repeat (first | (with_reducible first | exact HB.out | apply below_alloc | apply pw_below_drewN | apply below_drew1) | exact HB.out))) : w.heap.size ≤ gb219)); clear HB; have HB := n0_; have BK219 := n1_; have GW219 := n2_; have GE219 := n3_; clear n0_ n1_ n2_ n3_; clear hb hbox hg))
      have n0_ := Aside0.mk (blk_drew BK219.out)
      have n1_ := Aside0.mk (below_drew1 HB.out)
      clear BK219
      clear HB
      have BK219 := n0_
      have HB := n1_
      clear n0_ n1_
      refine start_ (n := 4) (S := fun w' => True) (ds := []) #[false, false, false, false] (by kernel_rfl) rfl rfl trivial (fun hHeld => ?_)
      generalize w3.drew = w4 at BK219 HB hHeld ⊢
      refine join_ (σ := Value × Value) 2 #[true, true, false, false] (fun s_ => [(1, s_.1), (2, s_.2)]) (fun s_ w' => (Kd.R (Kd.int .i64) 3 w' w.heap.size (fun _ => True) s_.1 y220) ∧ (Kd.S (Kd.slice 74 k74) 72 w' w.heap.size (fun _ => True) s_.2 y223) ∧ (w'.heap[gb219]? = some (.cells #[.int .i64 0, .slice none 0 0, .slice none 0 0] 42 (0, 0))) ∧ (Below w.heap.size w w')) ?_ ?_
      rotate_left
      · intro hCont
        refine two_ (i := 0) (j := 1) (Ni := some 1) (Nj := some 2) #[true, false, false, false] #[false, true, false, false] rfl rfl rfl rfl (by kernel_rfl) (by decide) (by decide) (fun K hK => ?_) (fun K hK => ?_)
        · skip
          refine Kd.R_make_step (Kd.int .i64) _ 3 (by rfl) (N := 1) rfl 33 _ _ rfl 3 rfl rfl Try.underlying33 (.int .i64 0) 8 info3 rfl (by decide) (by omega) 0 (ok := fun _ => True) (okp := fun _ => True) rfl (fun _ hk => hk) trivial (by omega) (by omega) (Below.refl _ _) (Nat.le_refl _) ?_
          intro v221 w5 ho6 hb hg_ hnew_
          clear hg_ hnew_
          (first | rw [← Ny220.out] at ho6 | (simp only [Int.reduceToNat] at ho6; rw [← Ny220.out] at ho6))
          have n0_ := Aside0.mk (Kd.R_lower ho6 (below_size (by repeat (first | (with_reducible first | exact HB.out | apply below_alloc | apply pw_below_drewN | apply below_drew1 | refine below_set ?_ GE219.out) | exact HB.out))))
          have n1_ := Aside0.mk (blk_below (g := gb219) (o := .cells #[.int .i64 0, .slice none 0 0, .slice none 0 0] 42 (0, 0)) (by (with_reducible repeat (first | refine blk_drewN ?_ _ | refine blk_drew ?_ | refine blk_alloc ?_ _)); exact BK219.out) hb)
          have n2_ := Aside0.mk (below_step (by repeat (first | (with_reducible first | exact HB.out | apply below_alloc | apply pw_below_drewN | apply below_drew1 | refine below_set ?_ GE219.out) | exact HB.out)) hb)
          clear BK219
          clear HB
          have HO222 := n0_
          have BK219 := n1_
          have HB := n2_
          clear n0_ n1_ n2_
          clear hb ho6
          refine hK.out _ _ trivial (fun hHeld => ?_)
          clear hK K
          refine norm_ (a' := ?_) ?_ ?_
          rotate_left
          · show Act.put _ (some 1) _ = _
            simp only [Act.put, List.setIfInBounds_toArray, List.set_cons_zero, List.set_cons_succ, i64_w, i32_w]
            rfl
          refine one_ (i := 1) (N := some 2) #[true, true, false, false] rfl rfl (by kernel_rfl) (by decide) (fun K hK => ?_)
          refine Kd.S_make_step (Kd.slice 74 k74) _ 72 (by rfl) (N := 2) rfl 40 _ _ rfl 3 rfl rfl Try.underlying40 (.slice none 0 0) 24 info72 rfl (by decide) (by omega) [] (ok := fun _ => True) (okp := fun _ => True) ⟨_, rfl, Kd.R_nil _ _ _ _ _⟩ (fun _ hk => hk) trivial (by omega) (by omega) (Below.refl _ _) (Nat.le_refl _) ?_
          intro v224 w7 ho8 hb hg_ hnew_
          clear hg_ hnew_
          (first | rw [← Ny223.out] at ho8 | (simp only [Int.reduceToNat] at ho8; rw [← Ny223.out] at ho8))
          have n0_ := Aside0.mk (Kd.R_below (by (with_reducible repeat (first | apply Kd.R_alloc | apply Kd.R_drewN | apply Kd.R_drew)); exact HO222.out) hb)
          have n1_ := Aside0.mk (Kd.S_lower ho8 (below_size (by repeat (first | (with_reducible first | exact HB.out | apply below_alloc | apply pw_below_drewN | apply below_drew1 | refine below_set ?_ GE219.out) | exact HB.out))))
          have n2_ := Aside0.mk (blk_below (g := gb219) (o := .cells #[.int .i64 0, .slice none 0 0, .slice none 0 0] 42 (0, 0)) (by (with_reducible repeat (first | refine blk_drewN ?_ _ | refine blk_drew ?_ | refine blk_alloc ?_ _)); exact BK219.out) hb)
          have n3_ := Aside0.mk (below_step (by repeat (first | (with_reducible first | exact HB.out | apply below_alloc | apply pw_below_drewN | apply below_drew1 | refine below_set ?_ GE219.out) | exact HB.out)) hb)
          clear HO222
          clear BK219
          clear HB
          have HO222 := n0_
          have HO225 := n1_
          have BK219 := n2_
          have HB := n3_
          clear n0_ n1_ n2_ n3_
          clear hb ho8
          obtain ⟨Ao9, co9, eo9⟩ := Kd.S_slice HO225.out
          (first | subst eo9 | (injection eo9 with f1_ f2_ f3_; have f4_ := f1_.symm; have f5_ := f3_.symm; clear f1_ f2_ f3_; subst f4_; subst f5_))
          obtain ⟨Ao10, co10, eo10⟩ := Kd.R_slice HO222.out
          (first | subst eo10 | (injection eo10 with f1_ f2_ f3_; have f4_ := f1_.symm; have f5_ := f3_.symm; clear f1_ f2_ f3_; subst f4_; subst f5_))
          refine hK.out _ _ trivial (fun hHeld => ?_)
          clear hK K
          refine norm_ (a' := ?_) ?_ ?_
          rotate_left
          · show Act.put _ (some 2) _ = _
            simp only [Act.put, List.setIfInBounds_toArray, List.set_cons_zero, List.set_cons_succ, i64_w, i32_w]
            rfl
          exact norm_ (by simp only [putAll, Act.put, List.setIfInBounds_toArray, List.set_cons_zero, List.set_cons_succ]) (hCont (.slice Ao10 y220.length co10, .slice Ao9 y223.length co9) _ ⟨(by (with_reducible repeat (first | apply Kd.R_alloc | apply Kd.R_drewN | apply Kd.R_drew)); exact HO222.out), (by (with_reducible repeat (first | apply Kd.S_alloc | apply Kd.S_drewN | apply Kd.S_drew)); exact HO225.out), (by (with_reducible repeat (first | refine blk_drewN ?_ _ | refine blk_drew ?_ | refine blk_alloc ?_ _)); exact BK219.out), (by repeat (first | (with_reducible first | exact HB.out | apply below_alloc | apply pw_below_drewN | apply below_drew1 | refine below_set ?_ GE219.out) | exact HB.out))⟩)
        · skip
          refine Kd.S_make_step (Kd.slice 74 k74) _ 72 (by rfl) (N := 2) rfl 40 _ _ rfl 3 rfl rfl Try.underlying40 (.slice none 0 0) 24 info72 rfl (by decide) (by omega) [] (ok := fun _ => True) (okp := fun _ => True) ⟨_, rfl, Kd.R_nil _ _ _ _ _⟩ (fun _ hk => hk) trivial (by omega) (by omega) (Below.refl _ _) (Nat.le_refl _) ?_
          intro v224 w5 ho6 hb hg_ hnew_
          clear hg_ hnew_
          (first | rw [← Ny223.out] at ho6 | (simp only [Int.reduceToNat] at ho6; rw [← Ny223.out] at ho6))
          have n0_ := Aside0.mk (Kd.S_lower ho6 (below_size (by repeat (first | (with_reducible first | exact HB.out | apply below_alloc | apply pw_below_drewN | apply below_drew1 | refine below_set ?_ GE219.out) | exact HB.out))))
          have n1_ := Aside0.mk (blk_below (g := gb219) (o := .cells #[.int .i64 0, .slice none 0 0, .slice none 0 0] 42 (0, 0)) (by (with_reducible repeat (first | refine blk_drewN ?_ _ | refine blk_drew ?_ | refine blk_alloc ?_ _)); exact BK219.out) hb)
          have n2_ := Aside0.mk (below_step (by repeat (first | (with_reducible first | exact HB.out | apply below_alloc | apply pw_below_drewN | apply below_drew1 | refine below_set ?_ GE219.out) | exact HB.out)) hb)
          clear BK219
          clear HB
          have HO225 := n0_
          have BK219 := n1_
          have HB := n2_
          clear n0_ n1_ n2_
          clear hb ho6
          refine hK.out _ _ trivial (fun hHeld => ?_)
          clear hK K
          refine norm_ (a' := ?_) ?_ ?_
          rotate_left
          · show Act.put _ (some 2) _ = _
            simp only [Act.put, List.setIfInBounds_toArray, List.set_cons_zero, List.set_cons_succ, i64_w, i32_w]
            rfl
          refine one_ (i := 0) (N := some 1) #[true, true, false, false] rfl rfl (by kernel_rfl) (by decide) (fun K hK => ?_)
          refine Kd.R_make_step (Kd.int .i64) _ 3 (by rfl) (N := 1) rfl 33 _ _ rfl 3 rfl rfl Try.underlying33 (.int .i64 0) 8 info3 rfl (by decide) (by omega) 0 (ok := fun _ => True) (okp := fun _ => True) rfl (fun _ hk => hk) trivial (by omega) (by omega) (Below.refl _ _) (Nat.le_refl _) ?_
          intro v221 w7 ho8 hb hg_ hnew_
          clear hg_ hnew_
          (first | rw [← Ny220.out] at ho8 | (simp only [Int.reduceToNat] at ho8; rw [← Ny220.out] at ho8))
          have n0_ := Aside0.mk (Kd.S_below (by (with_reducible repeat (first | apply Kd.S_alloc | apply Kd.S_drewN | apply Kd.S_drew)); exact HO225.out) hb)
          have n1_ := Aside0.mk (Kd.R_lower ho8 (below_size (by repeat (first | (with_reducible first | exact HB.out | apply below_alloc | apply pw_below_drewN | apply below_drew1 | refine below_set ?_ GE219.out) | exact HB.out))))
          have n2_ := Aside0.mk (blk_below (g := gb219) (o := .cells #[.int .i64 0, .slice none 0 0, .slice none 0 0] 42 (0, 0)) (by (with_reducible repeat (first | refine blk_drewN ?_ _ | refine blk_drew ?_ | refine blk_alloc ?_ _)); exact BK219.out) hb)
          have n3_ := Aside0.mk (below_step (by repeat (first | (with_reducible first | exact HB.out | apply below_alloc | apply pw_below_drewN | apply below_drew1 | refine below_set ?_ GE219.out) | exact HB.out)) hb)
          clear HO225
          clear BK219
          clear HB
          have HO225 := n0_
          have HO222 := n1_
          have BK219 := n2_
          have HB := n3_
          clear n0_ n1_ n2_ n3_
          clear hb ho8
          obtain ⟨Ao9, co9, eo9⟩ := Kd.S_slice HO225.out
          (first | subst eo9 | (injection eo9 with f1_ f2_ f3_; have f4_ := f1_.symm; have f5_ := f3_.symm; clear f1_ f2_ f3_; subst f4_; subst f5_))
          obtain ⟨Ao10, co10, eo10⟩ := Kd.R_slice HO222.out
          (first | subst eo10 | (injection eo10 with f1_ f2_ f3_; have f4_ := f1_.symm; have f5_ := f3_.symm; clear f1_ f2_ f3_; subst f4_; subst f5_))
          refine hK.out _ _ trivial (fun hHeld => ?_)
          clear hK K
          refine norm_ (a' := ?_) ?_ ?_
          rotate_left
          · show Act.put _ (some 1) _ = _
            simp only [Act.put, List.setIfInBounds_toArray, List.set_cons_zero, List.set_cons_succ, i64_w, i32_w]
            rfl
          exact norm_ (by simp only [putAll, Act.put, List.setIfInBounds_toArray, List.set_cons_zero, List.set_cons_succ]) (hCont (.slice Ao10 y220.length co10, .slice Ao9 y223.length co9) _ ⟨(by (with_reducible repeat (first | apply Kd.R_alloc | apply Kd.R_drewN | apply Kd.R_drew)); exact HO222.out), (by (with_reducible repeat (first | apply Kd.S_alloc | apply Kd.S_drewN | apply Kd.S_drew)); exact HO225.out), (by (with_reducible repeat (first | refine blk_drewN ?_ _ | refine blk_drew ?_ | refine blk_alloc ?_ _)); exact BK219.out), (by repeat (first | (with_reducible first | exact HB.out | apply below_alloc | apply pw_below_drewN | apply below_drew1 | refine below_set ?_ GE219.out) | exact HB.out))⟩)
      rintro ⟨v221, v224⟩ w11 ⟨h0_, h1_, h2_, h3_⟩
      have n0_ : Aside0 (Kd.R (Kd.int .i64) 3 w11 w.heap.size (fun _ => True) v221 y220) := ⟨h0_⟩
      have n1_ : Aside0 (Kd.S (Kd.slice 74 k74) 72 w11 w.heap.size (fun _ => True) v224 y223) := ⟨h1_⟩
      have n2_ : Aside0 (w11.heap[gb219]? = some (.cells #[.int .i64 0, .slice none 0 0, .slice none 0 0] 42 (0, 0))) := ⟨h2_⟩
      have n3_ : Aside0 (Below w.heap.size w w11) := ⟨h3_⟩
      clear BK219
      clear HB
      clear h0_ h1_ h2_ h3_
      have HO222 := n0_
      have HO225 := n1_
      have BK219 := n2_
      have HB := n3_
      clear n0_ n1_ n2_ n3_
      have hHeld := trivial
      obtain ⟨Ao12, co12, eo12⟩ := Kd.S_slice HO225.out
      (first | subst eo12 | (injection eo12 with f1_ f2_ f3_; have f4_ := f1_.symm; have f5_ := f3_.symm; clear f1_ f2_ f3_; subst f4_; subst f5_))
      obtain ⟨Ao13, co13, eo13⟩ := Kd.R_slice HO222.out
      (first | subst eo13 | (injection eo13 with f1_ f2_ f3_; have f4_ := f1_.symm; have f5_ := f3_.symm; clear f1_ f2_ f3_; subst f4_; subst f5_))
      refine norm_ (a' := ?_) ?_ ?_
      rotate_left
      · simp only [putAll, Act.put, List.setIfInBounds_toArray, List.set_cons_zero, List.set_cons_succ]
        rfl
      refine pure_ (i := 2) (N := some 3) (v := ?_) (a' := ?_) #[true, true, true, false] rfl rfl (by kernel_rfl) (fun _ _ _ h => h) (Or.inl ⟨by rfl, ?_⟩) ?_ ?_
      rotate_left
      · intro w'
        go_simp
        with_reducible rfl
      rotate_left
      · simp only [Act.put, List.setIfInBounds_toArray, List.set_cons_zero, List.set_cons_succ, i64_w, i32_w]
        rfl
      refine one_ (i := 3) (N := none) #[true, true, true, true] rfl rfl (by kernel_rfl) (by decide) (fun K hK => ?_)
      have hs14 : w11.cell? ⟨gb219, 0, none⟩ = some (.int .i64 0) := (blk_cell BK219.out 0).trans rfl
      have hfs14 := blk_frozen BK219.out 0
      have hs15 : w11.cell? ⟨gb219, 1, none⟩ = some (.slice none 0 0) := (blk_cell BK219.out 1).trans rfl
      have hfs15 := blk_frozen BK219.out 1
      have hs16 : w11.cell? ⟨gb219, 2, none⟩ = some (.slice none 0 0) := (blk_cell BK219.out 2).trans rfl
      have hfs16 := blk_frozen BK219.out 2
      refine skip_ (w1 := ?_) (by rfl) rfl ?_ ?_
      rotate_left
      · go_simp
        rfl
      refine hK.out _ _ trivial (fun hHeld => ?_)
      clear hK K
      refine done_ (by kernel_rfl) ?_
      try go_wp2
      refine bodyPost_ret (results_cell_row rfl _ _ gb219 42 #[.int .i64 0, .slice Ao13 y220.length co13, .slice Ao12 y223.length co12] (0, 0) _ rfl (by (with_reducible repeat (first | refine blk_drewN ?_ _ | refine blk_drew ?_ | refine blk_alloc ?_ _)); refine blk_put (cs := #[.int .i64 0, .slice Ao13 y220.length co13, .slice none 0 0]) ?_ 2 _ rfl; (with_reducible repeat (first | refine blk_drewN ?_ _ | refine blk_drew ?_ | refine blk_alloc ?_ _)); refine blk_put (cs := #[.int .i64 0, .slice none 0 0, .slice none 0 0]) ?_ 1 _ rfl; (with_reducible repeat (first | refine blk_drewN ?_ _ | refine blk_drew ?_ | refine blk_alloc ?_ _)); refine blk_put (cs := #[.int .i64 0, .slice none 0 0, .slice none 0 0]) ?_ 0 _ rfl; (with_reducible repeat (first | refine blk_drewN ?_ _ | refine blk_drew ?_ | refine blk_alloc ?_ _)); exact BK219.out) Try.underlying42 rfl (by kernel_rfl)) rfl ?_
      exact ⟨_, _, by first | rfl | (simp [errW_none, errW_some] <;> rfl) | (simp [*, errW_none, errW_some] <;> rfl), by (with_reducible repeat (first | apply Kd.R_alloc | apply Kd.R_drewN | apply Kd.R_drew)); exact Kd.R_mono (Kd.R_far (p := ⟨gb219, 2, none⟩) (Kd.R_far (p := ⟨gb219, 1, none⟩) (Kd.R_far (p := ⟨gb219, 0, none⟩) (Kd.R_types HO222.out BK219.out (by decide)) (fun _ hk => by first | exact hk.2 | trivial | simp [hk]) (.int .i64 0)) (fun _ hk => by first | exact hk.2 | trivial | simp [hk]) (.slice Ao13 y220.length co13)) (fun _ hk => by first | exact hk.2 | trivial | simp [hk]) (.slice Ao12 y223.length co12)) (fun _ hk => trivial), by (with_reducible repeat (first | apply Kd.S_alloc | apply Kd.S_drewN | apply Kd.S_drew)); exact Kd.S_mono (Kd.S_far (p := ⟨gb219, 2, none⟩) (Kd.S_far (p := ⟨gb219, 1, none⟩) (Kd.S_far (p := ⟨gb219, 0, none⟩) (Kd.S_types HO225.out BK219.out (by decide)) (fun _ hk => by first | exact hk.2 | trivial | simp [hk]) (.int .i64 0)) (fun _ hk => by first | exact hk.2 | trivial | simp [hk]) (.slice Ao13 y220.length co13)) (fun _ hk => by first | exact hk.2 | trivial | simp [hk]) (.slice Ao12 y223.length co12)) (fun _ hk => trivial), by repeat (first | (with_reducible first | exact HB.out | apply below_alloc | apply pw_below_drewN | apply below_drew1 | refine below_set ?_ GE219.out) | exact HB.out)⟩
    · rw [if_neg c2] at H
      exact absurd H (by simp)
  · rw [if_neg c1] at H
    exact absurd H (by simp)

end Go.Proofs.Ytenehkjbopdapaa.GFnArnNew
