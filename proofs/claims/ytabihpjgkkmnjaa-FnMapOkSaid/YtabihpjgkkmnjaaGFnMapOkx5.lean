/- The functions that the law reaches, as plain Lean functions, and that the machine comes to their answers: laid by a program of this session. Conditions: none. -/
import Derived.Test.YtabihpjgkkmnjaaGFnMapOkx0
import Derived.Test.YtabihpjgkkmnjaaGFnMapOkx1
import Derived.Test.YtabihpjgkkmnjaaGFnMapOkx2
import Derived.Test.YtabihpjgkkmnjaaGFnMapOkx4
namespace Go.Proofs.Ytabihpjgkkmnjaa.GFnMapOk
open Go.RowKit Go.Proofs.YtabihpjgkkmnjaaW.PrintWords Go.Proofs.YtabihpjgkkmnjaaW.PrintLast Go.Proofs.YtabihpjgkkmnjaaW.PrintMore
attribute [local go_sem] max2_int min2_int max_two min_two max_three min_three max_four min_four   -- for this text's walks alone
set_option linter.unusedVariables false
set_option linter.unusedSimpArgs false

/-! ### spec_DrawMapOk: function 28 -/
def spec_DrawMapOk.f (k : Nat) (l0 : List Int) : Option ((List (S39))) := (spec_l20Open.f l0).bind fun bt257 => ((spec_l20Map.f k bt257.1 bt257.2 2).bind fun bt260 => (some bt260.1))
theorem spec_DrawMapOk.mono : ∀ a0 k, LeO (spec_DrawMapOk.f k a0) (spec_DrawMapOk.f (k + 1) a0) := by
  intro a0 k
  unfold spec_DrawMapOk.f
  repeat' first
      | (with_reducible exact spec_l20Map.mono _ _ _ _)
      | (with_reducible exact LeO.refl _)
      | (with_reducible exact LeO.none _)
      | (with_reducible refine LeO.ite ?_ ?_)
      | (with_reducible refine LeO.bind ?_ (fun _ => ?_))
      | exact spec_l20Map.mono _ _ _ _
      | exact LeO.none _
      | refine LeO.ite ?_ ?_
      | refine LeO.bind ?_ (fun _ => ?_)
set_option maxHeartbeats 8000000 in
set_option maxRecDepth 100000 in
theorem spec_DrawMapOk.calls (k : Nat) (A0 : Option Addr) (c0 : Nat) (l0 : List Int) (r : List (S39)) (w : World) (hr0 : Kd.C (Kd.int .u8) w A0 l0.length l0) (hc0 : l0.length ≤ c0) (h : spec_DrawMapOk.f k l0 = some r) :
    Calls Try.prog 28 #[.slice A0 l0.length c0] w fun e w' => ∃ v0_ : Value, e = .returned (.agg #[v0_]) ∧ Kd.R k39 39 w' w.heap.size (fun _ => True) v0_ r ∧ Below w.heap.size w w' := by
  have hu25 := Try.underlying25
  have HR0 := Aside0.mk hr0
  have HC0 := Aside0.mk hc0
  clear hr0 hc0
  have HB := Aside0.mk (Below.refl w.heap.size w)
  have H : ((spec_l20Open.f l0).bind fun bt257 => ((spec_l20Map.f k bt257.1 bt257.2 2).bind fun bt260 => (some bt260.1))) = some r := h
  clear h
  replace H := Option.bind_eq_some_iff.mp H
  obtain ⟨⟨t257, t258⟩, A20, H⟩ := H
  replace H : ((spec_l20Map.f k t257 t258 2).bind fun bt260 => (some bt260.1)) = some r := H
  have A2 := Aside0.mk A20
  clear A20
  replace H := Option.bind_eq_some_iff.mp H
  obtain ⟨⟨t260, t263⟩, A30, H⟩ := H
  replace H : (some t260) = some r := H
  have A3 := Aside0.mk A30
  clear A30
  obtain rfl := Option.some.inj H
  go_enter Try.func28, Try.ntmps28
  go_wp2_with (first | ((with_reducible refine gate_dst (N := 2) rfl ?_); refine box_event ?hg (N := 2) ?hd (cs := #[.slice none 0 0]) (t := 25) ?hr ?_; (case hd => rfl); (case hg => rfl); (case hr => first | (go_simp; done) | (go_simp; rfl)); intro gb256 hg w4 hbox hb; have n0_ := Aside0.mk (below_step (by repeat (first | (with_reducible first | exact HB.out | apply below_alloc | apply pw_below_drewN | apply below_drew1) | exact HB.out)) hb); have n1_ := Aside0.mk (hbox); have n2_ := Aside0.mk ((by rw [hg]; exact (below_size (by repeat (first | (with_reducible first | exact HB.out | apply below_alloc | apply pw_below_drewN | apply below_drew1) | exact HB.out))) : w.heap.size ≤ gb256)); have n3_ := Aside0.mk ((by rw [hg]; exact (below_size (by repeat (first | (with_reducible first | exact HB.out | apply below_alloc | apply pw_below_drewN | apply below_drew1) | exact HB.out))) : w.heap.size ≤ gb256)); clear HB; have HB := n0_; have BK256 := n1_; have GW256 := n2_; have GE256 := n3_; clear n0_ n1_ n2_ n3_; clear hb hbox hg) | ((with_reducible refine gate_callee (f := 48) rfl ?_); refine goesL_ (some 4) rfl rfl Try.func48 (by kernel_rfl) rfl #[.slice A0 l0.length c0] rfl (by (try simp only [List.map_toArray, List.map_cons, List.map_nil]); first | done | rfl | (simp only [List.length_drop, List.length_take]; rfl)) ?_; (with_reducible refine (spec_l20Open.calls _ _ l0 t257 t258 w _ ?side1 ?side2 ?side3 A2.out).mono ?_); (case side1 => repeat (first | (with_reducible first | exact HB.out | apply below_alloc | apply pw_below_drewN | apply below_drew1 | refine below_set ?_ GE256.out) | exact HB.out)); (case side2 => exact HR0.out); (case side3 => exact HC0.out); rintro e w5 ⟨g259, rfl, hi, hb, hb2⟩; refine ⟨_, rfl, ?_⟩; have n0_ := Aside0.mk (blk_below (g := gb256) (o := .cells #[.slice none 0 0] 25 (0, 0)) (by (with_reducible repeat (first | refine blk_drewN ?_ _ | refine blk_drew ?_ | refine blk_alloc ?_ _)); exact BK256.out) hb2); have n1_ := Aside0.mk (hb); have n2_ := Aside0.mk (hi); have n3_ := Aside0.mk (IsS77.ne_blk hi (blk_below (g := gb256) (o := .cells #[.slice none 0 0] 25 (0, 0)) (by (with_reducible repeat (first | refine blk_drewN ?_ _ | refine blk_drew ?_ | refine blk_alloc ?_ _)); exact BK256.out) hb2) (by decide)); have n4_ := Aside0.mk (Ne.symm (IsS77.ne_blk hi (blk_below (g := gb256) (o := .cells #[.slice none 0 0] 25 (0, 0)) (by (with_reducible repeat (first | refine blk_drewN ?_ _ | refine blk_drew ?_ | refine blk_alloc ?_ _)); exact BK256.out) hb2) (by decide))); clear BK256; clear HB; have BK256 := n0_; have HB := n1_; have HI259 := n2_; have NB259_256 := n3_; have NB256_259 := n4_; clear n0_ n1_ n2_ n3_ n4_; (try clear hb); (try clear hb2); (try clear hk); (try clear hi)) | ((with_reducible refine gate_callee (f := 49) rfl ?_); refine goesL_ (some 5) rfl rfl Try.func49 (by kernel_rfl) rfl #[.pointer (some ⟨g259, 0, none⟩), .int .i64 2] rfl (by (try simp only [List.map_toArray, List.map_cons, List.map_nil]); first | done | rfl | (simp only [List.length_drop, List.length_take]; rfl)) ?_; (with_reducible refine (spec_l20Map.calls k g259 t257 t258 2 t260 t263 w _ ?side1 ?side2 A3.out).mono ?_); (case side1 => repeat (first | (with_reducible first | exact HI259.out | apply IsS77.alloc | apply IsS77.drewN | apply IsS77.drew | apply IsS77.set_1 | refine IsS77.far ?_ NB259_256.out _) | exact HI259.out)); (case side2 => repeat (first | (with_reducible first | exact HB.out | apply below_alloc | apply pw_below_drewN | apply below_drew1 | refine below_set ?_ (IsS77.ge HI259.out) | refine below_set ?_ GE256.out) | exact HB.out)); rintro e w6 ⟨v261, rfl, ho0, hi, hb, hk⟩; refine ⟨_, rfl, ?_⟩; have n0_ := Aside0.mk (KeepBut.blk hk (g' := gb256) (o := .cells #[.slice none 0 0] 25 (0, 0)) (by (with_reducible repeat (first | refine blk_drewN ?_ _ | refine blk_drew ?_ | refine blk_alloc ?_ _)); exact BK256.out) NB256_259.out (by simp)); have n1_ := Aside0.mk (Kd.R_lower ho0 (below_size (by repeat (first | (with_reducible first | exact HB.out | apply below_alloc | apply pw_below_drewN | apply below_drew1 | refine below_set ?_ (IsS77.ge HI259.out) | refine below_set ?_ GE256.out) | exact HB.out)))); have n2_ := Aside0.mk (hb); have n3_ := Aside0.mk (hi); clear BK256; clear HB; clear HI259; have BK256 := n0_; have HO262 := n1_; have HB := n2_; have HI259 := n3_; clear n0_ n1_ n2_ n3_; (try clear hb); (try clear hb2); (try clear hk); (try clear hi); (try clear ho0); obtain ⟨Ao7, co7, eo7⟩ := Kd.R_slice HO262.out; subst eo7; have hnb8 := NB256_259.out; have hnc8 := NB259_256.out; have hcz9_0 : w6.cell? ⟨gb256, 0, none⟩ = some (.slice none 0 0) := (blk_cell BK256.out 0).trans rfl; have hfz9_0 := blk_frozen BK256.out 0))
  refine bodyPost_ret (results_cell_row rfl _ _ gb256 25 #[.slice Ao7 t260.length co7] (0, 0) _ rfl (by (with_reducible repeat (first | refine blk_drewN ?_ _ | refine blk_drew ?_ | refine blk_alloc ?_ _)); refine blk_put (cs := #[.slice none 0 0]) ?_ 0 _ rfl; (with_reducible repeat (first | refine blk_drewN ?_ _ | refine blk_drew ?_ | refine blk_alloc ?_ _)); exact BK256.out) Try.underlying25 rfl (by kernel_rfl)) rfl ?_
  exact ⟨_, by first | rfl | (simp [errW_none, errW_some] <;> rfl) | (simp [*, errW_none, errW_some] <;> rfl), by (with_reducible repeat (first | apply Kd.R_alloc | apply Kd.R_drewN | apply Kd.R_drew)); exact Kd.R_mono (Kd.R_far (p := ⟨gb256, 0, none⟩) (Kd.R_types HO262.out BK256.out (by decide)) (fun _ hk => by first | exact hk.2 | trivial | simp [hk]) (.slice Ao7 t260.length co7)) (fun _ hk => trivial), by repeat (first | (with_reducible first | exact HB.out | apply below_alloc | apply pw_below_drewN | apply below_drew1 | refine below_set ?_ (IsS77.ge HI259.out) | refine below_set ?_ GE256.out) | exact HB.out)⟩

/-! ### laws_FnMapOk: function 7 -/
def laws_FnMapOk.l0 : Nat → Bool → Int → List (S39) → Option (Bool)
  | 0, _, _, _ => none
  | k + 1, x4, x5, x268000 => if x4 = true then (if x5 < (x268000.length : Int) then (if 0 ≤ x5 then ((impl_MapDel.f k x268000 ((rd_T39 x268000 x5).f0)).bind fun bt271 => (if x5 ≤ (x268000.length : Int) then ((impl_MapOk.f k (x268000.take (x5 : Int).toNat)).bind fun t282 => (if t282 = true then ((impl_MapOk.f k bt271.1).bind fun t283 => (if t283 = true then (if (bt271.1.length : Int) = (wrap64 ((x268000.length : Int) - 1)) then (laws_FnMapOk.l0 k x4 (wrap64 (x5 + 1)) x268000) else (some false)) else (some false))) else (some false))) else (none))) else (none)) else (some true)) else (if (x268000.length : Int) > 0 then ((laws_tgOk.f k).bind fun t284 => (some t284)) else (some false))
def laws_FnMapOk.f (k : Nat) (l0 : List Int) : Option (Bool) := if (l0.length : Int) > 1048576 then (some true) else ((spec_DrawMapOk.f k l0).bind fun t264 => ((impl_MapOk.f k t264).bind fun t268 => ((spec_MapOk.f k t264).bind fun t269 => (if (t268 != t269) = true then (some false) else (laws_FnMapOk.l0 k t268 0 t264)))))
theorem laws_FnMapOk.mono_l : ∀ k, (∀ y0 y1 y2, LeO (laws_FnMapOk.l0 k y0 y1 y2) (laws_FnMapOk.l0 (k + 1) y0 y1 y2))
  | 0 => fun _ _ _ r h => by simp [laws_FnMapOk.l0] at h
  | k + 1 => by
    have ih0 := laws_FnMapOk.mono_l k
    · intro y0 y1 y2
      unfold laws_FnMapOk.l0
      repeat' first
      | (with_reducible exact ih0 _ _ _)
      | (with_reducible exact impl_MapDel.mono _ _ _)
      | (with_reducible exact impl_MapOk.mono _ _)
      | (with_reducible exact laws_tgOk.mono _)
      | (with_reducible exact spec_DrawMapOk.mono _ _)
      | (with_reducible exact spec_MapOk.mono _ _)
      | (with_reducible exact LeO.refl _)
      | (with_reducible exact LeO.none _)
      | (with_reducible refine LeO.ite ?_ ?_)
      | (with_reducible refine LeO.bind ?_ (fun _ => ?_))
      | exact ih0 _ _ _
      | exact impl_MapDel.mono _ _ _
      | exact impl_MapOk.mono _ _
      | exact laws_tgOk.mono _
      | exact spec_DrawMapOk.mono _ _
      | exact spec_MapOk.mono _ _
      | exact LeO.none _
      | refine LeO.ite ?_ ?_
      | refine LeO.bind ?_ (fun _ => ?_)
theorem laws_FnMapOk.mono : ∀ a0 k, LeO (laws_FnMapOk.f k a0) (laws_FnMapOk.f (k + 1) a0) := by
  intro a0 k
  have ih0 := laws_FnMapOk.mono_l k
  unfold laws_FnMapOk.f
  repeat' first
      | (with_reducible exact ih0 _ _ _)
      | (with_reducible exact impl_MapDel.mono _ _ _)
      | (with_reducible exact impl_MapOk.mono _ _)
      | (with_reducible exact laws_tgOk.mono _)
      | (with_reducible exact spec_DrawMapOk.mono _ _)
      | (with_reducible exact spec_MapOk.mono _ _)
      | (with_reducible exact LeO.refl _)
      | (with_reducible exact LeO.none _)
      | (with_reducible refine LeO.ite ?_ ?_)
      | (with_reducible refine LeO.bind ?_ (fun _ => ?_))
      | exact ih0 _ _ _
      | exact impl_MapDel.mono _ _ _
      | exact impl_MapOk.mono _ _
      | exact laws_tgOk.mono _
      | exact spec_DrawMapOk.mono _ _
      | exact spec_MapOk.mono _ _
      | exact LeO.none _
      | refine LeO.ite ?_ ?_
      | refine LeO.bind ?_ (fun _ => ?_)
def laws_FnMapOk.T10 : Bool × List (List Nat × List Nat) := (true, [([], []), ([], []), ([1], [1]), ([], []), ([2, 3], [2, 3]), ([4], [4]), ([5], [5]), ([0, 6], [0, 6]), ([7], [7]), ([8], [8]), ([8], [8]), ([], []), ([], []), ([11, 9, 7, 0, 1, 2, 3, 4, 5, 6, 7, 8, 9, 11, 12], [9, 11]), ([12, 10, 13, 0, 1, 2, 3, 4, 5, 6, 7, 8, 9, 10, 11, 12, 13], [10, 12])])
def laws_FnMapOk.B10 : List Nat := [0, 0, 2, 0, 14, 30, 62, 127, 255, 511, 511, 0, 0, 7167, 16383]
theorem laws_FnMapOk.tab10 : rtab .any (opsOf Try.f7 10) = laws_FnMapOk.T10 := by kernel_rfl
theorem laws_FnMapOk.bits10 : waitsOk laws_FnMapOk.T10.2 laws_FnMapOk.B10 = true := by kernel_rfl
set_option maxHeartbeats 8000000 in
set_option maxRecDepth 100000 in
theorem laws_FnMapOk.calls (k : Nat) (A0 : Option Addr) (c0 : Nat) (l0 : List Int) (r : Bool) (w : World) (hr0 : Kd.C (Kd.int .u8) w A0 l0.length l0) (hc0 : l0.length ≤ c0) (ht_ : r = true) (h : laws_FnMapOk.f k l0 = some r) :
    Calls Try.prog 7 #[.slice A0 l0.length c0] w fun e w' => e = .returned (.bool r) ∧ Below w.heap.size w w' := by
  have hu25 := Try.underlying25
  have hu29 := Try.underlying29
  have HR0 := Aside0.mk hr0
  have HC0 := Aside0.mk hc0
  clear hr0 hc0
  have HB := Aside0.mk (Below.refl w.heap.size w)
  have HT := Aside0.mk ht_
  clear ht_
  have H : (if (l0.length : Int) > 1048576 then (some true) else ((spec_DrawMapOk.f k l0).bind fun t264 => ((impl_MapOk.f k t264).bind fun t268 => ((spec_MapOk.f k t264).bind fun t269 => (if (t268 != t269) = true then (some false) else (laws_FnMapOk.l0 k t268 0 t264)))))) = some r := h
  clear h
  by_cases c2 : (l0.length : Int) > 1048576
  · rw [if_pos c2] at H
    have c2b0 : decide (1048576 < (l0.length : Int)) = true := decide_eq_true c2
    have c2b1 : decide (1048576 < l0.length) = true := decide_eq_true (by omega)
    clear c2
    obtain rfl := Option.some.inj H
    go_enter Try.func7, Try.ntmps7
    go_wp2
    go_ret
    exact ⟨by first | rfl | (simp [errW_none, errW_some] <;> rfl) | (simp [*, errW_none, errW_some] <;> rfl), by repeat (first | (with_reducible first | exact HB.out | apply below_alloc | apply pw_below_drewN | apply below_drew1) | exact HB.out)⟩
  · rw [if_neg c2] at H
    have c2b0 : decide (1048576 < (l0.length : Int)) = false := decide_eq_false c2
    have c2b1 : decide (1048576 < l0.length) = false := decide_eq_false (by omega)
    clear c2
    replace H := Option.bind_eq_some_iff.mp H
    obtain ⟨t264, A30, H⟩ := H
    replace H : ((impl_MapOk.f k t264).bind fun t268 => ((spec_MapOk.f k t264).bind fun t269 => (if (t268 != t269) = true then (some false) else (laws_FnMapOk.l0 k t268 0 t264)))) = some r := H
    have A3 := Aside0.mk A30
    clear A30
    replace H := Option.bind_eq_some_iff.mp H
    obtain ⟨t268, A40, H⟩ := H
    replace H : ((spec_MapOk.f k t264).bind fun t269 => (if (t268 != t269) = true then (some false) else (laws_FnMapOk.l0 k t268 0 t264))) = some r := H
    have A4 := Aside0.mk A40
    clear A40
    replace H := Option.bind_eq_some_iff.mp H
    obtain ⟨t269, A50, H⟩ := H
    replace H : (if (t268 != t269) = true then (some false) else (laws_FnMapOk.l0 k t268 0 t264)) = some r := H
    have A5 := Aside0.mk A50
    clear A50
    by_cases c6 : (t268 != t269) = true
    · rw [if_pos c6] at H
      have c6b0 : (t268 != t269) = true := c6
      (try (have c6b1 : decide (t268 = t269) = false := by simpa using c6))
      (try (have c6b2 : (t268 == t269) = false := by simpa using c6))
      (try (have c6b3 : ¬ (t268 = t269) := by simpa using c6))
      clear c6
      exact absurd (Option.some.inj H) (by rw [HT.out]; decide)
    · rw [if_neg c6] at H
      have c6b0 : (t268 != t269) = false := by simpa using c6
      (try (have c6b1 : decide (t268 = t269) = true := by simpa using c6))
      (try (have c6b2 : (t268 == t269) = true := by simpa using c6))
      clear c6
      have H' := Aside0.mk H
      clear H
      go_enter Try.func7, Try.ntmps7
      go_wp2_with (first | ((with_reducible refine gate_callee (f := 28) rfl ?_); refine goesL_ (some 12) rfl rfl Try.func28 (by kernel_rfl) rfl #[.slice A0 l0.length c0] rfl (by (try simp only [List.map_toArray, List.map_cons, List.map_nil]); first | done | rfl | (simp only [List.length_drop, List.length_take]; rfl)) ?_; (with_reducible refine (spec_DrawMapOk.calls k _ _ l0 t264 _ ?side1 ?side2 A3.out).mono ?_); (case side1 => repeat (first | exact HR0.out | (with_reducible refine Kd.C_alloc ?_ _) | (with_reducible refine Kd.C_drewN ?_ _) | (with_reducible refine Kd.C_drew ?_))); (case side2 => exact HC0.out); rintro e w7 ⟨v265, rfl, ho0, hb⟩; refine ⟨_, rfl, ?_⟩; have n0_ := Aside0.mk (Kd.R_lower ho0 (below_size (by repeat (first | (with_reducible first | exact HB.out | apply below_alloc | apply pw_below_drewN | apply below_drew1) | exact HB.out)))); have n1_ := Aside0.mk (below_step (by repeat (first | (with_reducible first | exact HB.out | apply below_alloc | apply pw_below_drewN | apply below_drew1) | exact HB.out)) hb); clear HB; have HO266 := n0_; have HB := n1_; clear n0_ n1_; (try clear hb); (try clear hb2); (try clear hk); (try clear hi); (try clear ho0)) | ((with_reducible refine gate_dst (N := 3) rfl ?_); (try (refine gate_guard (by rfl) ?_; dsimp only)); refine box_event ?hg (N := 3) ?hd (cs := #[.slice none 0 0]) (t := 25) ?hr ?_; (case hd => rfl); (case hg => rfl); (case hr => first | (go_simp; done) | (go_simp; rfl)); intro gb267 hg w8 hbox hb; have n0_ := Aside0.mk (Kd.R_below (by (with_reducible repeat (first | apply Kd.R_alloc | apply Kd.R_drewN | apply Kd.R_drew)); exact HO266.out) hb); have n1_ := Aside0.mk (below_step (by repeat (first | (with_reducible first | exact HB.out | apply below_alloc | apply pw_below_drewN | apply below_drew1) | exact HB.out)) hb); have n2_ := Aside0.mk (hbox); have n3_ := Aside0.mk ((by rw [hg]; exact (below_size (by repeat (first | (with_reducible first | exact HB.out | apply below_alloc | apply pw_below_drewN | apply below_drew1) | exact HB.out))) : w.heap.size ≤ gb267)); have n4_ := Aside0.mk ((by rw [hg]; exact (below_size (by repeat (first | (with_reducible first | exact HB.out | apply below_alloc | apply pw_below_drewN | apply below_drew1) | exact HB.out))) : w.heap.size ≤ gb267)); clear HO266; clear HB; have HO266 := n0_; have HB := n1_; have BK267 := n2_; have GW267 := n3_; have GE267 := n4_; clear n0_ n1_ n2_ n3_ n4_; clear hb hbox hg; obtain ⟨Ao9, co9, eo9⟩ := Kd.R_slice HO266.out; subst eo9; have hcz10_0 : w8.cell? ⟨gb267, 0, none⟩ = some (.slice none 0 0) := (blk_cell BK267.out 0).trans rfl; have hfz10_0 := blk_frozen BK267.out 0) | ((with_reducible refine gate_callee (f := 17) rfl ?_); refine goesL_ (some 14) rfl rfl Try.func17 (by kernel_rfl) rfl #[.agg #[.slice Ao9 t264.length co9]] rfl (by (try simp only [List.map_toArray, List.map_cons, List.map_nil]); first | done | rfl | (simp only [List.length_drop, List.length_take]; rfl)) ?_; (with_reducible refine (impl_MapOk.calls k _ _ t264 t268 _ ?side1 ?side2 A4.out).mono ?_); (case side1 => refine (Kd.R_reads' (e := 39) (base := w.heap.size) (ok := fun k_ => True) (n := t264.length) (c := co9) ?_).2.2; exact (by (with_reducible repeat (first | apply Kd.R_alloc | apply Kd.R_drewN | apply Kd.R_drew)); exact (Kd.R_mono (Kd.R_far (p := ⟨gb267, 0, none⟩) (Kd.R_types HO266.out BK267.out (by decide)) (fun _ hk => by first | exact hk.2 | trivial | simp [hk]) (.slice Ao9 t264.length co9)) (fun _ h_ => h_.1)))); (case side2 => exact (Kd.R_reads' HO266.out).2.1); rintro e w11 ⟨rfl, hb⟩; refine ⟨_, rfl, ?_⟩; have n0_ := Aside0.mk (Kd.R_below (by (with_reducible repeat (first | apply Kd.R_alloc | apply Kd.R_drewN | apply Kd.R_drew)); exact (Kd.R_mono (Kd.R_far (p := ⟨gb267, 0, none⟩) (Kd.R_types HO266.out BK267.out (by decide)) (fun _ hk => by first | exact hk.2 | trivial | simp [hk]) (.slice Ao9 t264.length co9)) (fun _ h_ => h_.1))) hb); have n1_ := Aside0.mk (blk_below (g := gb267) (o := .cells #[.slice Ao9 t264.length co9] 25 (0, 0)) (by (with_reducible repeat (first | refine blk_drewN ?_ _ | refine blk_drew ?_ | refine blk_alloc ?_ _)); refine blk_put (cs := #[.slice none 0 0]) ?_ 0 _ rfl; (with_reducible repeat (first | refine blk_drewN ?_ _ | refine blk_drew ?_ | refine blk_alloc ?_ _)); exact BK267.out) hb); have n2_ := Aside0.mk (below_step (by repeat (first | (with_reducible first | exact HB.out | apply below_alloc | apply pw_below_drewN | apply below_drew1 | refine below_set ?_ GE267.out) | exact HB.out)) hb); clear HO266; clear BK267; clear HB; have HO266 := n0_; have BK267 := n1_; have HB := n2_; clear n0_ n1_ n2_; (try clear hb); (try clear hb2); (try clear hk); (try clear hi); have hcz12_0 : w11.cell? ⟨gb267, 0, none⟩ = some (.slice Ao9 t264.length co9) := (blk_cell BK267.out 0).trans rfl; have hfz12_0 := blk_frozen BK267.out 0) | ((with_reducible refine gate_callee (f := 15) rfl ?_); refine goesL_ (some 17) rfl rfl Try.func15 (by kernel_rfl) rfl #[.agg #[.slice Ao9 t264.length co9]] rfl (by (try simp only [List.map_toArray, List.map_cons, List.map_nil]); first | done | rfl | (simp only [List.length_drop, List.length_take]; rfl)) ?_; (with_reducible refine (spec_MapOk.calls k _ _ t264 t269 _ ?side1 ?side2 A5.out).mono ?_); (case side1 => repeat (first | exact (Kd.R_reads' HO266.out).2.2 | (with_reducible refine Kd.C_alloc ?_ _) | (with_reducible refine Kd.C_drewN ?_ _) | (with_reducible refine Kd.C_drew ?_))); (case side2 => exact (Kd.R_reads' HO266.out).2.1); rintro e w13 ⟨rfl, hb⟩; refine ⟨_, rfl, ?_⟩; have n0_ := Aside0.mk (Kd.R_below (by (with_reducible repeat (first | apply Kd.R_alloc | apply Kd.R_drewN | apply Kd.R_drew)); exact HO266.out) hb); have n1_ := Aside0.mk (blk_below (g := gb267) (o := .cells #[.slice Ao9 t264.length co9] 25 (0, 0)) (by (with_reducible repeat (first | refine blk_drewN ?_ _ | refine blk_drew ?_ | refine blk_alloc ?_ _)); exact BK267.out) hb); have n2_ := Aside0.mk (below_step (by repeat (first | (with_reducible first | exact HB.out | apply below_alloc | apply pw_below_drewN | apply below_drew1 | refine below_set ?_ GE267.out) | exact HB.out)) hb); clear HO266; clear BK267; clear HB; have HO266 := n0_; have BK267 := n1_; have HB := n2_; clear n0_ n1_ n2_; (try clear hb); (try clear hb2); (try clear hk); (try clear hi)))
      go_loopg [5] k (fun kq v5 w' => ∃ (x5_1 : Int), v5 = .int .i64 x5_1 ∧ Aside0 (laws_FnMapOk.l0 kq t268 x5_1 t264 = some r) ∧ Aside0 (kq ≤ k) ∧ Aside0 (Kd.R k39 39 w' w.heap.size (fun _ => True) (.slice Ao9 t264.length co9) t264) ∧ Aside0 (w'.heap[gb267]? = some (.cells #[(.slice Ao9 t264.length co9)] 25 (0, 0))) ∧ Aside0 (Below w.heap.size w w'))
      case atStart => exact ⟨(0), (by first | rfl | (simp; done) | (simp [*]; done)), H', ⟨Nat.le_refl _⟩, ⟨by (with_reducible repeat (first | apply Kd.R_alloc | apply Kd.R_drewN | apply Kd.R_drew)); exact HO266.out⟩, ⟨by (with_reducible repeat (first | refine blk_drewN ?_ _ | refine blk_drew ?_ | refine blk_alloc ?_ _)); exact BK267.out⟩, ⟨by repeat (first | (with_reducible first | exact HB.out | apply below_alloc | apply pw_below_drewN | apply below_drew1 | refine below_set ?_ GE267.out) | exact HB.out)⟩⟩
      case round =>
        clear H'
        try clear c1
        try clear c2
        try clear c2b0
        try clear c2b1
        try clear p2
        try clear c6
        try clear c6b0
        try clear c6b1
        try clear c6b2
        try clear c7
        try clear hcz10_0
        try clear hcz12_0
        try clear hfz10_0
        try clear hfz12_0
        obtain ⟨x5_1, rfl, HA, HK1, HO_268000, BK267, HB⟩ := hrel
        cases gk with
        | zero => exact absurd HA.out (by simp [laws_FnMapOk.l0])
        | succ k1 =>
          have H := HA.out
          clear HA
          simp only [laws_FnMapOk.l0] at H
          by_cases c14 : t268 = true
          · subst c14
            have H1 : (if x5_1 < (t264.length : Int) then (if 0 ≤ x5_1 then ((impl_MapDel.f k1 t264 ((rd_T39 t264 x5_1).f0)).bind fun bt271 => (if x5_1 ≤ (t264.length : Int) then ((impl_MapOk.f k1 (t264.take (x5_1 : Int).toNat)).bind fun t282 => (if t282 = true then ((impl_MapOk.f k1 bt271.1).bind fun t283 => (if t283 = true then (if (bt271.1.length : Int) = (wrap64 ((t264.length : Int) - 1)) then (laws_FnMapOk.l0 k1 true (wrap64 (x5_1 + 1)) t264) else (some false)) else (some false))) else (some false))) else (none))) else (none)) else (some true)) = some r := by rw [if_pos rfl] at H; exact H
            clear H
            have H := H1
            clear H1
            by_cases c15 : x5_1 < (t264.length : Int)
            · rw [if_pos c15] at H
              have c15b0 : decide (x5_1 < (t264.length : Int)) = true := decide_eq_true c15
              clear c15
              by_cases c16 : 0 ≤ x5_1
              · rw [if_pos c16] at H
                have c16b0 : decide (0 ≤ x5_1) = true := decide_eq_true c16
                clear c16
                replace H := Option.bind_eq_some_iff.mp H
                obtain ⟨⟨t271, t274, t275⟩, A170, H⟩ := H
                replace H : (if x5_1 ≤ (t264.length : Int) then ((impl_MapOk.f k1 (t264.take (x5_1 : Int).toNat)).bind fun t282 => (if t282 = true then ((impl_MapOk.f k1 t271).bind fun t283 => (if t283 = true then (if (t271.length : Int) = (wrap64 ((t264.length : Int) - 1)) then (laws_FnMapOk.l0 k1 true (wrap64 (x5_1 + 1)) t264) else (some false)) else (some false))) else (some false))) else (none)) = some r := H
                have A17 := Aside0.mk A170
                clear A170
                have c18b0 := eq_true (of_decide_eq_true (by first | (with_reducible assumption) | assumption) : 0 ≤ x5_1)
                by_cases c19 : x5_1 ≤ (t264.length : Int)
                · rw [if_pos c19] at H
                  have c19b0 := eq_true c19
                  have c19b1 : decide (x5_1 ≤ (t264.length : Int)) = true := decide_eq_true c19
                  clear c19
                  obtain ⟨y278, hy278⟩ : ∃ y_ : List (S39), y_ = (t264.take (x5_1 : Int).toNat) := ⟨_, rfl⟩
                  replace H : ((impl_MapOk.f k1 y278).bind fun t282 => (if t282 = true then ((impl_MapOk.f k1 t271).bind fun t283 => (if t283 = true then (if (t271.length : Int) = (wrap64 ((t264.length : Int) - 1)) then (laws_FnMapOk.l0 k1 true (wrap64 (x5_1 + 1)) t264) else (some false)) else (some false))) else (some false))) = some r := by first | (rw [hy278]; with_reducible exact H) | (have H2_ := (Option.bind_some _ _).symm.trans H; rw [hy278]; with_reducible exact H2_) | (have H2_ := (Option.bind_some _ _).symm.trans H; with_reducible exact H2_) | with_reducible exact H | (rw [hy278]; exact H) | exact H
                  have Ny278 := Aside0.mk hy278
                  clear hy278
                  replace H := Option.bind_eq_some_iff.mp H
                  obtain ⟨t282, A200, H⟩ := H
                  replace H : (if t282 = true then ((impl_MapOk.f k1 t271).bind fun t283 => (if t283 = true then (if (t271.length : Int) = (wrap64 ((t264.length : Int) - 1)) then (laws_FnMapOk.l0 k1 true (wrap64 (x5_1 + 1)) t264) else (some false)) else (some false))) else (some false)) = some r := H
                  have A20 := Aside0.mk A200
                  clear A200
                  by_cases c21 : t282 = true
                  · subst c21
                    have H1 : ((impl_MapOk.f k1 t271).bind fun t283 => (if t283 = true then (if (t271.length : Int) = (wrap64 ((t264.length : Int) - 1)) then (laws_FnMapOk.l0 k1 true (wrap64 (x5_1 + 1)) t264) else (some false)) else (some false))) = some r := by rw [if_pos rfl] at H; exact H
                    clear H
                    have H := H1
                    clear H1
                    replace H := Option.bind_eq_some_iff.mp H
                    obtain ⟨t283, A220, H⟩ := H
                    replace H : (if t283 = true then (if (t271.length : Int) = (wrap64 ((t264.length : Int) - 1)) then (laws_FnMapOk.l0 k1 true (wrap64 (x5_1 + 1)) t264) else (some false)) else (some false)) = some r := H
                    have A22 := Aside0.mk A220
                    clear A220
                    by_cases c23 : t283 = true
                    · subst c23
                      have H1 : (if (t271.length : Int) = (wrap64 ((t264.length : Int) - 1)) then (laws_FnMapOk.l0 k1 true (wrap64 (x5_1 + 1)) t264) else (some false)) = some r := by rw [if_pos rfl] at H; exact H
                      clear H
                      have H := H1
                      clear H1
                      by_cases c24 : (t271.length : Int) = (wrap64 ((t264.length : Int) - 1))
                      · rw [if_pos c24] at H
                        have c24b0 : ((t271.length : Int) == (wrap64 ((t264.length : Int) - 1))) = true := beq_iff_eq.mpr c24
                        have c24b1 : ((t271.length : Int) != (wrap64 ((t264.length : Int) - 1))) = false := bne_eq_false_iff_eq.mpr c24
                        clear c24
                        have H' := Aside0.mk H
                        clear H
                        have hcz25_0 : wr.cell? ⟨gb267, 0, none⟩ = some (.slice Ao9 t264.length co9) := (blk_cell BK267.out 0).trans rfl
                        have hfz25_0 := blk_frozen BK267.out 0
                        try go_wp2
                        have n0_ := Aside0.mk (Kd.R_drew HO_268000.out)
                        have n1_ := Aside0.mk (blk_drew BK267.out)
                        have n2_ := Aside0.mk (below_drew1 HB.out)
                        clear HO_268000
                        clear BK267
                        clear HB
                        have HO_268000 := n0_
                        have BK267 := n1_
                        have HB := n2_
                        clear n0_ n1_ n2_
                        have p270 : 0 ≤ (x5_1 : Int) := of_decide_eq_true (by first | (with_reducible assumption) | assumption)
                        have q270 : x5_1 < (t264.length : Int) := of_decide_eq_true (by first | (with_reducible assumption) | assumption)
                        obtain ⟨ad270, e270, hx270_0, hx270_1⟩ := at_T39 (Kd.R_reads' HO_268000.out).2.2 x5_1 p270 q270
                        cases e270
                        replace p270 := eq_true p270
                        replace q270 := eq_true q270
                        refine start_ (n := 15) (S := fun w' => True) (ds := []) #[false, false, false, false, false, false, false, false, false, false, false, false, false, false, false] (by kernel_rfl) rfl rfl trivial (fun hHeld => ?_); refine with_tabW laws_FnMapOk.tab10 laws_FnMapOk.bits10 (fun HT_ HW_ => ?_)
                        generalize wr.drew = w26 at HO_268000 BK267 HB hx270_0 hx270_1 hHeld ⊢
                        refine pure_ (i := 1) (N := some 31) (v := ?_) (a' := ?_) #[false, true, false, false, false, false, false, false, false, false, false, false, false, false, false] rfl rfl (any_of HT_.out (by kernel_rfl)) (fun _ _ _ h => h) (Or.inl ⟨by rfl, ?_⟩) ?_ ?_
                        rotate_left
                        · intro w'
                          go_simp
                          with_reducible rfl
                        rotate_left
                        · simp only [Act.put, List.setIfInBounds_toArray, List.set_cons_zero, List.set_cons_succ, i64_w, i32_w]
                          rfl
                        refine pure_ (i := 3) (N := some 33) (v := ?_) (a' := ?_) #[false, true, false, true, false, false, false, false, false, false, false, false, false, false, false] rfl rfl (any_of HT_.out (by kernel_rfl)) (fun _ _ _ h => h) (Or.inl ⟨by rfl, ?_⟩) ?_ ?_
                        rotate_left
                        · intro w'
                          go_simp
                          with_reducible rfl
                        rotate_left
                        · simp only [Act.put, List.setIfInBounds_toArray, List.set_cons_zero, List.set_cons_succ, i64_w, i32_w]
                          rfl
                        refine inv_at [0, 2, 4, 5, 6, 7, 8, 9, 10, 11, 12, 13, 14] (fun a0_ b a w' => ∃ (v272 : Value) (gb276 : Nat) (gb277 : Nat) (m7_ : Value) (m8_ : Value) (m9_ : Value) (m11_ : Value) (m12_ : Value), a = putSel a0_ b [(0, 30, .agg #[.slice (some ad270) t264.length co9]), (2, 32, .slice (some ad270) t264.length co9), (4, 34, .pointer (some (ad270.add ((x5_1).toNat * 2)))), (5, 35, .pointer (some (ad270.add ((x5_1).toNat * 2)))), (6, 36, .int .i64 ((rd_T39 t264 x5_1).f0)), (7, 37, m7_), (8, 29, m8_), (9, 38, m9_), (10, 39, .agg #[.int .i64 t274, .int .i64 t275]), (11, 6, m11_), (12, 7, m12_)] ∧ (Kd.R k39 39 w' w.heap.size (fun _ => True) (.slice (some ad270) t264.length co9) t264) ∧ (w'.heap[gb267]? = some (.cells #[.slice (some ad270) t264.length co9] 25 (0, 0))) ∧ (Below w.heap.size w w') ∧ (b 11 = true → b 12 = true → gb277 ≠ gb276) ∧ (b 11 = true → b 12 = true → gb276 ≠ gb277) ∧ (b 7 = true → Kd.R k39 39 w' w.heap.size (fun k_ => some k_ ≠ (.slice (some ad270) t264.length co9 : Value).ownBlock) v272 t271) ∧ (b 11 = true → b 13 = false → w'.heap[gb276]? = some (.cells #[.slice none 0 0] 25 (0, 0))) ∧ (b 11 = true → w.heap.size ≤ gb276) ∧ (b 11 = true → w.heap.size ≤ gb276) ∧ (b 11 = true → gb267 ≠ gb276) ∧ (b 11 = true → gb276 ≠ gb267) ∧ (b 12 = true → b 14 = false → w'.heap[gb277]? = some (.cells #[.int .i64 0, .int .i64 0] 29 (0, 0))) ∧ (b 12 = true → w.heap.size ≤ gb277) ∧ (b 12 = true → w.heap.size ≤ gb277) ∧ (b 12 = true → gb267 ≠ gb277) ∧ (b 12 = true → gb277 ≠ gb267) ∧ (b 13 = true → w'.heap[gb276]? = some (.cells #[v272] 25 (0, 0))) ∧ (b 14 = true → w'.heap[gb277]? = some (.cells #[.int .i64 t274, .int .i64 t275] 29 (0, 0))) ∧ (b 7 = true → (m7_ : Value) = .tuple #[.agg #[v272], .agg #[.int .i64 t274, .int .i64 t275]]) ∧ (b 8 = true → (m8_ : Value) = .tuple #[.agg #[v272], .agg #[.int .i64 t274, .int .i64 t275]]) ∧ (b 9 = true → (m9_ : Value) = .agg #[v272]) ∧ (b 11 = true → (m11_ : Value) = .pointer (some ⟨gb276, 0, none⟩)) ∧ (b 12 = true → (m12_ : Value) = .pointer (some ⟨gb277, 0, none⟩))) HT_.out HW_.out (by kernel_rfl) (by kernel_rfl) ?_ ?_ ?_
                        · exact ⟨.bool false, 0, 0, .bool false, .bool false, .bool false, .bool false, .bool false, by simp only [putSel, Bool.false_eq_true, if_false], HO_268000.out, BK267.out, HB.out, fun h_ => absurd h_ (by decide), fun h_ => absurd h_ (by decide), fun h_ => absurd h_ (by decide), fun h_ => absurd h_ (by decide), fun h_ => absurd h_ (by decide), fun h_ => absurd h_ (by decide), fun h_ => absurd h_ (by decide), fun h_ => absurd h_ (by decide), fun h_ => absurd h_ (by decide), fun h_ => absurd h_ (by decide), fun h_ => absurd h_ (by decide), fun h_ => absurd h_ (by decide), fun h_ => absurd h_ (by decide), fun h_ => absurd h_ (by decide), fun h_ => absurd h_ (by decide), fun h_ => absurd h_ (by decide), fun h_ => absurd h_ (by decide), fun h_ => absurd h_ (by decide), fun h_ => absurd h_ (by decide), fun h_ => absurd h_ (by decide)⟩
                        · skip
                          clear BK267 HB HO_268000
                          refine steps_cons ?_ ?_
                          · rintro b a w' ⟨v272, gb276, gb277, m7_, m8_, m9_, m11_, m12_, ha, Q_HO_268000, Q_BK267, Q_HB, Q_NB277_276, Q_NB276_277, Q_HO273, Q_BK276, Q_GW276, Q_GE276, Q_NB267_276, Q_NB276_267, Q_BK277, Q_GW277, Q_GE277, Q_NB267_277, Q_NB277_267, Q_BK276_e13, Q_BK277_e14, Q_X7_, Q_X8_, Q_X9_, Q_X11_, Q_X12_⟩ hb_ hon hoff
                            refine ⟨_, rfl, fun K hK => ?_⟩
                            have e3 : a.tmps[3]? = some (.pointer (some ⟨gb267, 0, none⟩)) := by rw [ha]; exact (putSel_off rfl).trans rfl
                            replace ha := Aside0.mk ha
                            have HO_268000 := Aside0.mk Q_HO_268000
                            have BK267 := Aside0.mk Q_BK267
                            have HB := Aside0.mk Q_HB
                            have hc0_ : w'.cell? ⟨gb267, 0, none⟩ = some (.slice (some ad270) t264.length co9) := (blk_cell BK267.out 0).trans rfl
                            refine value_ (w1 := w') (v := .agg #[.slice (some ad270) t264.length co9]) (by rfl) rfl ?_ ?_
                            · go_simp
                              (try simp only [i64_w])
                              try rfl
                            refine hK.out _ _ ⟨v272, gb276, gb277, m7_, m8_, m9_, m11_, m12_, (by rw [ha.out]; exact putSel_upk 0 hb_ rfl rfl rfl), Q_HO_268000, Q_BK267, Q_HB, Q_NB277_276, Q_NB276_277, fun h0_ => absurd ((hoff 7 (by kernel_rfl)).symm.trans h0_) (by decide), Q_BK276, Q_GW276, Q_GE276, Q_NB267_276, Q_NB276_267, Q_BK277, Q_GW277, Q_GE277, Q_NB267_277, Q_NB277_267, fun h0_ => absurd ((hoff 13 (by kernel_rfl)).symm.trans h0_) (by decide), fun h0_ => absurd ((hoff 14 (by kernel_rfl)).symm.trans h0_) (by decide), fun h0_ => absurd ((hoff 7 (by kernel_rfl)).symm.trans h0_) (by decide), fun h0_ => absurd ((hoff 8 (by kernel_rfl)).symm.trans h0_) (by decide), fun h0_ => absurd ((hoff 9 (by kernel_rfl)).symm.trans h0_) (by decide), Q_X11_, Q_X12_⟩
                          refine steps_cons ?_ ?_
                          · rintro b a w' ⟨v272, gb276, gb277, m7_, m8_, m9_, m11_, m12_, ha, Q_HO_268000, Q_BK267, Q_HB, Q_NB277_276, Q_NB276_277, Q_HO273, Q_BK276, Q_GW276, Q_GE276, Q_NB267_276, Q_NB276_267, Q_BK277, Q_GW277, Q_GE277, Q_NB267_277, Q_NB277_267, Q_BK276_e13, Q_BK277_e14, Q_X7_, Q_X8_, Q_X9_, Q_X11_, Q_X12_⟩ hb_ hon hoff
                            refine ⟨_, rfl, fun K hK => ?_⟩
                            have e31 : a.tmps[31]? = some (.pointer (some ⟨gb267, 0, none⟩)) := by rw [ha]; exact (putSel_off rfl).trans rfl
                            replace ha := Aside0.mk ha
                            have HO_268000 := Aside0.mk Q_HO_268000
                            have BK267 := Aside0.mk Q_BK267
                            have HB := Aside0.mk Q_HB
                            have hc0_ : w'.cell? ⟨gb267, 0, none⟩ = some (.slice (some ad270) t264.length co9) := (blk_cell BK267.out 0).trans rfl
                            refine value_ (w1 := w') (v := .slice (some ad270) t264.length co9) (by rfl) rfl ?_ ?_
                            · go_simp
                              (try simp only [i64_w])
                              try rfl
                            refine hK.out _ _ ⟨v272, gb276, gb277, m7_, m8_, m9_, m11_, m12_, (by rw [ha.out]; exact putSel_upk 1 hb_ rfl rfl rfl), Q_HO_268000, Q_BK267, Q_HB, Q_NB277_276, Q_NB276_277, fun h0_ => absurd ((hoff 7 (by kernel_rfl)).symm.trans h0_) (by decide), Q_BK276, Q_GW276, Q_GE276, Q_NB267_276, Q_NB276_267, Q_BK277, Q_GW277, Q_GE277, Q_NB267_277, Q_NB277_267, fun h0_ => absurd ((hoff 13 (by kernel_rfl)).symm.trans h0_) (by decide), fun h0_ => absurd ((hoff 14 (by kernel_rfl)).symm.trans h0_) (by decide), fun h0_ => absurd ((hoff 7 (by kernel_rfl)).symm.trans h0_) (by decide), fun h0_ => absurd ((hoff 8 (by kernel_rfl)).symm.trans h0_) (by decide), fun h0_ => absurd ((hoff 9 (by kernel_rfl)).symm.trans h0_) (by decide), Q_X11_, Q_X12_⟩
                          refine steps_cons ?_ ?_
                          · rintro b a w' ⟨v272, gb276, gb277, m7_, m8_, m9_, m11_, m12_, ha, Q_HO_268000, Q_BK267, Q_HB, Q_NB277_276, Q_NB276_277, Q_HO273, Q_BK276, Q_GW276, Q_GE276, Q_NB267_276, Q_NB276_267, Q_BK277, Q_GW277, Q_GE277, Q_NB267_277, Q_NB277_267, Q_BK276_e13, Q_BK277_e14, Q_X7_, Q_X8_, Q_X9_, Q_X11_, Q_X12_⟩ hb_ hon hoff
                            refine ⟨_, rfl, fun K hK => ?_⟩
                            have e32 : a.tmps[32]? = some (.slice (some ad270) t264.length co9) := by rw [ha]; exact putSel_on (e := (2, 32, .slice (some ad270) t264.length co9)) 1 rfl rfl (hon 2 (by kernel_rfl)) rfl
                            have e33 : a.tmps[33]? = some (.int .i64 x5_1) := by rw [ha]; exact (putSel_off rfl).trans rfl
                            replace ha := Aside0.mk ha
                            have HO_268000 := Aside0.mk Q_HO_268000
                            have BK267 := Aside0.mk Q_BK267
                            have HB := Aside0.mk Q_HB
                            refine value_ (w1 := w') (v := .pointer (some (ad270.add ((x5_1).toNat * 2)))) (by rfl) rfl ?_ ?_
                            · go_simp
                              (try simp only [i64_w])
                              try rfl
                            refine hK.out _ _ ⟨v272, gb276, gb277, m7_, m8_, m9_, m11_, m12_, (by rw [ha.out]; exact putSel_upk 2 hb_ rfl rfl rfl), Q_HO_268000, Q_BK267, Q_HB, Q_NB277_276, Q_NB276_277, fun h0_ => absurd ((hoff 7 (by kernel_rfl)).symm.trans h0_) (by decide), Q_BK276, Q_GW276, Q_GE276, Q_NB267_276, Q_NB276_267, Q_BK277, Q_GW277, Q_GE277, Q_NB267_277, Q_NB277_267, fun h0_ => absurd ((hoff 13 (by kernel_rfl)).symm.trans h0_) (by decide), fun h0_ => absurd ((hoff 14 (by kernel_rfl)).symm.trans h0_) (by decide), fun h0_ => absurd ((hoff 7 (by kernel_rfl)).symm.trans h0_) (by decide), fun h0_ => absurd ((hoff 8 (by kernel_rfl)).symm.trans h0_) (by decide), fun h0_ => absurd ((hoff 9 (by kernel_rfl)).symm.trans h0_) (by decide), Q_X11_, Q_X12_⟩
                          refine steps_cons ?_ ?_
                          · rintro b a w' ⟨v272, gb276, gb277, m7_, m8_, m9_, m11_, m12_, ha, Q_HO_268000, Q_BK267, Q_HB, Q_NB277_276, Q_NB276_277, Q_HO273, Q_BK276, Q_GW276, Q_GE276, Q_NB267_276, Q_NB276_267, Q_BK277, Q_GW277, Q_GE277, Q_NB267_277, Q_NB277_267, Q_BK276_e13, Q_BK277_e14, Q_X7_, Q_X8_, Q_X9_, Q_X11_, Q_X12_⟩ hb_ hon hoff
                            refine ⟨_, rfl, fun K hK => ?_⟩
                            have e34 : a.tmps[34]? = some (.pointer (some (ad270.add ((x5_1).toNat * 2)))) := by rw [ha]; exact putSel_on (e := (4, 34, .pointer (some (ad270.add ((x5_1).toNat * 2))))) 2 rfl rfl (hon 4 (by kernel_rfl)) rfl
                            replace ha := Aside0.mk ha
                            have HO_268000 := Aside0.mk Q_HO_268000
                            have BK267 := Aside0.mk Q_BK267
                            have HB := Aside0.mk Q_HB
                            refine value_ (w1 := w') (v := .pointer (some (ad270.add ((x5_1).toNat * 2)))) (by rfl) rfl ?_ ?_
                            · go_simp
                              (try simp only [i64_w])
                              try rfl
                            refine hK.out _ _ ⟨v272, gb276, gb277, m7_, m8_, m9_, m11_, m12_, (by rw [ha.out]; exact putSel_upk 3 hb_ rfl rfl rfl), Q_HO_268000, Q_BK267, Q_HB, Q_NB277_276, Q_NB276_277, fun h0_ => absurd ((hoff 7 (by kernel_rfl)).symm.trans h0_) (by decide), Q_BK276, Q_GW276, Q_GE276, Q_NB267_276, Q_NB276_267, Q_BK277, Q_GW277, Q_GE277, Q_NB267_277, Q_NB277_267, fun h0_ => absurd ((hoff 13 (by kernel_rfl)).symm.trans h0_) (by decide), fun h0_ => absurd ((hoff 14 (by kernel_rfl)).symm.trans h0_) (by decide), fun h0_ => absurd ((hoff 7 (by kernel_rfl)).symm.trans h0_) (by decide), fun h0_ => absurd ((hoff 8 (by kernel_rfl)).symm.trans h0_) (by decide), fun h0_ => absurd ((hoff 9 (by kernel_rfl)).symm.trans h0_) (by decide), Q_X11_, Q_X12_⟩
                          refine steps_cons ?_ ?_
                          · rintro b a w' ⟨v272, gb276, gb277, m7_, m8_, m9_, m11_, m12_, ha, Q_HO_268000, Q_BK267, Q_HB, Q_NB277_276, Q_NB276_277, Q_HO273, Q_BK276, Q_GW276, Q_GE276, Q_NB267_276, Q_NB276_267, Q_BK277, Q_GW277, Q_GE277, Q_NB267_277, Q_NB277_267, Q_BK276_e13, Q_BK277_e14, Q_X7_, Q_X8_, Q_X9_, Q_X11_, Q_X12_⟩ hb_ hon hoff
                            refine ⟨_, rfl, fun K hK => ?_⟩
                            have e35 : a.tmps[35]? = some (.pointer (some (ad270.add ((x5_1).toNat * 2)))) := by rw [ha]; exact putSel_on (e := (5, 35, .pointer (some (ad270.add ((x5_1).toNat * 2))))) 3 rfl rfl (hon 5 (by kernel_rfl)) rfl
                            replace ha := Aside0.mk ha
                            have HO_268000 := Aside0.mk Q_HO_268000
                            have BK267 := Aside0.mk Q_BK267
                            have HB := Aside0.mk Q_HB
                            obtain ⟨ad270_z, e270_z, hx270_0_z, hx270_1_z⟩ := at_T39 (Kd.R_reads' HO_268000.out).2.2 x5_1 (of_eq_true p270) (of_eq_true q270)
                            cases e270_z
                            have hs0_ : w'.cell? (ad270.add ((x5_1).toNat * 2)) = some (.int .i64 ((rd_T39 t264 x5_1).f0)) := (by first | exact hx270_0_z | (have h_ := hx270_0_z; (try simp only [Int.reduceToNat, Nat.zero_mul, Nat.reduceMul, Nat.reduceEqDiff, Go.Addr.add, ↓reduceIte, Addr.add_zero'] at h_); exact h_))
                            have hs1_ : w'.cell? ⟨(ad270.add ((x5_1).toNat * 2)).block, (ad270.add ((x5_1).toNat * 2)).off + 1, none⟩ = some (.int .i64 ((rd_T39 t264 x5_1).f1)) := (by first | exact hx270_1_z | (have h_ := hx270_1_z; (try simp only [Int.reduceToNat, Nat.zero_mul, Nat.reduceMul, Nat.reduceEqDiff, Go.Addr.add, ↓reduceIte, Addr.add_zero'] at h_); exact h_))
                            refine value_ (w1 := w') (v := .int .i64 ((rd_T39 t264 x5_1).f0)) (by rfl) rfl ?_ ?_
                            · go_simp
                              (try simp only [i64_w])
                              try rfl
                            refine hK.out _ _ ⟨v272, gb276, gb277, m7_, m8_, m9_, m11_, m12_, (by rw [ha.out]; exact putSel_upk 4 hb_ rfl rfl rfl), Q_HO_268000, Q_BK267, Q_HB, Q_NB277_276, Q_NB276_277, fun h0_ => absurd ((hoff 7 (by kernel_rfl)).symm.trans h0_) (by decide), Q_BK276, Q_GW276, Q_GE276, Q_NB267_276, Q_NB276_267, Q_BK277, Q_GW277, Q_GE277, Q_NB267_277, Q_NB277_267, fun h0_ => absurd ((hoff 13 (by kernel_rfl)).symm.trans h0_) (by decide), fun h0_ => absurd ((hoff 14 (by kernel_rfl)).symm.trans h0_) (by decide), fun h0_ => absurd ((hoff 7 (by kernel_rfl)).symm.trans h0_) (by decide), fun h0_ => absurd ((hoff 8 (by kernel_rfl)).symm.trans h0_) (by decide), fun h0_ => absurd ((hoff 9 (by kernel_rfl)).symm.trans h0_) (by decide), Q_X11_, Q_X12_⟩
                          refine steps_cons ?_ ?_
                          · rintro b a w' ⟨v272, gb276, gb277, m7_, m8_, m9_, m11_, m12_, ha, Q_HO_268000, Q_BK267, Q_HB, Q_NB277_276, Q_NB276_277, Q_HO273, Q_BK276, Q_GW276, Q_GE276, Q_NB267_276, Q_NB276_267, Q_BK277, Q_GW277, Q_GE277, Q_NB267_277, Q_NB277_267, Q_BK276_e13, Q_BK277_e14, Q_X7_, Q_X8_, Q_X9_, Q_X11_, Q_X12_⟩ hb_ hon hoff
                            refine ⟨_, rfl, fun K hK => ?_⟩
                            have e30 : a.tmps[30]? = some (.agg #[.slice (some ad270) t264.length co9]) := by rw [ha]; exact putSel_on (e := (0, 30, .agg #[.slice (some ad270) t264.length co9])) 0 rfl rfl (hon 0 (by kernel_rfl)) rfl
                            have e36 : a.tmps[36]? = some (.int .i64 ((rd_T39 t264 x5_1).f0)) := by rw [ha]; exact putSel_on (e := (6, 36, .int .i64 ((rd_T39 t264 x5_1).f0))) 4 rfl rfl (hon 6 (by kernel_rfl)) rfl
                            replace ha := Aside0.mk ha
                            have HO_268000 := Aside0.mk Q_HO_268000
                            have BK267 := Aside0.mk Q_BK267
                            have HB := Aside0.mk Q_HB
                            refine goes_ Try.func12 (by kernel_rfl) rfl #[.agg #[.slice (some ad270) t264.length co9], .int .i64 ((rd_T39 t264 x5_1).f0)] (by rfl) rfl rfl (by first | (simp only [List.map_toArray, List.map_cons, List.map_nil, Act.eval, Array.getD_eq_getD_getElem?, Option.getD_some, e30, e36]; done) | (simp only [List.map_toArray, List.map_cons, List.map_nil, Act.eval, Array.getD_eq_getD_getElem?, Option.getD_some, e30, e36]; rfl)) ?_
                            with_reducible refine (impl_MapDel.calls k1 _ _ t264 ((rd_T39 t264 x5_1).f0) t271 t274 t275 _ ?side1 ?side2 A17.out).mono ?_
                            (case side1 => repeat (first | exact (Kd.R_reads' HO_268000.out).2.2 | (with_reducible refine Kd.C_alloc ?_ _) | (with_reducible refine Kd.C_drewN ?_ _) | (with_reducible refine Kd.C_drew ?_)))
                            (case side2 => exact (Kd.R_reads' HO_268000.out).2.1)
                            rintro e w27 ⟨v272, rfl, ho0, hb⟩
                            refine ⟨_, rfl, ?_⟩
                            have n0_ := Aside0.mk (Kd.R_elder' (by (with_reducible repeat (first | apply Kd.R_alloc | apply Kd.R_drewN | apply Kd.R_drew)); exact HO_268000.out) (Kd.R_base ho0) hb)
                            have n1_ := Aside0.mk (Kd.R_lower (Kd.R_new' ho0 (Kd.R_lt (by (with_reducible repeat (first | apply Kd.R_alloc | apply Kd.R_drewN | apply Kd.R_drew)); exact HO_268000.out))) (below_size (by repeat (first | (with_reducible first | exact HB.out | apply below_alloc | apply pw_below_drewN | apply below_drew1 | refine below_set ?_ GE267.out) | exact HB.out))))
                            have n2_ := Aside0.mk (blk_below (g := gb267) (o := .cells #[.slice (some ad270) t264.length co9] 25 (0, 0)) (by (with_reducible repeat (first | refine blk_drewN ?_ _ | refine blk_drew ?_ | refine blk_alloc ?_ _)); exact BK267.out) hb)
                            have n3_ := Aside0.mk (below_step (by repeat (first | (with_reducible first | exact HB.out | apply below_alloc | apply pw_below_drewN | apply below_drew1 | refine below_set ?_ GE267.out) | exact HB.out)) hb)
                            have z_BK276 := fun (h0_ : b 11 = true) (h1_ : b 13 = false) => (show w27.heap[gb276]? = some (.cells #[.slice none 0 0] 25 (0, 0)) from by first | exact (blk_below (g := gb276) (o := .cells #[.slice none 0 0] 25 (0, 0)) (by (with_reducible repeat (first | refine blk_drewN ?_ _ | refine blk_drew ?_ | refine blk_alloc ?_ _)); exact (Q_BK276 h0_ h1_)) hb))
                            have z_BK277 := fun (h0_ : b 12 = true) (h1_ : b 14 = false) => (show w27.heap[gb277]? = some (.cells #[.int .i64 0, .int .i64 0] 29 (0, 0)) from by first | exact (blk_below (g := gb277) (o := .cells #[.int .i64 0, .int .i64 0] 29 (0, 0)) (by (with_reducible repeat (first | refine blk_drewN ?_ _ | refine blk_drew ?_ | refine blk_alloc ?_ _)); exact (Q_BK277 h0_ h1_)) hb))
                            clear HO_268000
                            clear BK267
                            clear HB
                            have HO_268000 := n0_
                            have HO273 := n1_
                            have BK267 := n2_
                            have HB := n3_
                            clear n0_ n1_ n2_ n3_
                            (try clear hb)
                            (try clear hb2)
                            (try clear hk)
                            (try clear hi)
                            (try clear ho0)
                            refine hK.out _ _ ⟨v272, gb276, gb277, (.tuple #[.agg #[v272], .agg #[.int .i64 t274, .int .i64 t275]]), m8_, m9_, m11_, m12_, (by rw [ha.out]; exact putSel_upk 5 hb_ rfl rfl rfl), (by (with_reducible repeat (first | apply Kd.R_alloc | apply Kd.R_drewN | apply Kd.R_drew)); exact Kd.R_mono HO_268000.out (fun _ hk => by first | exact hk.2 | trivial | simp [hk])), (by (with_reducible repeat (first | refine blk_drewN ?_ _ | refine blk_drew ?_ | refine blk_alloc ?_ _)); exact BK267.out), (by repeat (first | (with_reducible first | exact HB.out | apply below_alloc | apply pw_below_drewN | apply below_drew1 | refine below_set ?_ GE267.out) | exact HB.out)), Q_NB277_276, Q_NB276_277, fun _ => (by (with_reducible repeat (first | apply Kd.R_alloc | apply Kd.R_drewN | apply Kd.R_drew)); exact Kd.R_mono HO273.out (fun _ hk => by first | exact hk.2 | trivial | simp [hk])), z_BK276, Q_GW276, Q_GE276, Q_NB267_276, Q_NB276_267, z_BK277, Q_GW277, Q_GE277, Q_NB267_277, Q_NB277_267, fun h0_ => absurd ((hoff 13 (by kernel_rfl)).symm.trans h0_) (by decide), fun h0_ => absurd ((hoff 14 (by kernel_rfl)).symm.trans h0_) (by decide), fun _ => rfl, fun h0_ => absurd ((hoff 8 (by kernel_rfl)).symm.trans h0_) (by decide), fun h0_ => absurd ((hoff 9 (by kernel_rfl)).symm.trans h0_) (by decide), Q_X11_, Q_X12_⟩
                          refine steps_cons ?_ ?_
                          · rintro b a w' ⟨v272, gb276, gb277, m7_, m8_, m9_, m11_, m12_, ha, Q_HO_268000, Q_BK267, Q_HB, Q_NB277_276, Q_NB276_277, Q_HO273, Q_BK276, Q_GW276, Q_GE276, Q_NB267_276, Q_NB276_267, Q_BK277, Q_GW277, Q_GE277, Q_NB267_277, Q_NB277_267, Q_BK276_e13, Q_BK277_e14, Q_X7_, Q_X8_, Q_X9_, Q_X11_, Q_X12_⟩ hb_ hon hoff
                            refine ⟨_, rfl, fun K hK => ?_⟩
                            have e37 : a.tmps[37]? = some (m7_) := by rw [ha]; exact putSel_on (e := (7, 37, m7_)) 5 rfl rfl (hon 7 (by kernel_rfl)) rfl
                            rw [Q_X7_ (hon 7 (by kernel_rfl))] at e37
                            replace ha := Aside0.mk ha
                            have HO_268000 := Aside0.mk Q_HO_268000
                            have BK267 := Aside0.mk Q_BK267
                            have HB := Aside0.mk Q_HB
                            have HO273 := Aside0.mk (Q_HO273 (hon 7 (by kernel_rfl)))
                            refine value_ (w1 := w') (v := .tuple #[.agg #[v272], .agg #[.int .i64 t274, .int .i64 t275]]) (by rfl) rfl ?_ ?_
                            · go_simp
                              (try simp only [i64_w])
                              try rfl
                            refine hK.out _ _ ⟨v272, gb276, gb277, m7_, (.tuple #[.agg #[v272], .agg #[.int .i64 t274, .int .i64 t275]]), m9_, m11_, m12_, (by rw [ha.out]; exact putSel_upk 6 hb_ rfl rfl rfl), Q_HO_268000, Q_BK267, Q_HB, Q_NB277_276, Q_NB276_277, Q_HO273, Q_BK276, Q_GW276, Q_GE276, Q_NB267_276, Q_NB276_267, Q_BK277, Q_GW277, Q_GE277, Q_NB267_277, Q_NB277_267, fun h0_ => absurd ((hoff 13 (by kernel_rfl)).symm.trans h0_) (by decide), fun h0_ => absurd ((hoff 14 (by kernel_rfl)).symm.trans h0_) (by decide), Q_X7_, fun _ => rfl, fun h0_ => absurd ((hoff 9 (by kernel_rfl)).symm.trans h0_) (by decide), Q_X11_, Q_X12_⟩
                          refine steps_cons ?_ ?_
                          · rintro b a w' ⟨v272, gb276, gb277, m7_, m8_, m9_, m11_, m12_, ha, Q_HO_268000, Q_BK267, Q_HB, Q_NB277_276, Q_NB276_277, Q_HO273, Q_BK276, Q_GW276, Q_GE276, Q_NB267_276, Q_NB276_267, Q_BK277, Q_GW277, Q_GE277, Q_NB267_277, Q_NB277_267, Q_BK276_e13, Q_BK277_e14, Q_X7_, Q_X8_, Q_X9_, Q_X11_, Q_X12_⟩ hb_ hon hoff
                            refine ⟨_, rfl, fun K hK => ?_⟩
                            have e29 : a.tmps[29]? = some (m8_) := by rw [ha]; exact putSel_on (e := (8, 29, m8_)) 6 rfl rfl (hon 8 (by kernel_rfl)) rfl
                            rw [Q_X8_ (hon 8 (by kernel_rfl))] at e29
                            replace ha := Aside0.mk ha
                            have HO_268000 := Aside0.mk Q_HO_268000
                            have BK267 := Aside0.mk Q_BK267
                            have HB := Aside0.mk Q_HB
                            have HO273 := Aside0.mk (Q_HO273 (hon 7 (by kernel_rfl)))
                            refine value_ (w1 := w') (v := .agg #[v272]) (by rfl) rfl ?_ ?_
                            · go_simp
                              (try simp only [i64_w])
                              try rfl
                            refine hK.out _ _ ⟨v272, gb276, gb277, m7_, m8_, (.agg #[v272]), m11_, m12_, (by rw [ha.out]; exact putSel_upk 7 hb_ rfl rfl rfl), Q_HO_268000, Q_BK267, Q_HB, Q_NB277_276, Q_NB276_277, Q_HO273, Q_BK276, Q_GW276, Q_GE276, Q_NB267_276, Q_NB276_267, Q_BK277, Q_GW277, Q_GE277, Q_NB267_277, Q_NB277_267, fun h0_ => absurd ((hoff 13 (by kernel_rfl)).symm.trans h0_) (by decide), fun h0_ => absurd ((hoff 14 (by kernel_rfl)).symm.trans h0_) (by decide), Q_X7_, Q_X8_, fun _ => rfl, Q_X11_, Q_X12_⟩
                          refine steps_cons ?_ ?_
                          · rintro b a w' ⟨v272, gb276, gb277, m7_, m8_, m9_, m11_, m12_, ha, Q_HO_268000, Q_BK267, Q_HB, Q_NB277_276, Q_NB276_277, Q_HO273, Q_BK276, Q_GW276, Q_GE276, Q_NB267_276, Q_NB276_267, Q_BK277, Q_GW277, Q_GE277, Q_NB267_277, Q_NB277_267, Q_BK276_e13, Q_BK277_e14, Q_X7_, Q_X8_, Q_X9_, Q_X11_, Q_X12_⟩ hb_ hon hoff
                            refine ⟨_, rfl, fun K hK => ?_⟩
                            have e29 : a.tmps[29]? = some (m8_) := by rw [ha]; exact putSel_on (e := (8, 29, m8_)) 6 rfl rfl (hon 8 (by kernel_rfl)) rfl
                            rw [Q_X8_ (hon 8 (by kernel_rfl))] at e29
                            replace ha := Aside0.mk ha
                            have HO_268000 := Aside0.mk Q_HO_268000
                            have BK267 := Aside0.mk Q_BK267
                            have HB := Aside0.mk Q_HB
                            have HO273 := Aside0.mk (Q_HO273 (hon 7 (by kernel_rfl)))
                            refine value_ (w1 := w') (v := .agg #[.int .i64 t274, .int .i64 t275]) (by rfl) rfl ?_ ?_
                            · go_simp
                              (try simp only [i64_w])
                              try rfl
                            refine hK.out _ _ ⟨v272, gb276, gb277, m7_, m8_, m9_, m11_, m12_, (by rw [ha.out]; exact putSel_upk 8 hb_ rfl rfl rfl), Q_HO_268000, Q_BK267, Q_HB, Q_NB277_276, Q_NB276_277, Q_HO273, Q_BK276, Q_GW276, Q_GE276, Q_NB267_276, Q_NB276_267, Q_BK277, Q_GW277, Q_GE277, Q_NB267_277, Q_NB277_267, Q_BK276_e13, fun h0_ => absurd ((hoff 14 (by kernel_rfl)).symm.trans h0_) (by decide), Q_X7_, Q_X8_, Q_X9_, Q_X11_, Q_X12_⟩
                          refine steps_cons ?_ ?_
                          · rintro b a w' ⟨v272, gb276, gb277, m7_, m8_, m9_, m11_, m12_, ha, Q_HO_268000, Q_BK267, Q_HB, Q_NB277_276, Q_NB276_277, Q_HO273, Q_BK276, Q_GW276, Q_GE276, Q_NB267_276, Q_NB276_267, Q_BK277, Q_GW277, Q_GE277, Q_NB267_277, Q_NB277_267, Q_BK276_e13, Q_BK277_e14, Q_X7_, Q_X8_, Q_X9_, Q_X11_, Q_X12_⟩ hb_ hon hoff
                            refine ⟨_, rfl, fun K hK => ?_⟩
                            replace ha := Aside0.mk ha
                            have HO_268000 := Aside0.mk Q_HO_268000
                            have BK267 := Aside0.mk Q_BK267
                            have HB := Aside0.mk Q_HB
                            refine box_step ?hg (N := 6) ?hd (cs := #[.slice none 0 0]) (t := 25) ?hr ?_; (case hd => rfl); (case hg => rfl); (case hr => first | (go_simp; done) | (go_simp; rfl))
                            intro gb276 hg w27 hbox hb
                            have n0_ := Aside0.mk (Kd.R_below (by (with_reducible repeat (first | apply Kd.R_alloc | apply Kd.R_drewN | apply Kd.R_drew)); exact HO_268000.out) hb)
                            have n1_ := Aside0.mk (blk_below (g := gb267) (o := .cells #[.slice (some ad270) t264.length co9] 25 (0, 0)) (by (with_reducible repeat (first | refine blk_drewN ?_ _ | refine blk_drew ?_ | refine blk_alloc ?_ _)); exact BK267.out) hb)
                            have n2_ := Aside0.mk (below_step (by repeat (first | (with_reducible first | exact HB.out | apply below_alloc | apply pw_below_drewN | apply below_drew1 | refine below_set ?_ GE267.out) | exact HB.out)) hb)
                            have n3_ := Aside0.mk (hbox)
                            have n4_ := Aside0.mk ((by rw [hg]; exact (below_size (by repeat (first | (with_reducible first | exact HB.out | apply below_alloc | apply pw_below_drewN | apply below_drew1 | refine below_set ?_ GE267.out) | exact HB.out))) : w.heap.size ≤ gb276))
                            have n5_ := Aside0.mk ((by rw [hg]; exact (below_size (by repeat (first | (with_reducible first | exact HB.out | apply below_alloc | apply pw_below_drewN | apply below_drew1 | refine below_set ?_ GE267.out) | exact HB.out))) : w.heap.size ≤ gb276))
                            have n6_ := Aside0.mk ((by rw [hg]; exact Nat.ne_of_lt (blk_lt (g := gb267) (o := .cells #[.slice (some ad270) t264.length co9] 25 (0, 0)) (by (with_reducible repeat (first | refine blk_drewN ?_ _ | refine blk_drew ?_ | refine blk_alloc ?_ _)); exact BK267.out)) : gb267 ≠ gb276))
                            have n7_ := Aside0.mk ((by rw [hg]; exact Nat.ne_of_gt (blk_lt (g := gb267) (o := .cells #[.slice (some ad270) t264.length co9] 25 (0, 0)) (by (with_reducible repeat (first | refine blk_drewN ?_ _ | refine blk_drew ?_ | refine blk_alloc ?_ _)); exact BK267.out)) : gb276 ≠ gb267))
                            have z_NB277_276 := fun (h0_ : up b 11 11 = true) (h1_ : up b 11 12 = true) => (show gb277 ≠ gb276 from ((by rw [hg]; exact Nat.ne_of_lt (blk_lt (g := gb277) (o := .cells #[.int .i64 0, .int .i64 0] 29 (0, 0)) (by (with_reducible repeat (first | refine blk_drewN ?_ _ | refine blk_drew ?_ | refine blk_alloc ?_ _)); exact (Q_BK277 h1_ (hoff 14 (by kernel_rfl))))) : gb277 ≠ gb276)))
                            have z_NB276_277 := fun (h0_ : up b 11 11 = true) (h1_ : up b 11 12 = true) => (show gb276 ≠ gb277 from ((by rw [hg]; exact Nat.ne_of_gt (blk_lt (g := gb277) (o := .cells #[.int .i64 0, .int .i64 0] 29 (0, 0)) (by (with_reducible repeat (first | refine blk_drewN ?_ _ | refine blk_drew ?_ | refine blk_alloc ?_ _)); exact (Q_BK277 h1_ (hoff 14 (by kernel_rfl))))) : gb276 ≠ gb277)))
                            have z_HO273 := fun (h0_ : b 7 = true) => (show Kd.R k39 39 w27 w.heap.size (fun k_ => some k_ ≠ (.slice (some ad270) t264.length co9 : Value).ownBlock) v272 t271 from by first | exact (Kd.R_below (by (with_reducible repeat (first | apply Kd.R_alloc | apply Kd.R_drewN | apply Kd.R_drew)); exact (Q_HO273 h0_)) hb) | exact Kd.R_mono (Kd.R_below (by (with_reducible repeat (first | apply Kd.R_alloc | apply Kd.R_drewN | apply Kd.R_drew)); exact (Q_HO273 h0_)) hb) (fun _ h_ => by first | trivial | exact h_ | exact h_.1))
                            have z_BK277 := fun (h0_ : b 12 = true) (h1_ : b 14 = false) => (show w27.heap[gb277]? = some (.cells #[.int .i64 0, .int .i64 0] 29 (0, 0)) from by first | exact (blk_below (g := gb277) (o := .cells #[.int .i64 0, .int .i64 0] 29 (0, 0)) (by (with_reducible repeat (first | refine blk_drewN ?_ _ | refine blk_drew ?_ | refine blk_alloc ?_ _)); exact (Q_BK277 h0_ h1_)) hb))
                            clear HO_268000
                            clear BK267
                            clear HB
                            have HO_268000 := n0_
                            have BK267 := n1_
                            have HB := n2_
                            have BK276 := n3_
                            have GW276 := n4_
                            have GE276 := n5_
                            have NB267_276 := n6_
                            have NB276_267 := n7_
                            clear n0_ n1_ n2_ n3_ n4_ n5_ n6_ n7_
                            clear hb hbox hg
                            refine hK.out _ _ ⟨v272, gb276, gb277, m7_, m8_, m9_, (.pointer (some ⟨gb276, 0, none⟩)), m12_, (by rw [ha.out]; exact putSel_upk 9 hb_ rfl rfl rfl), (by (with_reducible repeat (first | apply Kd.R_alloc | apply Kd.R_drewN | apply Kd.R_drew)); exact HO_268000.out), (by (with_reducible repeat (first | refine blk_drewN ?_ _ | refine blk_drew ?_ | refine blk_alloc ?_ _)); exact BK267.out), (by repeat (first | (with_reducible first | exact HB.out | apply below_alloc | apply pw_below_drewN | apply below_drew1 | refine below_set ?_ GE267.out | refine below_set ?_ GE276.out) | exact HB.out)), z_NB277_276, z_NB276_277, z_HO273, fun _ _ => (by (with_reducible repeat (first | refine blk_drewN ?_ _ | refine blk_drew ?_ | refine blk_alloc ?_ _)); exact BK276.out), fun _ => GW276.out, fun _ => GE276.out, fun _ => NB267_276.out, fun _ => NB276_267.out, z_BK277, Q_GW277, Q_GE277, Q_NB267_277, Q_NB277_267, fun h0_ => absurd ((hoff 13 (by kernel_rfl)).symm.trans h0_) (by decide), fun h0_ => absurd ((hoff 14 (by kernel_rfl)).symm.trans h0_) (by decide), Q_X7_, Q_X8_, Q_X9_, fun _ => rfl, Q_X12_⟩
                          refine steps_cons ?_ ?_
                          · rintro b a w' ⟨v272, gb276, gb277, m7_, m8_, m9_, m11_, m12_, ha, Q_HO_268000, Q_BK267, Q_HB, Q_NB277_276, Q_NB276_277, Q_HO273, Q_BK276, Q_GW276, Q_GE276, Q_NB267_276, Q_NB276_267, Q_BK277, Q_GW277, Q_GE277, Q_NB267_277, Q_NB277_267, Q_BK276_e13, Q_BK277_e14, Q_X7_, Q_X8_, Q_X9_, Q_X11_, Q_X12_⟩ hb_ hon hoff
                            refine ⟨_, rfl, fun K hK => ?_⟩
                            replace ha := Aside0.mk ha
                            have HO_268000 := Aside0.mk Q_HO_268000
                            have BK267 := Aside0.mk Q_BK267
                            have HB := Aside0.mk Q_HB
                            refine box_step ?hg (N := 7) ?hd (cs := #[.int .i64 0, .int .i64 0]) (t := 29) ?hr ?_; (case hd => rfl); (case hg => rfl); (case hr => first | (go_simp; done) | (go_simp; rfl))
                            intro gb277 hg w27 hbox hb
                            have n0_ := Aside0.mk (Kd.R_below (by (with_reducible repeat (first | apply Kd.R_alloc | apply Kd.R_drewN | apply Kd.R_drew)); exact HO_268000.out) hb)
                            have n1_ := Aside0.mk (blk_below (g := gb267) (o := .cells #[.slice (some ad270) t264.length co9] 25 (0, 0)) (by (with_reducible repeat (first | refine blk_drewN ?_ _ | refine blk_drew ?_ | refine blk_alloc ?_ _)); exact BK267.out) hb)
                            have n2_ := Aside0.mk (below_step (by repeat (first | (with_reducible first | exact HB.out | apply below_alloc | apply pw_below_drewN | apply below_drew1 | refine below_set ?_ GE267.out) | exact HB.out)) hb)
                            have n3_ := Aside0.mk (hbox)
                            have n4_ := Aside0.mk ((by rw [hg]; exact (below_size (by repeat (first | (with_reducible first | exact HB.out | apply below_alloc | apply pw_below_drewN | apply below_drew1 | refine below_set ?_ GE267.out) | exact HB.out))) : w.heap.size ≤ gb277))
                            have n5_ := Aside0.mk ((by rw [hg]; exact (below_size (by repeat (first | (with_reducible first | exact HB.out | apply below_alloc | apply pw_below_drewN | apply below_drew1 | refine below_set ?_ GE267.out) | exact HB.out))) : w.heap.size ≤ gb277))
                            have n6_ := Aside0.mk ((by rw [hg]; exact Nat.ne_of_lt (blk_lt (g := gb267) (o := .cells #[.slice (some ad270) t264.length co9] 25 (0, 0)) (by (with_reducible repeat (first | refine blk_drewN ?_ _ | refine blk_drew ?_ | refine blk_alloc ?_ _)); exact BK267.out)) : gb267 ≠ gb277))
                            have n7_ := Aside0.mk ((by rw [hg]; exact Nat.ne_of_gt (blk_lt (g := gb267) (o := .cells #[.slice (some ad270) t264.length co9] 25 (0, 0)) (by (with_reducible repeat (first | refine blk_drewN ?_ _ | refine blk_drew ?_ | refine blk_alloc ?_ _)); exact BK267.out)) : gb277 ≠ gb267))
                            have z_NB277_276 := fun (h0_ : up b 12 11 = true) (h1_ : up b 12 12 = true) => (show gb277 ≠ gb276 from ((by rw [hg]; exact Nat.ne_of_gt (blk_lt (g := gb276) (o := .cells #[.slice none 0 0] 25 (0, 0)) (by (with_reducible repeat (first | refine blk_drewN ?_ _ | refine blk_drew ?_ | refine blk_alloc ?_ _)); exact (Q_BK276 h0_ (hoff 13 (by kernel_rfl))))) : gb277 ≠ gb276)))
                            have z_NB276_277 := fun (h0_ : up b 12 11 = true) (h1_ : up b 12 12 = true) => (show gb276 ≠ gb277 from ((by rw [hg]; exact Nat.ne_of_lt (blk_lt (g := gb276) (o := .cells #[.slice none 0 0] 25 (0, 0)) (by (with_reducible repeat (first | refine blk_drewN ?_ _ | refine blk_drew ?_ | refine blk_alloc ?_ _)); exact (Q_BK276 h0_ (hoff 13 (by kernel_rfl))))) : gb276 ≠ gb277)))
                            have z_HO273 := fun (h0_ : b 7 = true) => (show Kd.R k39 39 w27 w.heap.size (fun k_ => some k_ ≠ (.slice (some ad270) t264.length co9 : Value).ownBlock) v272 t271 from by first | exact (Kd.R_below (by (with_reducible repeat (first | apply Kd.R_alloc | apply Kd.R_drewN | apply Kd.R_drew)); exact (Q_HO273 h0_)) hb) | exact Kd.R_mono (Kd.R_below (by (with_reducible repeat (first | apply Kd.R_alloc | apply Kd.R_drewN | apply Kd.R_drew)); exact (Q_HO273 h0_)) hb) (fun _ h_ => by first | trivial | exact h_ | exact h_.1))
                            have z_BK276 := fun (h0_ : b 11 = true) (h1_ : b 13 = false) => (show w27.heap[gb276]? = some (.cells #[.slice none 0 0] 25 (0, 0)) from by first | exact (blk_below (g := gb276) (o := .cells #[.slice none 0 0] 25 (0, 0)) (by (with_reducible repeat (first | refine blk_drewN ?_ _ | refine blk_drew ?_ | refine blk_alloc ?_ _)); exact (Q_BK276 h0_ h1_)) hb))
                            clear HO_268000
                            clear BK267
                            clear HB
                            have HO_268000 := n0_
                            have BK267 := n1_
                            have HB := n2_
                            have BK277 := n3_
                            have GW277 := n4_
                            have GE277 := n5_
                            have NB267_277 := n6_
                            have NB277_267 := n7_
                            clear n0_ n1_ n2_ n3_ n4_ n5_ n6_ n7_
                            clear hb hbox hg
                            refine hK.out _ _ ⟨v272, gb276, gb277, m7_, m8_, m9_, m11_, (.pointer (some ⟨gb277, 0, none⟩)), (by rw [ha.out]; exact putSel_upk 10 hb_ rfl rfl rfl), (by (with_reducible repeat (first | apply Kd.R_alloc | apply Kd.R_drewN | apply Kd.R_drew)); exact HO_268000.out), (by (with_reducible repeat (first | refine blk_drewN ?_ _ | refine blk_drew ?_ | refine blk_alloc ?_ _)); exact BK267.out), (by repeat (first | (with_reducible first | exact HB.out | apply below_alloc | apply pw_below_drewN | apply below_drew1 | refine below_set ?_ GE267.out | refine below_set ?_ GE277.out) | exact HB.out)), z_NB277_276, z_NB276_277, z_HO273, z_BK276, Q_GW276, Q_GE276, Q_NB267_276, Q_NB276_267, fun _ _ => (by (with_reducible repeat (first | refine blk_drewN ?_ _ | refine blk_drew ?_ | refine blk_alloc ?_ _)); exact BK277.out), fun _ => GW277.out, fun _ => GE277.out, fun _ => NB267_277.out, fun _ => NB277_267.out, fun h0_ => absurd ((hoff 13 (by kernel_rfl)).symm.trans h0_) (by decide), fun h0_ => absurd ((hoff 14 (by kernel_rfl)).symm.trans h0_) (by decide), Q_X7_, Q_X8_, Q_X9_, Q_X11_, fun _ => rfl⟩
                          refine steps_cons ?_ ?_
                          · rintro b a w' ⟨v272, gb276, gb277, m7_, m8_, m9_, m11_, m12_, ha, Q_HO_268000, Q_BK267, Q_HB, Q_NB277_276, Q_NB276_277, Q_HO273, Q_BK276, Q_GW276, Q_GE276, Q_NB267_276, Q_NB276_267, Q_BK277, Q_GW277, Q_GE277, Q_NB267_277, Q_NB277_267, Q_BK276_e13, Q_BK277_e14, Q_X7_, Q_X8_, Q_X9_, Q_X11_, Q_X12_⟩ hb_ hon hoff
                            refine ⟨_, rfl, fun K hK => ?_⟩
                            have e6 : a.tmps[6]? = some (m11_) := by rw [ha]; exact putSel_on (e := (11, 6, m11_)) 9 rfl rfl (hon 11 (by kernel_rfl)) rfl
                            rw [Q_X11_ (hon 11 (by kernel_rfl))] at e6
                            have e38 : a.tmps[38]? = some (m9_) := by rw [ha]; exact putSel_on (e := (9, 38, m9_)) 7 rfl rfl (hon 9 (by kernel_rfl)) rfl
                            rw [Q_X9_ (hon 9 (by kernel_rfl))] at e38
                            replace ha := Aside0.mk ha
                            have HO_268000 := Aside0.mk Q_HO_268000
                            have BK267 := Aside0.mk Q_BK267
                            have HB := Aside0.mk Q_HB
                            have NB277_276 := Aside0.mk (Q_NB277_276 (hon 11 (by kernel_rfl)) (hon 12 (by kernel_rfl)))
                            have NB276_277 := Aside0.mk (Q_NB276_277 (hon 11 (by kernel_rfl)) (hon 12 (by kernel_rfl)))
                            have HO273 := Aside0.mk (Q_HO273 (hon 7 (by kernel_rfl)))
                            have BK276 := Aside0.mk (Q_BK276 (hon 11 (by kernel_rfl)) hb_)
                            have GW276 := Aside0.mk (Q_GW276 (hon 11 (by kernel_rfl)))
                            have GE276 := Aside0.mk (Q_GE276 (hon 11 (by kernel_rfl)))
                            have NB267_276 := Aside0.mk (Q_NB267_276 (hon 11 (by kernel_rfl)))
                            have NB276_267 := Aside0.mk (Q_NB276_267 (hon 11 (by kernel_rfl)))
                            have BK277 := Aside0.mk (Q_BK277 (hon 12 (by kernel_rfl)) (hoff 14 (by kernel_rfl)))
                            have GW277 := Aside0.mk (Q_GW277 (hon 12 (by kernel_rfl)))
                            have GE277 := Aside0.mk (Q_GE277 (hon 12 (by kernel_rfl)))
                            have NB267_277 := Aside0.mk (Q_NB267_277 (hon 12 (by kernel_rfl)))
                            have NB277_267 := Aside0.mk (Q_NB277_267 (hon 12 (by kernel_rfl)))
                            obtain ⟨Ao31, co31, eo31⟩ := Kd.R_slice HO273.out
                            (first | subst eo31 | (injection eo31 with f1_ f2_ f3_; have f4_ := f1_.symm; have f5_ := f3_.symm; clear f1_ f2_ f3_; subst f4_; subst f5_))
                            have hs32 : w'.cell? ⟨gb276, 0, none⟩ = some (.slice none 0 0) := (blk_cell BK276.out 0).trans rfl
                            have hfs32 := blk_frozen BK276.out 0
                            have hns32_0 := NB267_276.out
                            have hns32_2 := NB277_276.out
                            have hms32_0 := NB276_267.out
                            have hms32_2 := NB276_277.out
                            refine skip_ (w1 := ?_) (by rfl) rfl ?_ ?_
                            rotate_left
                            · go_simp
                              rfl
                            refine hK.out _ _ ⟨.slice Ao31 t271.length co31, gb276, gb277, m7_, m8_, m9_, m11_, m12_, (by rw [ha.out]; exact putSel_none (v := undef) rfl), (by (with_reducible repeat (first | apply Kd.R_alloc | apply Kd.R_drewN | apply Kd.R_drew)); exact Kd.R_mono (Kd.R_far (p := ⟨gb276, 0, none⟩) (Kd.R_types HO_268000.out BK276.out (by decide)) (fun _ hk => by first | exact hk.2 | trivial | simp [hk]) (.slice Ao31 t271.length co31)) (fun _ hk => by first | exact hk.1 | trivial | simp [hk])), (by (with_reducible repeat (first | refine blk_drewN ?_ _ | refine blk_drew ?_ | refine blk_alloc ?_ _)); refine blk_far ?_ NB267_276.out _; (with_reducible repeat (first | refine blk_drewN ?_ _ | refine blk_drew ?_ | refine blk_alloc ?_ _)); exact BK267.out), (by repeat (first | (with_reducible first | exact HB.out | apply below_alloc | apply pw_below_drewN | apply below_drew1 | refine below_set ?_ GE267.out | refine below_set ?_ GE276.out | refine below_set ?_ GE277.out) | exact HB.out)), fun _ _ => NB277_276.out, fun _ _ => NB276_277.out, fun _ => (by (with_reducible repeat (first | apply Kd.R_alloc | apply Kd.R_drewN | apply Kd.R_drew)); exact Kd.R_mono (Kd.R_far (p := ⟨gb276, 0, none⟩) (Kd.R_types HO273.out BK276.out (by decide)) (fun _ hk => by first | exact hk.2 | trivial | simp [hk]) (.slice Ao31 t271.length co31)) (fun _ hk => by first | exact hk.1 | trivial | simp [hk])), fun _ h1_ => absurd ((up_self b 13).symm.trans h1_) (by decide), fun _ => GW276.out, fun _ => GE276.out, fun _ => NB267_276.out, fun _ => NB276_267.out, fun _ _ => (by (with_reducible repeat (first | refine blk_drewN ?_ _ | refine blk_drew ?_ | refine blk_alloc ?_ _)); refine blk_far ?_ NB277_276.out _; (with_reducible repeat (first | refine blk_drewN ?_ _ | refine blk_drew ?_ | refine blk_alloc ?_ _)); exact BK277.out), fun _ => GW277.out, fun _ => GE277.out, fun _ => NB267_277.out, fun _ => NB277_267.out, fun _ => (by (with_reducible repeat (first | refine blk_drewN ?_ _ | refine blk_drew ?_ | refine blk_alloc ?_ _)); refine blk_put (cs := #[.slice none 0 0]) ?_ 0 _ rfl; (with_reducible repeat (first | refine blk_drewN ?_ _ | refine blk_drew ?_ | refine blk_alloc ?_ _)); exact BK276.out), fun h0_ => absurd ((hoff 14 (by kernel_rfl)).symm.trans h0_) (by decide), Q_X7_, Q_X8_, Q_X9_, Q_X11_, Q_X12_⟩
                          refine steps_cons ?_ ?_
                          · rintro b a w' ⟨v272, gb276, gb277, m7_, m8_, m9_, m11_, m12_, ha, Q_HO_268000, Q_BK267, Q_HB, Q_NB277_276, Q_NB276_277, Q_HO273, Q_BK276, Q_GW276, Q_GE276, Q_NB267_276, Q_NB276_267, Q_BK277, Q_GW277, Q_GE277, Q_NB267_277, Q_NB277_267, Q_BK276_e13, Q_BK277_e14, Q_X7_, Q_X8_, Q_X9_, Q_X11_, Q_X12_⟩ hb_ hon hoff
                            refine ⟨_, rfl, fun K hK => ?_⟩
                            have e7 : a.tmps[7]? = some (m12_) := by rw [ha]; exact putSel_on (e := (12, 7, m12_)) 10 rfl rfl (hon 12 (by kernel_rfl)) rfl
                            rw [Q_X12_ (hon 12 (by kernel_rfl))] at e7
                            have e39 : a.tmps[39]? = some (.agg #[.int .i64 t274, .int .i64 t275]) := by rw [ha]; exact putSel_on (e := (10, 39, .agg #[.int .i64 t274, .int .i64 t275])) 8 rfl rfl (hon 10 (by kernel_rfl)) rfl
                            replace ha := Aside0.mk ha
                            have HO_268000 := Aside0.mk Q_HO_268000
                            have BK267 := Aside0.mk Q_BK267
                            have HB := Aside0.mk Q_HB
                            have NB277_276 := Aside0.mk (Q_NB277_276 (hon 11 (by kernel_rfl)) (hon 12 (by kernel_rfl)))
                            have NB276_277 := Aside0.mk (Q_NB276_277 (hon 11 (by kernel_rfl)) (hon 12 (by kernel_rfl)))
                            have HO273 := Aside0.mk (Q_HO273 (hon 7 (by kernel_rfl)))
                            have GW276 := Aside0.mk (Q_GW276 (hon 11 (by kernel_rfl)))
                            have GE276 := Aside0.mk (Q_GE276 (hon 11 (by kernel_rfl)))
                            have NB267_276 := Aside0.mk (Q_NB267_276 (hon 11 (by kernel_rfl)))
                            have NB276_267 := Aside0.mk (Q_NB276_267 (hon 11 (by kernel_rfl)))
                            have BK277 := Aside0.mk (Q_BK277 (hon 12 (by kernel_rfl)) hb_)
                            have GW277 := Aside0.mk (Q_GW277 (hon 12 (by kernel_rfl)))
                            have GE277 := Aside0.mk (Q_GE277 (hon 12 (by kernel_rfl)))
                            have NB267_277 := Aside0.mk (Q_NB267_277 (hon 12 (by kernel_rfl)))
                            have NB277_267 := Aside0.mk (Q_NB277_267 (hon 12 (by kernel_rfl)))
                            have BK276 := Aside0.mk (Q_BK276_e13 (hon 13 (by kernel_rfl)))
                            have hs33 : w'.cell? ⟨gb277, 0, none⟩ = some (.int .i64 0) := (blk_cell BK277.out 0).trans rfl
                            have hfs33 := blk_frozen BK277.out 0
                            have hns33_0 := NB267_277.out
                            have hns33_1 := NB276_277.out
                            have hms33_0 := NB277_267.out
                            have hms33_1 := NB277_276.out
                            have hs34 : w'.cell? ⟨gb277, 1, none⟩ = some (.int .i64 0) := (blk_cell BK277.out 1).trans rfl
                            have hfs34 := blk_frozen BK277.out 1
                            have hns34_0 := NB267_277.out
                            have hns34_1 := NB276_277.out
                            have hms34_0 := NB277_267.out
                            have hms34_1 := NB277_276.out
                            refine skip_ (w1 := ?_) (by rfl) rfl ?_ ?_
                            rotate_left
                            · go_simp
                              rfl
                            refine hK.out _ _ ⟨v272, gb276, gb277, m7_, m8_, m9_, m11_, m12_, (by rw [ha.out]; exact putSel_none (v := undef) rfl), (by (with_reducible repeat (first | apply Kd.R_alloc | apply Kd.R_drewN | apply Kd.R_drew)); exact Kd.R_mono (Kd.R_far (p := ⟨gb277, 1, none⟩) (Kd.R_far (p := ⟨gb277, 0, none⟩) (Kd.R_types HO_268000.out BK277.out (by decide)) (fun _ hk => by first | exact hk.2 | trivial | simp [hk]) (.int .i64 t274)) (fun _ hk => by first | exact hk.2 | trivial | simp [hk]) (.int .i64 t275)) (fun _ hk => by first | exact hk.1 | trivial | simp [hk])), (by (with_reducible repeat (first | refine blk_drewN ?_ _ | refine blk_drew ?_ | refine blk_alloc ?_ _)); refine blk_far ?_ NB267_277.out _; (with_reducible repeat (first | refine blk_drewN ?_ _ | refine blk_drew ?_ | refine blk_alloc ?_ _)); refine blk_far ?_ NB267_277.out _; (with_reducible repeat (first | refine blk_drewN ?_ _ | refine blk_drew ?_ | refine blk_alloc ?_ _)); exact BK267.out), (by repeat (first | (with_reducible first | exact HB.out | apply below_alloc | apply pw_below_drewN | apply below_drew1 | refine below_set ?_ GE267.out | refine below_set ?_ GE276.out | refine below_set ?_ GE277.out) | exact HB.out)), fun _ _ => NB277_276.out, fun _ _ => NB276_277.out, fun _ => (by (with_reducible repeat (first | apply Kd.R_alloc | apply Kd.R_drewN | apply Kd.R_drew)); exact Kd.R_mono (Kd.R_far (p := ⟨gb277, 1, none⟩) (Kd.R_far (p := ⟨gb277, 0, none⟩) (Kd.R_types HO273.out BK277.out (by decide)) (fun _ hk => by first | exact hk.2 | trivial | simp [hk]) (.int .i64 t274)) (fun _ hk => by first | exact hk.2 | trivial | simp [hk]) (.int .i64 t275)) (fun _ hk => by first | exact hk.1 | trivial | simp [hk])), fun _ h1_ => absurd ((hon 13 (by kernel_rfl)).symm.trans h1_) (by decide), fun _ => GW276.out, fun _ => GE276.out, fun _ => NB267_276.out, fun _ => NB276_267.out, fun _ h1_ => absurd ((up_self b 14).symm.trans h1_) (by decide), fun _ => GW277.out, fun _ => GE277.out, fun _ => NB267_277.out, fun _ => NB277_267.out, fun _ => (by (with_reducible repeat (first | refine blk_drewN ?_ _ | refine blk_drew ?_ | refine blk_alloc ?_ _)); refine blk_far ?_ NB276_277.out _; (with_reducible repeat (first | refine blk_drewN ?_ _ | refine blk_drew ?_ | refine blk_alloc ?_ _)); refine blk_far ?_ NB276_277.out _; (with_reducible repeat (first | refine blk_drewN ?_ _ | refine blk_drew ?_ | refine blk_alloc ?_ _)); exact BK276.out), fun _ => (by (with_reducible repeat (first | refine blk_drewN ?_ _ | refine blk_drew ?_ | refine blk_alloc ?_ _)); refine blk_put (cs := #[.int .i64 t274, .int .i64 0]) ?_ 1 _ rfl; (with_reducible repeat (first | refine blk_drewN ?_ _ | refine blk_drew ?_ | refine blk_alloc ?_ _)); refine blk_put (cs := #[.int .i64 0, .int .i64 0]) ?_ 0 _ rfl; (with_reducible repeat (first | refine blk_drewN ?_ _ | refine blk_drew ?_ | refine blk_alloc ?_ _)); exact BK277.out), Q_X7_, Q_X8_, Q_X9_, Q_X11_, Q_X12_⟩
                          exact steps_nil
                        rintro b a w34 hall ⟨v272, gb276, gb277, m7_, m8_, m9_, m11_, m12_, ha, Q_HO_268000, Q_BK267, Q_HB, Q_NB277_276, Q_NB276_277, Q_HO273, Q_BK276, Q_GW276, Q_GE276, Q_NB267_276, Q_NB276_267, Q_BK277, Q_GW277, Q_GE277, Q_NB267_277, Q_NB277_267, Q_BK276_e13, Q_BK277_e14, Q_X7_, Q_X8_, Q_X9_, Q_X11_, Q_X12_⟩
                        clear BK267 HB HO_268000
                        have hb0_ := hall 0 (by kernel_rfl)
                        have hb2_ := hall 2 (by kernel_rfl)
                        have hb4_ := hall 4 (by kernel_rfl)
                        have hb5_ := hall 5 (by kernel_rfl)
                        have hb6_ := hall 6 (by kernel_rfl)
                        have hb7_ := hall 7 (by kernel_rfl)
                        have hb8_ := hall 8 (by kernel_rfl)
                        have hb9_ := hall 9 (by kernel_rfl)
                        have hb10_ := hall 10 (by kernel_rfl)
                        have hb11_ := hall 11 (by kernel_rfl)
                        have hb12_ := hall 12 (by kernel_rfl)
                        have hb13_ := hall 13 (by kernel_rfl)
                        have hb14_ := hall 14 (by kernel_rfl)
                        subst ha
                        obtain rfl := Q_X7_ hb7_
                        obtain rfl := Q_X8_ hb8_
                        obtain rfl := Q_X9_ hb9_
                        obtain rfl := Q_X11_ hb11_
                        obtain rfl := Q_X12_ hb12_
                        simp only [putSel, hb0_, hb2_, hb4_, hb5_, hb6_, hb7_, hb8_, hb9_, hb10_, hb11_, hb12_, hb13_, hb14_, if_true, Act.put, List.setIfInBounds_toArray, List.set_cons_zero, List.set_cons_succ]
                        have HO_268000 := Aside0.mk Q_HO_268000
                        clear Q_HO_268000
                        have BK267 := Aside0.mk Q_BK267
                        clear Q_BK267
                        have HB := Aside0.mk Q_HB
                        clear Q_HB
                        have NB277_276 := Aside0.mk (Q_NB277_276 hb11_ hb12_)
                        clear Q_NB277_276
                        have NB276_277 := Aside0.mk (Q_NB276_277 hb11_ hb12_)
                        clear Q_NB276_277
                        have HO273 := Aside0.mk (Q_HO273 hb7_)
                        clear Q_HO273
                        clear Q_BK276
                        have GW276 := Aside0.mk (Q_GW276 hb11_)
                        clear Q_GW276
                        have GE276 := Aside0.mk (Q_GE276 hb11_)
                        clear Q_GE276
                        have NB267_276 := Aside0.mk (Q_NB267_276 hb11_)
                        clear Q_NB267_276
                        have NB276_267 := Aside0.mk (Q_NB276_267 hb11_)
                        clear Q_NB276_267
                        clear Q_BK277
                        have GW277 := Aside0.mk (Q_GW277 hb12_)
                        clear Q_GW277
                        have GE277 := Aside0.mk (Q_GE277 hb12_)
                        clear Q_GE277
                        have NB267_277 := Aside0.mk (Q_NB267_277 hb12_)
                        clear Q_NB267_277
                        have NB277_267 := Aside0.mk (Q_NB277_267 hb12_)
                        clear Q_NB277_267
                        have BK276 := Aside0.mk (Q_BK276_e13 hb13_)
                        clear Q_BK276_e13
                        have BK277 := Aside0.mk (Q_BK277_e14 hb14_)
                        clear Q_BK277_e14
                        clear hall hb0_ hb2_ hb4_ hb5_ hb6_ hb7_ hb8_ hb9_ hb10_ hb11_ hb12_ hb13_ hb14_
                        have hnb35 := NB267_276.out
                        have hnc35 := NB276_267.out
                        have hnb36 := NB267_277.out
                        have hnc36 := NB277_267.out
                        have hcz37_0 : w34.cell? ⟨gb267, 0, none⟩ = some (.slice (some ad270) t264.length co9) := (blk_cell BK267.out 0).trans rfl
                        have hfz37_0 := blk_frozen BK267.out 0
                        have q38 : (x5_1 : Int) ≤ ((t264.length : Int) : Int) := of_decide_eq_true (by first | (with_reducible assumption) | assumption)
                        obtain ⟨i038, hi038, _, hsz38, _⟩ := info_parts info39
                        have hroom38 : t264.length ≤ co9 := (Kd.R_reads' HO_268000.out).2.1
                        have hC38 : Kd.C k39 _ (some ad270) t264.length t264 := (Kd.R_reads' HO_268000.out).2.2
                        have hcut38 := cut_to (P := Try.prog) 23 39 .i64 Try.underlying23 hi038 (some ad270) t264.length co9 x5_1 (of_decide_eq_true (by first | (with_reducible assumption) | assumption)) q38 hroom38
                        have hr38 := Kd.C_take (m := (x5_1 : Int).toNat) hC38 (by omega)
                        have hy38 : y278.length = (x5_1 : Int).toNat := (by rw [Ny278.out, List.length_take]; omega)
                        rw [← Ny278.out] at hr38
                        rw [← hy38] at hcut38
                        have HR281 := Aside0.mk hr38
                        have HC281 := Aside0.mk (show y278.length ≤ co9 from by omega)
                        clear hr38 hC38 hroom38 hi038 hsz38
                        have KY38 := Aside0.mk hy38
                        clear hy38
                        have KL38 := Aside0.mk (show (x5_1 : Int).toNat ≤ t264.length from by omega)
                        replace q38 := eq_true q38
                        try go_wp2_with (first | ((with_reducible refine gate_callee (f := 17) rfl ?_); refine goesL_ (some 45) rfl rfl Try.func17 (by kernel_rfl) rfl #[.agg #[.slice (some ad270) y278.length co9]] rfl (by (try simp only [List.map_toArray, List.map_cons, List.map_nil]); first | done | rfl | (simp only [List.length_drop, List.length_take]; rfl)) ?_; (with_reducible refine (impl_MapOk.calls k1 _ _ y278 true _ ?side1 ?side2 A20.out).mono ?_); (case side1 => repeat (first | exact (by repeat (first | (with_reducible exact HR281.out) | (with_reducible refine Kd.C_alloc ?_ _) | (with_reducible refine Kd.C_drewN ?_ _) | (with_reducible refine Kd.C_drew ?_) | exact HR281.out)) | (with_reducible refine Kd.C_alloc ?_ _) | (with_reducible refine Kd.C_drewN ?_ _) | (with_reducible refine Kd.C_drew ?_))); (case side2 => exact HC281.out); rintro e w39 ⟨rfl, hb⟩; refine ⟨_, rfl, ?_⟩; have n0_ := Aside0.mk (Kd.R_below (by (with_reducible repeat (first | apply Kd.R_alloc | apply Kd.R_drewN | apply Kd.R_drew)); exact HO_268000.out) hb); have n1_ := Aside0.mk (Kd.R_below (by (with_reducible repeat (first | apply Kd.R_alloc | apply Kd.R_drewN | apply Kd.R_drew)); exact HO273.out) hb); have n2_ := Aside0.mk (blk_below (g := gb267) (o := .cells #[.slice (some ad270) t264.length co9] 25 (0, 0)) (by (with_reducible repeat (first | refine blk_drewN ?_ _ | refine blk_drew ?_ | refine blk_alloc ?_ _)); exact BK267.out) hb); have n3_ := Aside0.mk (blk_below (g := gb276) (o := .cells #[v272] 25 (0, 0)) (by (with_reducible repeat (first | refine blk_drewN ?_ _ | refine blk_drew ?_ | refine blk_alloc ?_ _)); exact BK276.out) hb); have n4_ := Aside0.mk (blk_below (g := gb277) (o := .cells #[.int .i64 t274, .int .i64 t275] 29 (0, 0)) (by (with_reducible repeat (first | refine blk_drewN ?_ _ | refine blk_drew ?_ | refine blk_alloc ?_ _)); exact BK277.out) hb); have n5_ := Aside0.mk (Kd.C_below (by repeat (first | (with_reducible exact HR281.out) | (with_reducible refine Kd.C_alloc ?_ _) | (with_reducible refine Kd.C_drewN ?_ _) | (with_reducible refine Kd.C_drew ?_) | exact HR281.out)) hb); have n6_ := Aside0.mk (below_step (by repeat (first | (with_reducible first | exact HB.out | apply below_alloc | apply pw_below_drewN | apply below_drew1 | refine below_set ?_ GE267.out | refine below_set ?_ GE276.out | refine below_set ?_ GE277.out) | exact HB.out)) hb); clear HO_268000; clear HO273; clear BK267; clear BK276; clear BK277; clear HR281; clear HB; have HO_268000 := n0_; have HO273 := n1_; have BK267 := n2_; have BK276 := n3_; have BK277 := n4_; have HR281 := n5_; have HB := n6_; clear n0_ n1_ n2_ n3_ n4_ n5_ n6_; (try clear hb); (try clear hb2); (try clear hk); (try clear hi); have hnb40 := NB276_277.out; have hnc40 := NB277_276.out; have hcz41_0 : w39.cell? ⟨gb276, 0, none⟩ = some (v272) := (blk_cell BK276.out 0).trans rfl; have hfz41_0 := blk_frozen BK276.out 0; obtain ⟨Ao42, co42, eo42⟩ := Kd.R_slice HO273.out; subst eo42) | (go_at_call 17; (with_reducible refine (impl_MapOk.calls k1 _ _ t271 true _ ?side1 ?side2 A22.out).mono ?_); (case side1 => repeat (first | exact (Kd.R_reads' HO273.out).2.2 | (with_reducible refine Kd.C_alloc ?_ _) | (with_reducible refine Kd.C_drewN ?_ _) | (with_reducible refine Kd.C_drew ?_))); (case side2 => exact (Kd.R_reads' HO273.out).2.1); rintro e w43 ⟨rfl, hb⟩; have n0_ := Aside0.mk (Kd.R_below (by (with_reducible repeat (first | apply Kd.R_alloc | apply Kd.R_drewN | apply Kd.R_drew)); exact HO_268000.out) hb); have n1_ := Aside0.mk (Kd.R_below (by (with_reducible repeat (first | apply Kd.R_alloc | apply Kd.R_drewN | apply Kd.R_drew)); exact HO273.out) hb); have n2_ := Aside0.mk (blk_below (g := gb267) (o := .cells #[.slice (some ad270) t264.length co9] 25 (0, 0)) (by (with_reducible repeat (first | refine blk_drewN ?_ _ | refine blk_drew ?_ | refine blk_alloc ?_ _)); exact BK267.out) hb); have n3_ := Aside0.mk (blk_below (g := gb276) (o := .cells #[.slice Ao42 t271.length co42] 25 (0, 0)) (by (with_reducible repeat (first | refine blk_drewN ?_ _ | refine blk_drew ?_ | refine blk_alloc ?_ _)); exact BK276.out) hb); have n4_ := Aside0.mk (blk_below (g := gb277) (o := .cells #[.int .i64 t274, .int .i64 t275] 29 (0, 0)) (by (with_reducible repeat (first | refine blk_drewN ?_ _ | refine blk_drew ?_ | refine blk_alloc ?_ _)); exact BK277.out) hb); have n5_ := Aside0.mk (Kd.C_below (by repeat (first | (with_reducible exact HR281.out) | (with_reducible refine Kd.C_alloc ?_ _) | (with_reducible refine Kd.C_drewN ?_ _) | (with_reducible refine Kd.C_drew ?_) | exact HR281.out)) hb); have n6_ := Aside0.mk (below_step (by repeat (first | (with_reducible first | exact HB.out | apply below_alloc | apply pw_below_drewN | apply below_drew1 | refine below_set ?_ GE267.out | refine below_set ?_ GE276.out | refine below_set ?_ GE277.out) | exact HB.out)) hb); clear HO_268000; clear HO273; clear BK267; clear BK276; clear BK277; clear HR281; clear HB; have HO_268000 := n0_; have HO273 := n1_; have BK267 := n2_; have BK276 := n3_; have BK277 := n4_; have HR281 := n5_; have HB := n6_; clear n0_ n1_ n2_ n3_ n4_ n5_ n6_; (try clear hb); (try clear hb2); (try clear hk); (try clear hi); have hcz44_0 : w43.cell? ⟨gb276, 0, none⟩ = some (.slice Ao42 t271.length co42) := (blk_cell BK276.out 0).trans rfl; have hfz44_0 := blk_frozen BK276.out 0; have hcz45_0 : w43.cell? ⟨gb267, 0, none⟩ = some (.slice (some ad270) t264.length co9) := (blk_cell BK267.out 0).trans rfl; have hfz45_0 := blk_frozen BK267.out 0))
                        go_roundg k1
                        case measure => have := HK1.out; omega
                        case rel => exact ⟨(wrap64 (x5_1 + 1)), (by first | rfl | (simp; done) | (simp [*]; done)), H', ⟨by have := HK1.out; omega⟩, ⟨by (with_reducible repeat (first | apply Kd.R_alloc | apply Kd.R_drewN | apply Kd.R_drew)); exact Kd.R_mono HO_268000.out (fun _ hk => trivial)⟩, ⟨by (with_reducible repeat (first | refine blk_drewN ?_ _ | refine blk_drew ?_ | refine blk_alloc ?_ _)); exact BK267.out⟩, ⟨by repeat (first | (with_reducible first | exact HB.out | apply below_alloc | apply pw_below_drewN | apply below_drew1 | refine below_set ?_ GE267.out | refine below_set ?_ GE276.out | refine below_set ?_ GE277.out) | exact HB.out)⟩⟩
                      · rw [if_neg c24] at H
                        have c24b0 : ((t271.length : Int) == (wrap64 ((t264.length : Int) - 1))) = false := beq_eq_false_iff_ne.mpr c24
                        have c24b1 : ((t271.length : Int) != (wrap64 ((t264.length : Int) - 1))) = true := bne_iff_ne.mpr c24
                        exact absurd (Option.some.inj H) (by rw [HT.out]; decide)
                    · replace c23 := Bool.eq_false_iff.mpr c23
                      subst c23
                      have H1 : (some false) = some r := by rw [if_neg (show ¬ (false = true) by decide)] at H; exact H
                      clear H
                      have H := H1
                      clear H1
                      exact absurd (Option.some.inj H) (by rw [HT.out]; decide)
                  · replace c21 := Bool.eq_false_iff.mpr c21
                    subst c21
                    have H1 : (some false) = some r := by rw [if_neg (show ¬ (false = true) by decide)] at H; exact H
                    clear H
                    have H := H1
                    clear H1
                    exact absurd (Option.some.inj H) (by rw [HT.out]; decide)
                · rw [if_neg c19] at H
                  exact absurd H (by simp)
              · rw [if_neg c16] at H
                exact absurd H (by simp)
            · rw [if_neg c15] at H
              have c15b0 : decide (x5_1 < (t264.length : Int)) = false := decide_eq_false c15
              clear c15
              obtain rfl := Option.some.inj H
              have hcz46_0 : wr.cell? ⟨gb267, 0, none⟩ = some (.slice Ao9 t264.length co9) := (blk_cell BK267.out 0).trans rfl
              have hfz46_0 := blk_frozen BK267.out 0
              go_wp2
              go_ret
              exact ⟨by first | rfl | (simp [errW_none, errW_some] <;> rfl) | (simp [*, errW_none, errW_some] <;> rfl), by repeat (first | (with_reducible first | exact HB.out | apply below_alloc | apply pw_below_drewN | apply below_drew1 | refine below_set ?_ GE267.out) | exact HB.out)⟩
          · replace c14 := Bool.eq_false_iff.mpr c14
            subst c14
            have H1 : (if (t264.length : Int) > 0 then ((laws_tgOk.f k1).bind fun t284 => (some t284)) else (some false)) = some r := by rw [if_neg (show ¬ (false = true) by decide)] at H; exact H
            clear H
            have H := H1
            clear H1
            by_cases c47 : (t264.length : Int) > 0
            · rw [if_pos c47] at H
              have c47b0 : decide (0 < (t264.length : Int)) = true := decide_eq_true c47
              have c47b1 : decide (0 < t264.length) = true := decide_eq_true (by omega)
              clear c47
              replace H := Option.bind_eq_some_iff.mp H
              obtain ⟨t284, A480, H⟩ := H
              replace H : (some t284) = some r := H
              have A48 := Aside0.mk A480
              clear A480
              obtain rfl := Option.some.inj H
              have hcz49_0 : wr.cell? ⟨gb267, 0, none⟩ = some (.slice Ao9 t264.length co9) := (blk_cell BK267.out 0).trans rfl
              have hfz49_0 := blk_frozen BK267.out 0
              go_wp2_with (first | (go_at_call 16; (with_reducible refine (laws_tgOk.calls k1  t284 _ A48.out).mono ?_); rintro e w50 ⟨rfl, hb⟩; have n0_ := Aside0.mk (Kd.R_below (by (with_reducible repeat (first | apply Kd.R_alloc | apply Kd.R_drewN | apply Kd.R_drew)); exact HO_268000.out) hb); have n1_ := Aside0.mk (blk_below (g := gb267) (o := .cells #[.slice Ao9 t264.length co9] 25 (0, 0)) (by (with_reducible repeat (first | refine blk_drewN ?_ _ | refine blk_drew ?_ | refine blk_alloc ?_ _)); exact BK267.out) hb); have n2_ := Aside0.mk (below_step (by repeat (first | (with_reducible first | exact HB.out | apply below_alloc | apply pw_below_drewN | apply below_drew1 | refine below_set ?_ GE267.out) | exact HB.out)) hb); clear HO_268000; clear BK267; clear HB; have HO_268000 := n0_; have BK267 := n1_; have HB := n2_; clear n0_ n1_ n2_; (try clear hb); (try clear hb2); (try clear hk); (try clear hi)))
              go_ret
              exact ⟨by first | rfl | (simp [errW_none, errW_some] <;> rfl) | (simp [*, errW_none, errW_some] <;> rfl), by repeat (first | (with_reducible first | exact HB.out | apply below_alloc | apply pw_below_drewN | apply below_drew1 | refine below_set ?_ GE267.out) | exact HB.out)⟩
            · rw [if_neg c47] at H
              have c47b0 : decide (0 < (t264.length : Int)) = false := decide_eq_false c47
              have c47b1 : decide (0 < t264.length) = false := decide_eq_false (by omega)
              clear c47
              exact absurd (Option.some.inj H) (by rw [HT.out]; decide)

/-- THE ONE PURE STATEMENT of laws_FnMapOk: yours. -/
def laws_FnMapOk.Pure : Prop := ∀ (l0 : List Int), l0.length ≤ maxLen → l0.length * 1 ≤ 140737488351232 → (∀ x ∈ l0, (Lit.int .u8 x).wf = true) → ∃ k, laws_FnMapOk.f k l0 = some true
theorem laws_FnMapOk.walk (P : laws_FnMapOk.Pure) (a0 : Option Addr) (len0 cap0 : Nat) (z0 : List Int) (w : World) (w0 : (a0 = none ∧ len0 = 0 ∧ cap0 = 0 ∧ z0 = []) ∨ ∃ x, a0 = some x ∧ len0 ≤ cap0 ∧ cap0 ≤ maxLen ∧ z0.length = cap0 ∧ (∀ i, i < z0.length → w.cell? (x.add i) = some (.int .u8 (z0.getD i 0))) ∧ ∀ n ∈ z0, (Lit.int .u8 n).wf = true) (y0 : len0 * 1 ≤ 140737488351232) :
    Calls Try.prog 7 #[.slice a0 len0 cap0] w fun e w' => e = .returned (.bool true) ∧ Below w.heap.size w w' := by
  obtain ⟨l0, rfl, hr0, hm0, hw0, hc0⟩ := ReadsInt.ofRowC w0
  obtain ⟨k, h⟩ := P l0 hm0 y0 hw0
  refine (laws_FnMapOk.calls k _ _ l0 true w (Kd.C_of_reads (d := (0 : Int)) (h1 := fun _ => rfl) hr0) hc0 rfl h).mono ?_
  rintro e w' ⟨rfl, hd⟩
  exact ⟨rfl, hd⟩

end Go.Proofs.Ytabihpjgkkmnjaa.GFnMapOk
