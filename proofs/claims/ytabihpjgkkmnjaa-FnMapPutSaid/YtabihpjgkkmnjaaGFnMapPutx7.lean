/- The functions that the law reaches, as plain Lean functions, and that the machine comes to their answers: laid by a program of this session. Conditions: none. -/
import Derived.Test.YtabihpjgkkmnjaaGFnMapPutx0
import Derived.Test.YtabihpjgkkmnjaaGFnMapPutx5
import Derived.Test.YtabihpjgkkmnjaaGFnMapPutx6
namespace Go.Proofs.Ytabihpjgkkmnjaa.GFnMapPut
open Go.RowKit Go.Proofs.YtabihpjgkkmnjaaW.PrintWords Go.Proofs.YtabihpjgkkmnjaaW.PrintLast Go.Proofs.YtabihpjgkkmnjaaW.PrintMore
attribute [local go_sem] max2_int min2_int max_two min_two max_three min_three max_four min_four   -- for this text's walks alone
set_option linter.unusedVariables false
set_option linter.unusedSimpArgs false
open Go.Proofs.YtabihpjgkkmnjaaW.PrintWords.Kd renaming R_alloc → rA_, R_drewN → rN_, R_drew → rD_, R_far → rF_, R_mono → rM_
open Go.Proofs.YtabihpjgkkmnjaaW.PrintWords renaming pw_below_drewN → bN_, below_alloc → bA_, below_drew1 → bD_, blk_alloc → kA_, blk_drewN → kN_, blk_drew → kD_
open Go.Proofs.YtabihpjgkkmnjaaW.PrintWords.Aside0 renaming mk → aS_

/-! ### spec_l20Map: function 49 -/
mutual
def spec_l20Map.l0 : Nat → Int → Int → List Int → Int → List (S39) → Option ((List (S39)) × Int)
  | 0, _, _, _, _, _ => none
  | k + 1, x1, x6, x1000, x1001, x239000 => if x6 > 0 then ((spec_l20Rd_pick.f k x1000 x1001 10).bind fun bt241 => ((spec_l20Rd_pick.f k x1000 bt241.2 100).bind fun bt243 => ((some (([bt241.1, bt243.1, 0, 99] : List Int) : List Int)).bind fun y245 => ((spec_l20Rd_pick.f k x1000 bt243.2 4).bind fun bt248 => (if 0 ≤ bt248.1 then (if bt248.1 < (y245.length : Int) then ((spec_l20Rd_pick.f k x1000 bt248.2 10).bind fun bt251 => ((some (([bt251.1, 999, 0] : List Int) : List Int)).bind fun y253 => ((spec_l20Rd_pick.f k x1000 bt251.2 3).bind fun bt256 => (if 0 ≤ bt256.1 then (if bt256.1 < (y253.length : Int) then ((spec_MapPut.f k x239000 (rd y245 bt248.1) (rd y253 bt256.1)).bind fun bt259 => (spec_l20Map.l0 k x1 (wrap64 (x6 - 1)) x1000 bt256.2 bt259.1)) else (none)) else (none))))) else (none)) else (none)))))) else ((spec_l20Rd_odd.f k x1000 x1001 x1).bind fun bt266 => (if bt266.1 = true then ((spec_l20Rd_pick.f k x1000 bt266.2 4).bind fun bt268 => (if bt268.1 = 0 then (if x239000.length < 8796093022208 then (some ((x239000 ++ [(⟨0, 0⟩ : S39)]), bt268.2)) else (none)) else (if bt268.1 = 1 then (if x239000.length < 8796093022208 then (some ((x239000 ++ [(⟨100, 0⟩ : S39)]), bt268.2)) else (none)) else (if bt268.1 = 2 then (if x239000.length < 8796093022208 then (some ((x239000 ++ [(⟨99, (-1)⟩ : S39)]), bt268.2)) else (none)) else (spec_l20Map.l1 k x1000 bt268.2 x239000))))) else (some (x239000, bt266.2))))
def spec_l20Map.l1 : Nat → List Int → Int → List (S39) → Option ((List (S39)) × Int)
  | 0, _, _, _ => none
  | k + 1, x1000, x1001, x239000 => if (x239000.length : Int) ≤ 8 then (if x239000.length < 8796093022208 then (spec_l20Map.l1 k x1000 x1001 (x239000 ++ [(⟨wrap64 (90 + (x239000.length : Int)), 0⟩ : S39)])) else (none)) else (some (x239000, x1001))
end
def spec_l20Map.f (k : Nat) (s0_0 : List Int) (s0_1 : Int) (a1 : Int) : Option ((List (S39)) × Int) := (spec_l20Rd_pick.f k s0_0 s0_1 9).bind fun bt239 => (spec_l20Map.l0 k a1 bt239.1 s0_0 bt239.2 ([] : List (S39)))
theorem spec_l20Map.mono_l : ∀ k, (∀ y0 y1 y2 y3 y4, LeO (spec_l20Map.l0 k y0 y1 y2 y3 y4) (spec_l20Map.l0 (k + 1) y0 y1 y2 y3 y4)) ∧ (∀ y0 y1 y2, LeO (spec_l20Map.l1 k y0 y1 y2) (spec_l20Map.l1 (k + 1) y0 y1 y2))
  | 0 => ⟨fun _ _ _ _ _ r h => by simp [spec_l20Map.l0] at h, fun _ _ _ r h => by simp [spec_l20Map.l1] at h⟩
  | k + 1 => by
    obtain ⟨ih0, ih1⟩ := spec_l20Map.mono_l k
    refine ⟨?_, ?_⟩
    · intro y0 y1 y2 y3 y4
      unfold spec_l20Map.l0
      repeat' first
      | (with_reducible exact ih0 _ _ _ _ _)
      | (with_reducible exact ih1 _ _ _)
      | (with_reducible exact spec_MapPut.mono _ _ _ _)
      | (with_reducible exact spec_l20Rd_odd.mono _ _ _ _)
      | (with_reducible exact spec_l20Rd_pick.mono _ _ _ _)
      | (with_reducible exact LeO.refl _)
      | (with_reducible exact LeO.none _)
      | (with_reducible refine LeO.ite ?_ ?_)
      | (with_reducible refine LeO.bind ?_ (fun _ => ?_))
      | exact ih0 _ _ _ _ _
      | exact ih1 _ _ _
      | exact spec_MapPut.mono _ _ _ _
      | exact spec_l20Rd_odd.mono _ _ _ _
      | exact spec_l20Rd_pick.mono _ _ _ _
      | exact LeO.none _
      | refine LeO.ite ?_ ?_
      | refine LeO.bind ?_ (fun _ => ?_)
    · intro y0 y1 y2
      unfold spec_l20Map.l1
      repeat' first
      | (with_reducible exact ih0 _ _ _ _ _)
      | (with_reducible exact ih1 _ _ _)
      | (with_reducible exact spec_MapPut.mono _ _ _ _)
      | (with_reducible exact spec_l20Rd_odd.mono _ _ _ _)
      | (with_reducible exact spec_l20Rd_pick.mono _ _ _ _)
      | (with_reducible exact LeO.refl _)
      | (with_reducible exact LeO.none _)
      | (with_reducible refine LeO.ite ?_ ?_)
      | (with_reducible refine LeO.bind ?_ (fun _ => ?_))
      | exact ih0 _ _ _ _ _
      | exact ih1 _ _ _
      | exact spec_MapPut.mono _ _ _ _
      | exact spec_l20Rd_odd.mono _ _ _ _
      | exact spec_l20Rd_pick.mono _ _ _ _
      | exact LeO.none _
      | refine LeO.ite ?_ ?_
      | refine LeO.bind ?_ (fun _ => ?_)
theorem spec_l20Map.mono : ∀ a0 a1 a2 k, LeO (spec_l20Map.f k a0 a1 a2) (spec_l20Map.f (k + 1) a0 a1 a2) := by
  intro a0 a1 a2 k
  obtain ⟨ih0, ih1⟩ := spec_l20Map.mono_l k
  unfold spec_l20Map.f
  repeat' first
      | (with_reducible exact ih0 _ _ _ _ _)
      | (with_reducible exact ih1 _ _ _)
      | (with_reducible exact spec_MapPut.mono _ _ _ _)
      | (with_reducible exact spec_l20Rd_odd.mono _ _ _ _)
      | (with_reducible exact spec_l20Rd_pick.mono _ _ _ _)
      | (with_reducible exact LeO.refl _)
      | (with_reducible exact LeO.none _)
      | (with_reducible refine LeO.ite ?_ ?_)
      | (with_reducible refine LeO.bind ?_ (fun _ => ?_))
      | exact ih0 _ _ _ _ _
      | exact ih1 _ _ _
      | exact spec_MapPut.mono _ _ _ _
      | exact spec_l20Rd_odd.mono _ _ _ _
      | exact spec_l20Rd_pick.mono _ _ _ _
      | exact LeO.none _
      | refine LeO.ite ?_ ?_
      | refine LeO.bind ?_ (fun _ => ?_)
def spec_l20Map.T5 : Bool × List (List Nat × List Nat) := (true, [([], []), ([], []), ([1], [1]), ([], []), ([3, 2], [3]), ([2, 4], [2, 4]), ([], []), ([6, 4], [6]), ([5, 7], [5, 7]), ([8], [8]), ([], []), ([10, 7], [10]), ([11], [11]), ([], []), ([13, 11], [13]), ([12, 14], [12, 14]), ([15], [15]), ([0, 9, 16, 14], [0, 9, 16]), ([17], [17]), ([18], [18]), ([18], [18]), ([], []), ([], []), ([21, 19, 17, 0, 1, 2, 3, 4, 5, 6, 7, 8, 9, 10, 11, 12, 13, 14, 15, 16, 17, 18, 19, 21, 22], [19, 21]), ([22, 20, 23, 0, 1, 2, 3, 4, 5, 6, 7, 8, 9, 10, 11, 12, 13, 14, 15, 16, 17, 18, 19, 20, 21, 22, 23], [20, 22])])
def spec_l20Map.B5 : List Nat := [0, 0, 2, 0, 14, 30, 0, 94, 254, 510, 0, 1246, 3294, 0, 11486, 31966, 64734, 131071, 262143, 524287, 524287, 0, 0, 7340031, 16777215]
theorem spec_l20Map.tab5 : rtab .any (opsOf Try.f49 5) = spec_l20Map.T5 := by kernel_rfl
theorem spec_l20Map.bits5 : waitsOk spec_l20Map.T5.2 spec_l20Map.B5 = true := by kernel_rfl
set_option maxHeartbeats 8000000 in
set_option maxRecDepth 100000 in
theorem spec_l20Map.calls (k : Nat) (g : Nat) (s0_0 : List Int) (s0_1 : Int) (a1 : Int) (r1 : List (S39)) (r2 : Int) (w0 w : World) (hI : IsS77 w0 w g s0_0 s0_1) (hB : Below w0.heap.size w0 w) (h : spec_l20Map.f k s0_0 s0_1 a1 = some (r1, r2)) :
    Calls Try.prog 49 #[.pointer (some ⟨g, 0, none⟩), .int .i64 a1] w fun e w' => ∃ v0_ : Value, e = .returned (.agg #[v0_]) ∧ Kd.R k39 39 w' w.heap.size (fun _ => True) v0_ r1 ∧ IsS77 w0 w' g s0_0 r2 ∧ Below w0.heap.size w0 w' ∧ KeepBut w w' g none := by
  have hu25 := Try.underlying25
  have hu29 := Try.underlying29
  have hu39 := Try.underlying39
  have HI0 := aS_ hI
  have HGS := aS_ (IsS77.lt hI)
  have HK := aS_ (KeepBut.refl w g none)
  have HL := aS_ hB.size
  clear hI
  have HW0 := aS_ hB.size
  have HB := aS_ hB
  clear hB
  have H : ((spec_l20Rd_pick.f k s0_0 s0_1 9).bind fun bt239 => (spec_l20Map.l0 k a1 bt239.1 s0_0 bt239.2 ([] : List (S39)))) = some (r1, r2) := h
  clear h
  replace H := Option.bind_eq_some_iff.mp H
  obtain ⟨⟨t239, t240⟩, A30, H⟩ := H
  replace H : (spec_l20Map.l0 k a1 t239 s0_0 t240 ([] : List (S39))) = some (r1, r2) := H
  have A3 := aS_ A30
  clear A30
  have H' := aS_ H
  clear H
  go_enter Try.func49, Try.ntmps49
  go_wp2_with (first | ((with_reducible refine gate_dst (N := 4) rfl ?_); refine box_event ?hg (N := 4) ?hd (cs := #[.slice none 0 0]) (t := 25) ?hr ?_; (case hd => rfl); (case hg => rfl); (case hr => first | (go_simp; done) | (go_simp; rfl)); intro gb237 hg w4 hbox hb; have n0_ := aS_ (IsS77.below (by repeat (first | (with_reducible first | exact HI0.out | apply IsS77.alloc | apply IsS77.drewN | apply IsS77.drew | apply IsS77.set_1) | exact HI0.out)) hb); have n1_ := aS_ (KeepBut.trans (by repeat (first | (with_reducible first | exact HK.out | apply KeepBut.set_ | apply keep_drewN | apply keep_drew | apply keep_alloc) | exact HK.out)) (KeepBut.of_below hb g none) (.inl rfl)); have n2_ := aS_ (below_step (by repeat (first | (with_reducible first | exact HB.out | apply bA_ | apply bN_ | apply bD_ | refine below_set ?_ (IsS77.ge HI0.out)) | exact HB.out)) hb); have n3_ := aS_ (hbox); have n4_ := aS_ ((by rw [hg]; exact (keep_size (w := w) (g := g) (row := none) (by repeat (first | (with_reducible first | exact HK.out | apply KeepBut.set_ | apply keep_drewN | apply keep_drew | apply keep_alloc) | exact HK.out))) : w.heap.size ≤ gb237)); have n5_ := aS_ ((Nat.le_trans HW0.out (by rw [hg]; exact (keep_size (w := w) (g := g) (row := none) (by repeat (first | (with_reducible first | exact HK.out | apply KeepBut.set_ | apply keep_drewN | apply keep_drew | apply keep_alloc) | exact HK.out))) : w.heap.size ≤ gb237) : w0.heap.size ≤ gb237)); have n6_ := aS_ ((by rw [hg]; exact Nat.ne_of_lt (IsS77.lt (show IsS77 w0 _ g s0_0 s0_1 from by repeat (first | (with_reducible first | exact HI0.out | apply IsS77.alloc | apply IsS77.drewN | apply IsS77.drew | apply IsS77.set_1) | exact HI0.out))) : g ≠ gb237)); have n7_ := aS_ ((by rw [hg]; exact Nat.ne_of_gt (IsS77.lt (show IsS77 w0 _ g s0_0 s0_1 from by repeat (first | (with_reducible first | exact HI0.out | apply IsS77.alloc | apply IsS77.drewN | apply IsS77.drew | apply IsS77.set_1) | exact HI0.out))) : gb237 ≠ g)); clear HI0; clear HK; clear HB; have HI0 := n0_; have HK := n1_; have HB := n2_; have BK237 := n3_; have GW237 := n4_; have GE237 := n5_; have NB0_237 := n6_; have NB237_0 := n7_; clear n0_ n1_ n2_ n3_ n4_ n5_ n6_ n7_; clear hb hbox hg) | ((with_reducible refine gate_dst (N := 5) rfl ?_); refine box_event ?hg (N := 5) ?hd (cs := #[.slice none 0 0]) (t := 25) ?hr ?_; (case hd => rfl); (case hg => rfl); (case hr => first | (go_simp; done) | (go_simp; rfl)); intro gb238 hg w5 hbox hb; have n0_ := aS_ (IsS77.below (by repeat (first | (with_reducible first | exact HI0.out | apply IsS77.alloc | apply IsS77.drewN | apply IsS77.drew | apply IsS77.set_1 | refine IsS77.far ?_ NB0_237.out _) | exact HI0.out)) hb); have n1_ := aS_ (blk_below (g := gb237) (o := .cells #[.slice none 0 0] 25 (0, 0)) (by (with_reducible repeat (first | refine kN_ ?_ _ | refine kD_ ?_ | refine kA_ ?_ _)); exact BK237.out) hb); have n2_ := aS_ (KeepBut.trans (by repeat (first | (with_reducible first | exact HK.out | apply KeepBut.set_ | apply keep_drewN | apply keep_drew | apply keep_alloc | refine keep_far ?_ GW237.out _) | exact HK.out)) (KeepBut.of_below hb g none) (.inl rfl)); have n3_ := aS_ (below_step (by repeat (first | (with_reducible first | exact HB.out | apply bA_ | apply bN_ | apply bD_ | refine below_set ?_ (IsS77.ge HI0.out) | refine below_set ?_ GE237.out) | exact HB.out)) hb); have n4_ := aS_ (hbox); have n5_ := aS_ ((by rw [hg]; exact (keep_size (w := w) (g := g) (row := none) (by repeat (first | (with_reducible first | exact HK.out | apply KeepBut.set_ | apply keep_drewN | apply keep_drew | apply keep_alloc | refine keep_far ?_ GW237.out _) | exact HK.out))) : w.heap.size ≤ gb238)); have n6_ := aS_ ((Nat.le_trans HW0.out (by rw [hg]; exact (keep_size (w := w) (g := g) (row := none) (by repeat (first | (with_reducible first | exact HK.out | apply KeepBut.set_ | apply keep_drewN | apply keep_drew | apply keep_alloc | refine keep_far ?_ GW237.out _) | exact HK.out))) : w.heap.size ≤ gb238) : w0.heap.size ≤ gb238)); have n7_ := aS_ ((by rw [hg]; exact Nat.ne_of_lt (blk_lt (g := gb237) (o := .cells #[.slice none 0 0] 25 (0, 0)) (by (with_reducible repeat (first | refine kN_ ?_ _ | refine kD_ ?_ | refine kA_ ?_ _)); exact BK237.out)) : gb237 ≠ gb238)); have n8_ := aS_ ((by rw [hg]; exact Nat.ne_of_gt (blk_lt (g := gb237) (o := .cells #[.slice none 0 0] 25 (0, 0)) (by (with_reducible repeat (first | refine kN_ ?_ _ | refine kD_ ?_ | refine kA_ ?_ _)); exact BK237.out)) : gb238 ≠ gb237)); have n9_ := aS_ ((by rw [hg]; exact Nat.ne_of_lt (IsS77.lt (show IsS77 w0 _ g s0_0 s0_1 from by repeat (first | (with_reducible first | exact HI0.out | apply IsS77.alloc | apply IsS77.drewN | apply IsS77.drew | apply IsS77.set_1 | refine IsS77.far ?_ NB0_237.out _) | exact HI0.out))) : g ≠ gb238)); have n10_ := aS_ ((by rw [hg]; exact Nat.ne_of_gt (IsS77.lt (show IsS77 w0 _ g s0_0 s0_1 from by repeat (first | (with_reducible first | exact HI0.out | apply IsS77.alloc | apply IsS77.drewN | apply IsS77.drew | apply IsS77.set_1 | refine IsS77.far ?_ NB0_237.out _) | exact HI0.out))) : gb238 ≠ g)); clear HI0; clear BK237; clear HK; clear HB; have HI0 := n0_; have BK237 := n1_; have HK := n2_; have HB := n3_; have BK238 := n4_; have GW238 := n5_; have GE238 := n6_; have NB237_238 := n7_; have NB238_237 := n8_; have NB0_238 := n9_; have NB238_0 := n10_; clear n0_ n1_ n2_ n3_ n4_ n5_ n6_ n7_ n8_ n9_ n10_; clear hb hbox hg; have hnb6 := NB238_237.out; have hnc6 := NB237_238.out; have hnb7 := NB238_0.out; have hnc7 := NB0_238.out; have hcz8_0 : w5.cell? ⟨gb238, 0, none⟩ = some (.slice none 0 0) := (blk_cell BK238.out 0).trans rfl; have hfz8_0 := blk_frozen BK238.out 0) | ((with_reducible refine gate_callee (f := 57) rfl ?_); refine goesL_ (some 11) rfl rfl Try.func57 (by kernel_rfl) rfl #[.pointer (some ⟨g, 0, none⟩), .int .i64 9] rfl (by (try simp only [List.map_toArray, List.map_cons, List.map_nil]); first | done | rfl | (simp only [List.length_drop, List.length_take]; rfl)) ?_; (with_reducible refine (spec_l20Rd_pick.calls k g s0_0 s0_1 9 t239 t240 w0 _ ?side1 ?side2 A3.out).mono ?_); (case side1 => repeat (first | (with_reducible first | exact HI0.out | apply IsS77.alloc | apply IsS77.drewN | apply IsS77.drew | apply IsS77.set_1 | refine IsS77.far ?_ NB0_237.out _ | refine IsS77.far ?_ NB0_238.out _) | exact HI0.out)); (case side2 => repeat (first | (with_reducible first | exact HB.out | apply bA_ | apply bN_ | apply bD_ | refine below_set ?_ (IsS77.ge HI0.out) | refine below_set ?_ GE237.out | refine below_set ?_ GE238.out) | exact HB.out)); rintro e w9 ⟨rfl, hi, hb, hk⟩; refine ⟨_, rfl, ?_⟩; have n0_ := aS_ (KeepBut.blk hk (g' := gb237) (o := .cells #[.slice none 0 0] 25 (0, 0)) (by (with_reducible repeat (first | refine kN_ ?_ _ | refine kD_ ?_ | refine kA_ ?_ _)); refine blk_far ?_ NB237_238.out _; (with_reducible repeat (first | refine kN_ ?_ _ | refine kD_ ?_ | refine kA_ ?_ _)); exact BK237.out) NB237_0.out (by simp)); have n1_ := aS_ (KeepBut.blk hk (g' := gb238) (o := .cells #[.slice none 0 0] 25 (0, 0)) (by (with_reducible repeat (first | refine kN_ ?_ _ | refine kD_ ?_ | refine kA_ ?_ _)); refine blk_put (cs := #[.slice none 0 0]) ?_ 0 _ rfl; (with_reducible repeat (first | refine kN_ ?_ _ | refine kD_ ?_ | refine kA_ ?_ _)); exact BK238.out) NB238_0.out (by simp)); have n2_ := aS_ (KeepBut.trans (by repeat (first | (with_reducible first | exact HK.out | apply KeepBut.set_ | apply keep_drewN | apply keep_drew | apply keep_alloc | refine keep_far ?_ GW237.out _ | refine keep_far ?_ GW238.out _) | exact HK.out)) hk (.inl rfl)); have n3_ := aS_ (hb); have n4_ := aS_ (hi); clear BK237; clear BK238; clear HK; clear HB; clear HI0; have BK237 := n0_; have BK238 := n1_; have HK := n2_; have HB := n3_; have HI0 := n4_; clear n0_ n1_ n2_ n3_ n4_; (try clear hb); (try clear hb2); (try clear hk); (try clear hi)))
  go_loopg [6] k (fun kq v6 w' => ∃ (x6_1 : Int) (x1001_1 : Int) (x239000_1 : List (S39)) (u239000 : Value), v6 = .int .i64 x6_1 ∧ Aside0 (spec_l20Map.l0 kq a1 x6_1 s0_0 x1001_1 x239000_1 = some (r1, r2)) ∧ Aside0 (kq ≤ k) ∧ Aside0 (Kd.R k39 39 w' w.heap.size (fun _ => True) u239000 x239000_1) ∧ Aside0 (w'.heap[gb237]? = some (.cells #[(.slice none 0 0)] 25 (0, 0))) ∧ Aside0 (w'.heap[gb238]? = some (.cells #[u239000] 25 (0, 0))) ∧ Aside0 (IsS77 w0 w' g s0_0 x1001_1) ∧ Aside0 (KeepBut w w' g none) ∧ Aside0 (Below w0.heap.size w0 w'))
  case atStart => exact ⟨(t239), (t240), (([] : List (S39))), (.slice none 0 0), (by first | rfl | (simp; done) | (simp [*]; done)), H', ⟨Nat.le_refl _⟩, ⟨by first | exact Kd.R_nil _ _ _ _ _ | exact Kd.N_nil _ _ _ _ _ | exact Kd.V_nil _ _ _ _ _ | exact Kd.Q_nil _ _ _ _ _ | exact Kd.S_nil _ _ _ _ _⟩, ⟨by (with_reducible repeat (first | refine kN_ ?_ _ | refine kD_ ?_ | refine kA_ ?_ _)); exact BK237.out⟩, ⟨by (with_reducible repeat (first | refine kN_ ?_ _ | refine kD_ ?_ | refine kA_ ?_ _)); exact BK238.out⟩, ⟨by repeat (first | (with_reducible first | exact HI0.out | apply IsS77.alloc | apply IsS77.drewN | apply IsS77.drew | apply IsS77.set_1 | refine IsS77.far ?_ NB0_237.out _ | refine IsS77.far ?_ NB0_238.out _) | exact HI0.out)⟩, ⟨by repeat (first | (with_reducible first | exact HK.out | apply KeepBut.set_ | apply keep_drewN | apply keep_drew | apply keep_alloc | refine keep_far ?_ GW237.out _ | refine keep_far ?_ GW238.out _) | exact HK.out)⟩, ⟨by repeat (first | (with_reducible first | exact HB.out | apply bA_ | apply bN_ | apply bD_ | refine below_set ?_ (IsS77.ge HI0.out) | refine below_set ?_ GE237.out | refine below_set ?_ GE238.out) | exact HB.out)⟩⟩
  case round =>
    clear H'
    try clear p2
    try clear c4
    try clear c5
    try clear c6
    try clear c7
    try clear hcz8_0
    try clear hfz8_0
    obtain ⟨x6_1, x1001_1, x239000_1, u239000, rfl, HA, HK1, HO_239000, BK237, BK238, HI0, HK, HB⟩ := hrel
    cases gk with
    | zero => exact absurd HA.out (by simp [spec_l20Map.l0])
    | succ k1 =>
      have H := HA.out
      clear HA
      simp only [spec_l20Map.l0] at H
      by_cases c10 : x6_1 > 0
      · rw [if_pos c10] at H
        have c10b0 : decide (0 < x6_1) = true := decide_eq_true c10
        clear c10
        replace H := Option.bind_eq_some_iff.mp H
        obtain ⟨⟨t241, t242⟩, A110, H⟩ := H
        replace H : ((spec_l20Rd_pick.f k1 s0_0 t242 100).bind fun bt243 => ((some (([t241, bt243.1, 0, 99] : List Int) : List Int)).bind fun y245 => ((spec_l20Rd_pick.f k1 s0_0 bt243.2 4).bind fun bt248 => (if 0 ≤ bt248.1 then (if bt248.1 < (y245.length : Int) then ((spec_l20Rd_pick.f k1 s0_0 bt248.2 10).bind fun bt251 => ((some (([bt251.1, 999, 0] : List Int) : List Int)).bind fun y253 => ((spec_l20Rd_pick.f k1 s0_0 bt251.2 3).bind fun bt256 => (if 0 ≤ bt256.1 then (if bt256.1 < (y253.length : Int) then ((spec_MapPut.f k1 x239000_1 (rd y245 bt248.1) (rd y253 bt256.1)).bind fun bt259 => (spec_l20Map.l0 k1 a1 (wrap64 (x6_1 - 1)) s0_0 bt256.2 bt259.1)) else (none)) else (none))))) else (none)) else (none))))) = some (r1, r2) := H
        have A11 := aS_ A110
        clear A110
        replace H := Option.bind_eq_some_iff.mp H
        obtain ⟨⟨t243, t244⟩, A120, H⟩ := H
        replace H : ((some (([t241, t243, 0, 99] : List Int) : List Int)).bind fun y245 => ((spec_l20Rd_pick.f k1 s0_0 t244 4).bind fun bt248 => (if 0 ≤ bt248.1 then (if bt248.1 < (y245.length : Int) then ((spec_l20Rd_pick.f k1 s0_0 bt248.2 10).bind fun bt251 => ((some (([bt251.1, 999, 0] : List Int) : List Int)).bind fun y253 => ((spec_l20Rd_pick.f k1 s0_0 bt251.2 3).bind fun bt256 => (if 0 ≤ bt256.1 then (if bt256.1 < (y253.length : Int) then ((spec_MapPut.f k1 x239000_1 (rd y245 bt248.1) (rd y253 bt256.1)).bind fun bt259 => (spec_l20Map.l0 k1 a1 (wrap64 (x6_1 - 1)) s0_0 bt256.2 bt259.1)) else (none)) else (none))))) else (none)) else (none)))) = some (r1, r2) := H
        have A12 := aS_ A120
        clear A120
        obtain ⟨y245, hy245⟩ : ∃ y_ : List Int, y_ = (([t241, t243, 0, 99] : List Int)) := ⟨_, rfl⟩
        replace H : ((spec_l20Rd_pick.f k1 s0_0 t244 4).bind fun bt248 => (if 0 ≤ bt248.1 then (if bt248.1 < (y245.length : Int) then ((spec_l20Rd_pick.f k1 s0_0 bt248.2 10).bind fun bt251 => ((some (([bt251.1, 999, 0] : List Int) : List Int)).bind fun y253 => ((spec_l20Rd_pick.f k1 s0_0 bt251.2 3).bind fun bt256 => (if 0 ≤ bt256.1 then (if bt256.1 < (y253.length : Int) then ((spec_MapPut.f k1 x239000_1 (rd y245 bt248.1) (rd y253 bt256.1)).bind fun bt259 => (spec_l20Map.l0 k1 a1 (wrap64 (x6_1 - 1)) s0_0 bt256.2 bt259.1)) else (none)) else (none))))) else (none)) else (none))) = some (r1, r2) := by first | (rw [hy245]; with_reducible exact H) | (have H2_ := (Option.bind_some _ _).symm.trans H; rw [hy245]; with_reducible exact H2_) | (have H2_ := (Option.bind_some _ _).symm.trans H; with_reducible exact H2_) | with_reducible exact H | (rw [hy245]; exact H) | exact H
        have Ny245 := aS_ hy245
        clear hy245
        replace H := Option.bind_eq_some_iff.mp H
        obtain ⟨⟨t248, t249⟩, A130, H⟩ := H
        replace H : (if 0 ≤ t248 then (if t248 < (y245.length : Int) then ((spec_l20Rd_pick.f k1 s0_0 t249 10).bind fun bt251 => ((some (([bt251.1, 999, 0] : List Int) : List Int)).bind fun y253 => ((spec_l20Rd_pick.f k1 s0_0 bt251.2 3).bind fun bt256 => (if 0 ≤ bt256.1 then (if bt256.1 < (y253.length : Int) then ((spec_MapPut.f k1 x239000_1 (rd y245 t248) (rd y253 bt256.1)).bind fun bt259 => (spec_l20Map.l0 k1 a1 (wrap64 (x6_1 - 1)) s0_0 bt256.2 bt259.1)) else (none)) else (none))))) else (none)) else (none)) = some (r1, r2) := H
        have A13 := aS_ A130
        clear A130
        by_cases c14 : 0 ≤ t248
        · rw [if_pos c14] at H
          have c14b0 : decide (0 ≤ t248) = true := decide_eq_true c14
          clear c14
          by_cases c15 : t248 < (y245.length : Int)
          · rw [if_pos c15] at H
            have c15b0 : decide (t248 < (y245.length : Int)) = true := decide_eq_true c15
            clear c15
            replace H := Option.bind_eq_some_iff.mp H
            obtain ⟨⟨t251, t252⟩, A160, H⟩ := H
            replace H : ((some (([t251, 999, 0] : List Int) : List Int)).bind fun y253 => ((spec_l20Rd_pick.f k1 s0_0 t252 3).bind fun bt256 => (if 0 ≤ bt256.1 then (if bt256.1 < (y253.length : Int) then ((spec_MapPut.f k1 x239000_1 (rd y245 t248) (rd y253 bt256.1)).bind fun bt259 => (spec_l20Map.l0 k1 a1 (wrap64 (x6_1 - 1)) s0_0 bt256.2 bt259.1)) else (none)) else (none)))) = some (r1, r2) := H
            have A16 := aS_ A160
            clear A160
            obtain ⟨y253, hy253⟩ : ∃ y_ : List Int, y_ = (([t251, 999, 0] : List Int)) := ⟨_, rfl⟩
            replace H : ((spec_l20Rd_pick.f k1 s0_0 t252 3).bind fun bt256 => (if 0 ≤ bt256.1 then (if bt256.1 < (y253.length : Int) then ((spec_MapPut.f k1 x239000_1 (rd y245 t248) (rd y253 bt256.1)).bind fun bt259 => (spec_l20Map.l0 k1 a1 (wrap64 (x6_1 - 1)) s0_0 bt256.2 bt259.1)) else (none)) else (none))) = some (r1, r2) := by first | (rw [hy253]; with_reducible exact H) | (have H2_ := (Option.bind_some _ _).symm.trans H; rw [hy253]; with_reducible exact H2_) | (have H2_ := (Option.bind_some _ _).symm.trans H; with_reducible exact H2_) | with_reducible exact H | (rw [hy253]; exact H) | exact H
            have Ny253 := aS_ hy253
            clear hy253
            replace H := Option.bind_eq_some_iff.mp H
            obtain ⟨⟨t256, t257⟩, A170, H⟩ := H
            replace H : (if 0 ≤ t256 then (if t256 < (y253.length : Int) then ((spec_MapPut.f k1 x239000_1 (rd y245 t248) (rd y253 t256)).bind fun bt259 => (spec_l20Map.l0 k1 a1 (wrap64 (x6_1 - 1)) s0_0 t257 bt259.1)) else (none)) else (none)) = some (r1, r2) := H
            have A17 := aS_ A170
            clear A170
            by_cases c18 : 0 ≤ t256
            · rw [if_pos c18] at H
              have c18b0 : decide (0 ≤ t256) = true := decide_eq_true c18
              clear c18
              by_cases c19 : t256 < (y253.length : Int)
              · rw [if_pos c19] at H
                have c19b0 : decide (t256 < (y253.length : Int)) = true := decide_eq_true c19
                clear c19
                replace H := Option.bind_eq_some_iff.mp H
                obtain ⟨⟨t259, t262, t263⟩, A200, H⟩ := H
                replace H : (spec_l20Map.l0 k1 a1 (wrap64 (x6_1 - 1)) s0_0 t257 t259) = some (r1, r2) := H
                have A20 := aS_ A200
                clear A200
                have H' := aS_ H
                clear H
                obtain ⟨Ao21, co21, eo21⟩ := Kd.R_slice HO_239000.out
                subst eo21
                try go_wp2
                have pi250 : (0 ≤ (t248 : Int)) = True := eq_true (of_decide_eq_true (by first | (with_reducible assumption) | assumption))
                have qi250 : (t248 < (y245.length : Int)) = True := eq_true (of_decide_eq_true (by first | (with_reducible assumption) | assumption))
                have pi258 : (0 ≤ (t256 : Int)) = True := eq_true (of_decide_eq_true (by first | (with_reducible assumption) | assumption))
                have qi258 : (t256 < (y253.length : Int)) = True := eq_true (of_decide_eq_true (by first | (with_reducible assumption) | assumption))
                have n0_ := aS_ (rD_ HO_239000.out)
                have n1_ := aS_ (kD_ BK237.out)
                have n2_ := aS_ (kD_ BK238.out)
                have n3_ := aS_ (IsS77.drew HI0.out)
                have n4_ := aS_ (keep_drew HK.out)
                have n5_ := aS_ (bD_ HB.out)
                clear HO_239000
                clear BK237
                clear BK238
                clear HI0
                clear HK
                clear HB
                have HO_239000 := n0_
                have BK237 := n1_
                have BK238 := n2_
                have HI0 := n3_
                have HK := n4_
                have HB := n5_
                clear n0_ n1_ n2_ n3_ n4_ n5_
                refine start_ (n := 25) (S := fun w' => True) (ds := []) #[false, false, false, false, false, false, false, false, false, false, false, false, false, false, false, false, false, false, false, false, false, false, false, false, false] (by kernel_rfl) rfl rfl trivial (fun hHeld => ?_); refine with_tabW spec_l20Map.tab5 spec_l20Map.bits5 (fun HT_ HW_ => ?_)
                generalize wr.drew = w22 at HO_239000 BK237 BK238 HI0 HK HB hHeld ⊢
                refine pure_ (i := 1) (N := some 18) (v := ?_) (a' := ?_) #[false, true, false, false, false, false, false, false, false, false, false, false, false, false, false, false, false, false, false, false, false, false, false, false, false] rfl rfl (any_of HT_.out (by kernel_rfl)) (fun _ _ _ h => h) (Or.inl ⟨by rfl, ?_⟩) ?_ ?_
                rotate_left
                · intro w'
                  go_simp
                  with_reducible rfl
                rotate_left
                · simp only [Act.put, List.setIfInBounds_toArray, List.set_cons_zero, List.set_cons_succ, i64_w, i32_w]
                  rfl
                refine pure_ (i := 3) (N := some 20) (v := ?_) (a' := ?_) #[false, true, false, true, false, false, false, false, false, false, false, false, false, false, false, false, false, false, false, false, false, false, false, false, false] rfl rfl (any_of HT_.out (by kernel_rfl)) (fun _ _ _ h => h) (Or.inl ⟨by rfl, ?_⟩) ?_ ?_
                rotate_left
                · intro w'
                  go_simp
                  with_reducible rfl
                rotate_left
                · simp only [Act.put, List.setIfInBounds_toArray, List.set_cons_zero, List.set_cons_succ, i64_w, i32_w]
                  rfl
                refine pure_ (i := 6) (N := some 23) (v := ?_) (a' := ?_) #[false, true, false, true, false, false, true, false, false, false, false, false, false, false, false, false, false, false, false, false, false, false, false, false, false] rfl rfl (any_of HT_.out (by kernel_rfl)) (fun _ _ _ h => h) (Or.inl ⟨by rfl, ?_⟩) ?_ ?_
                rotate_left
                · intro w'
                  go_simp
                  with_reducible rfl
                rotate_left
                · simp only [Act.put, List.setIfInBounds_toArray, List.set_cons_zero, List.set_cons_succ, i64_w, i32_w]
                  rfl
                refine pure_ (i := 10) (N := some 27) (v := ?_) (a' := ?_) #[false, true, false, true, false, false, true, false, false, false, true, false, false, false, false, false, false, false, false, false, false, false, false, false, false] rfl rfl (any_of HT_.out (by kernel_rfl)) (fun _ _ _ h => h) (Or.inl ⟨by rfl, ?_⟩) ?_ ?_
                rotate_left
                · intro w'
                  go_simp
                  with_reducible rfl
                rotate_left
                · simp only [Act.put, List.setIfInBounds_toArray, List.set_cons_zero, List.set_cons_succ, i64_w, i32_w]
                  rfl
                refine pure_ (i := 13) (N := some 30) (v := ?_) (a' := ?_) #[false, true, false, true, false, false, true, false, false, false, true, false, false, true, false, false, false, false, false, false, false, false, false, false, false] rfl rfl (any_of HT_.out (by kernel_rfl)) (fun _ _ _ h => h) (Or.inl ⟨by rfl, ?_⟩) ?_ ?_
                rotate_left
                · intro w'
                  go_simp
                  with_reducible rfl
                rotate_left
                · simp only [Act.put, List.setIfInBounds_toArray, List.set_cons_zero, List.set_cons_succ, i64_w, i32_w]
                  rfl
                refine inv_at [0, 2, 4, 5, 7, 8, 9, 11, 12, 14, 15, 16, 17, 18, 19, 20, 21, 22, 23, 24] (fun a0_ b a w' => ∃ (v246 : Value) (adz_v246 : Addr) (v254 : Value) (adz_v254 : Addr) (v260 : Value) (gb264 : Nat) (gb265 : Nat) (m8_ : Value) (m15_ : Value) (m17_ : Value) (m18_ : Value) (m19_ : Value) (m21_ : Value) (m22_ : Value), a = putSel a0_ b [(0, 17, .agg #[.slice Ao21 x239000_1.length co21]), (2, 19, .int .i64 t241), (4, 21, .int .i64 t243), (5, 22, v246), (7, 24, .int .i64 t248), (8, 25, m8_), (9, 26, .int .i64 (rd y245 t248)), (11, 28, .int .i64 t251), (12, 29, v254), (14, 31, .int .i64 t256), (15, 32, m15_), (16, 33, .int .i64 (rd y253 t256)), (17, 34, m17_), (18, 16, m18_), (19, 35, m19_), (20, 36, .agg #[.int .i64 t262, .int .i64 t263]), (21, 7, m21_), (22, 8, m22_)] ∧ (Kd.R k39 39 w' w.heap.size (fun _ => True) (.slice Ao21 x239000_1.length co21) x239000_1) ∧ (w'.heap[gb237]? = some (.cells #[.slice none 0 0] 25 (0, 0))) ∧ (w'.heap[gb238]? = some (.cells #[.slice Ao21 x239000_1.length co21] 25 (0, 0))) ∧ (b 2 = false → IsS77 w0 w' g s0_0 x1001_1) ∧ (KeepBut w w' g none) ∧ (Below w0.heap.size w0 w') ∧ (b 21 = true → b 22 = true → gb265 ≠ gb264) ∧ (b 21 = true → b 22 = true → gb264 ≠ gb265) ∧ (b 2 = true → b 4 = false → IsS77 w0 w' g s0_0 t242) ∧ (b 4 = true → b 7 = false → IsS77 w0 w' g s0_0 t244) ∧ (b 5 = true → Kd.R (Kd.int .i64) 3 w' w.heap.size (fun _ => True) v246 y245) ∧ (b 5 = true → ∃ c_, (v246 : Value) = .slice (some adz_v246) y245.length c_) ∧ (b 7 = true → b 11 = false → IsS77 w0 w' g s0_0 t249) ∧ (b 11 = true → b 14 = false → IsS77 w0 w' g s0_0 t252) ∧ (b 12 = true → Kd.R (Kd.int .i64) 3 w' w.heap.size (fun _ => True) v254 y253) ∧ (b 12 = true → ∃ c_, (v254 : Value) = .slice (some adz_v254) y253.length c_) ∧ (b 14 = true → IsS77 w0 w' g s0_0 t257) ∧ (b 17 = true → Kd.R k39 39 w' w.heap.size (fun k_ => some k_ ≠ (.slice Ao21 x239000_1.length co21 : Value).ownBlock) v260 t259) ∧ (b 21 = true → b 23 = false → w'.heap[gb264]? = some (.cells #[.slice none 0 0] 25 (0, 0))) ∧ (b 21 = true → w.heap.size ≤ gb264) ∧ (b 21 = true → w0.heap.size ≤ gb264) ∧ (b 21 = true → g ≠ gb264) ∧ (b 21 = true → gb264 ≠ g) ∧ (b 21 = true → gb237 ≠ gb264) ∧ (b 21 = true → gb264 ≠ gb237) ∧ (b 21 = true → gb238 ≠ gb264) ∧ (b 21 = true → gb264 ≠ gb238) ∧ (b 22 = true → b 24 = false → w'.heap[gb265]? = some (.cells #[.int .i64 0, .int .i64 0] 29 (0, 0))) ∧ (b 22 = true → w.heap.size ≤ gb265) ∧ (b 22 = true → w0.heap.size ≤ gb265) ∧ (b 22 = true → g ≠ gb265) ∧ (b 22 = true → gb265 ≠ g) ∧ (b 22 = true → gb237 ≠ gb265) ∧ (b 22 = true → gb265 ≠ gb237) ∧ (b 22 = true → gb238 ≠ gb265) ∧ (b 22 = true → gb265 ≠ gb238) ∧ (b 23 = true → w'.heap[gb264]? = some (.cells #[v260] 25 (0, 0))) ∧ (b 24 = true → w'.heap[gb265]? = some (.cells #[.int .i64 t262, .int .i64 t263] 29 (0, 0))) ∧ (b 8 = true → (m8_ : Value) = .pointer (some (adz_v246.add (t248).toNat))) ∧ (b 15 = true → (m15_ : Value) = .pointer (some (adz_v254.add (t256).toNat))) ∧ (b 17 = true → (m17_ : Value) = .tuple #[.agg #[v260], .agg #[.int .i64 t262, .int .i64 t263]]) ∧ (b 18 = true → (m18_ : Value) = .tuple #[.agg #[v260], .agg #[.int .i64 t262, .int .i64 t263]]) ∧ (b 19 = true → (m19_ : Value) = .agg #[v260]) ∧ (b 21 = true → (m21_ : Value) = .pointer (some ⟨gb264, 0, none⟩)) ∧ (b 22 = true → (m22_ : Value) = .pointer (some ⟨gb265, 0, none⟩))) HT_.out HW_.out (by kernel_rfl) (by kernel_rfl) ?_ ?_ ?_
                · exact ⟨.bool false, ⟨0, 0, none⟩, .bool false, ⟨0, 0, none⟩, .bool false, 0, 0, .bool false, .bool false, .bool false, .bool false, .bool false, .bool false, .bool false, by simp only [putSel, Bool.false_eq_true, if_false], HO_239000.out, BK237.out, BK238.out, fun _ => HI0.out, HK.out, HB.out, fun h_ => absurd h_ (by decide), fun h_ => absurd h_ (by decide), fun h_ => absurd h_ (by decide), fun h_ => absurd h_ (by decide), fun h_ => absurd h_ (by decide), fun h_ => absurd h_ (by decide), fun h_ => absurd h_ (by decide), fun h_ => absurd h_ (by decide), fun h_ => absurd h_ (by decide), fun h_ => absurd h_ (by decide), fun h_ => absurd h_ (by decide), fun h_ => absurd h_ (by decide), fun h_ => absurd h_ (by decide), fun h_ => absurd h_ (by decide), fun h_ => absurd h_ (by decide), fun h_ => absurd h_ (by decide), fun h_ => absurd h_ (by decide), fun h_ => absurd h_ (by decide), fun h_ => absurd h_ (by decide), fun h_ => absurd h_ (by decide), fun h_ => absurd h_ (by decide), fun h_ => absurd h_ (by decide), fun h_ => absurd h_ (by decide), fun h_ => absurd h_ (by decide), fun h_ => absurd h_ (by decide), fun h_ => absurd h_ (by decide), fun h_ => absurd h_ (by decide), fun h_ => absurd h_ (by decide), fun h_ => absurd h_ (by decide), fun h_ => absurd h_ (by decide), fun h_ => absurd h_ (by decide), fun h_ => absurd h_ (by decide), fun h_ => absurd h_ (by decide), fun h_ => absurd h_ (by decide), fun h_ => absurd h_ (by decide), fun h_ => absurd h_ (by decide), fun h_ => absurd h_ (by decide), fun h_ => absurd h_ (by decide), fun h_ => absurd h_ (by decide)⟩
                · skip
                  clear BK237 BK238 HB HI0 HK HO_239000
                  refine steps_cons ?_ ?_
                  · rintro b a w' ⟨v246, adz_v246, v254, adz_v254, v260, gb264, gb265, m8_, m15_, m17_, m18_, m19_, m21_, m22_, ha, Q_HO_239000, Q_BK237, Q_BK238, Q_HI0, Q_HK, Q_HB, Q_NB265_264, Q_NB264_265, Q_HI0_e2, Q_HI0_e4, Q_HO247, Q_HA_HO247, Q_HI0_e7, Q_HI0_e11, Q_HO255, Q_HA_HO255, Q_HI0_e14, Q_HO261, Q_BK264, Q_GW264, Q_GE264, Q_NB0_264, Q_NB264_0, Q_NB237_264, Q_NB264_237, Q_NB238_264, Q_NB264_238, Q_BK265, Q_GW265, Q_GE265, Q_NB0_265, Q_NB265_0, Q_NB237_265, Q_NB265_237, Q_NB238_265, Q_NB265_238, Q_BK264_e23, Q_BK265_e24, Q_X8_, Q_X15_, Q_X17_, Q_X18_, Q_X19_, Q_X21_, Q_X22_⟩ hb_ hon hoff
                    refine ⟨_, rfl, fun K hK => ?_⟩
                    have e5 : a.tmps[5]? = some (.pointer (some ⟨gb238, 0, none⟩)) := by rw [ha]; exact (putSel_off rfl).trans rfl
                    replace ha := aS_ ha
                    have HO_239000 := aS_ Q_HO_239000
                    have BK237 := aS_ Q_BK237
                    have BK238 := aS_ Q_BK238
                    have HK := aS_ Q_HK
                    have HB := aS_ Q_HB
                    have hc0_ : w'.cell? ⟨gb238, 0, none⟩ = some (.slice Ao21 x239000_1.length co21) := (blk_cell BK238.out 0).trans rfl
                    refine value_ (w1 := w') (v := .agg #[.slice Ao21 x239000_1.length co21]) (by rfl) rfl ?_ ?_
                    · go_simp
                      (try simp only [i64_w])
                      try rfl
                    refine hK.out _ _ ⟨v246, adz_v246, v254, adz_v254, v260, gb264, gb265, m8_, m15_, m17_, m18_, m19_, m21_, m22_, (by rw [ha.out]; exact putSel_upk 0 hb_ rfl rfl rfl), Q_HO_239000, Q_BK237, Q_BK238, Q_HI0, Q_HK, Q_HB, Q_NB265_264, Q_NB264_265, Q_HI0_e2, Q_HI0_e4, Q_HO247, Q_HA_HO247, Q_HI0_e7, Q_HI0_e11, Q_HO255, Q_HA_HO255, Q_HI0_e14, fun h0_ => absurd ((hoff 17 (by kernel_rfl)).symm.trans h0_) (by decide), Q_BK264, Q_GW264, Q_GE264, Q_NB0_264, Q_NB264_0, Q_NB237_264, Q_NB264_237, Q_NB238_264, Q_NB264_238, Q_BK265, Q_GW265, Q_GE265, Q_NB0_265, Q_NB265_0, Q_NB237_265, Q_NB265_237, Q_NB238_265, Q_NB265_238, fun h0_ => absurd ((hoff 23 (by kernel_rfl)).symm.trans h0_) (by decide), fun h0_ => absurd ((hoff 24 (by kernel_rfl)).symm.trans h0_) (by decide), Q_X8_, Q_X15_, fun h0_ => absurd ((hoff 17 (by kernel_rfl)).symm.trans h0_) (by decide), fun h0_ => absurd ((hoff 18 (by kernel_rfl)).symm.trans h0_) (by decide), fun h0_ => absurd ((hoff 19 (by kernel_rfl)).symm.trans h0_) (by decide), Q_X21_, Q_X22_⟩
                  refine steps_cons ?_ ?_
                  · rintro b a w' ⟨v246, adz_v246, v254, adz_v254, v260, gb264, gb265, m8_, m15_, m17_, m18_, m19_, m21_, m22_, ha, Q_HO_239000, Q_BK237, Q_BK238, Q_HI0, Q_HK, Q_HB, Q_NB265_264, Q_NB264_265, Q_HI0_e2, Q_HI0_e4, Q_HO247, Q_HA_HO247, Q_HI0_e7, Q_HI0_e11, Q_HO255, Q_HA_HO255, Q_HI0_e14, Q_HO261, Q_BK264, Q_GW264, Q_GE264, Q_NB0_264, Q_NB264_0, Q_NB237_264, Q_NB264_237, Q_NB238_264, Q_NB264_238, Q_BK265, Q_GW265, Q_GE265, Q_NB0_265, Q_NB265_0, Q_NB237_265, Q_NB265_237, Q_NB238_265, Q_NB265_238, Q_BK264_e23, Q_BK265_e24, Q_X8_, Q_X15_, Q_X17_, Q_X18_, Q_X19_, Q_X21_, Q_X22_⟩ hb_ hon hoff
                    refine ⟨_, rfl, fun K hK => ?_⟩
                    have e18 : a.tmps[18]? = some (.pointer (some ⟨g, 0, none⟩)) := by rw [ha]; exact (putSel_off rfl).trans rfl
                    replace ha := aS_ ha
                    have HO_239000 := aS_ Q_HO_239000
                    have BK237 := aS_ Q_BK237
                    have BK238 := aS_ Q_BK238
                    have HI0 := aS_ (Q_HI0 hb_)
                    have HK := aS_ Q_HK
                    have HB := aS_ Q_HB
                    refine goes_ Try.func57 (by kernel_rfl) rfl #[.pointer (some ⟨g, 0, none⟩), .int .i64 10] (by rfl) rfl rfl (by first | (simp only [List.map_toArray, List.map_cons, List.map_nil, Act.eval, Array.getD_eq_getD_getElem?, Option.getD_some, e18]; done) | (simp only [List.map_toArray, List.map_cons, List.map_nil, Act.eval, Array.getD_eq_getD_getElem?, Option.getD_some, e18]; rfl)) ?_
                    with_reducible refine (spec_l20Rd_pick.calls k1 g s0_0 x1001_1 10 t241 t242 w0 _ ?side1 ?side2 A11.out).mono ?_
                    (case side1 => repeat (first | (with_reducible first | exact HI0.out | apply IsS77.alloc | apply IsS77.drewN | apply IsS77.drew | apply IsS77.set_1 | refine IsS77.far ?_ NB0_237.out _ | refine IsS77.far ?_ NB0_238.out _) | exact HI0.out))
                    (case side2 => repeat (first | (with_reducible first | exact HB.out | apply bA_ | apply bN_ | apply bD_ | refine below_set ?_ (IsS77.ge HI0.out) | refine below_set ?_ GE237.out | refine below_set ?_ GE238.out) | exact HB.out))
                    rintro e w22 ⟨rfl, hi, hb, hk⟩
                    refine ⟨_, rfl, ?_⟩
                    have n0_ := aS_ (rM_ (Kd.R_keep (IsS77.apart (show IsS77 w0 _ g s0_0 x1001_1 from by repeat (first | (with_reducible first | exact HI0.out | apply IsS77.alloc | apply IsS77.drewN | apply IsS77.drew | apply IsS77.set_1 | refine IsS77.far ?_ NB0_237.out _ | refine IsS77.far ?_ NB0_238.out _) | exact HI0.out)) (by (with_reducible repeat (first | apply rA_ | apply rN_ | apply rD_)); exact HO_239000.out) (by decide)) hk (fun _ h => h.2)) (fun _ h => h.1))
                    have n1_ := aS_ (KeepBut.blk hk (g' := gb237) (o := .cells #[.slice none 0 0] 25 (0, 0)) (by (with_reducible repeat (first | refine kN_ ?_ _ | refine kD_ ?_ | refine kA_ ?_ _)); exact BK237.out) NB237_0.out (by simp))
                    have n2_ := aS_ (KeepBut.blk hk (g' := gb238) (o := .cells #[.slice Ao21 x239000_1.length co21] 25 (0, 0)) (by (with_reducible repeat (first | refine kN_ ?_ _ | refine kD_ ?_ | refine kA_ ?_ _)); exact BK238.out) NB238_0.out (by simp))
                    have n3_ := aS_ (KeepBut.trans (by repeat (first | (with_reducible first | exact HK.out | apply KeepBut.set_ | apply keep_drewN | apply keep_drew | apply keep_alloc | refine keep_far ?_ GW237.out _ | refine keep_far ?_ GW238.out _) | exact HK.out)) hk (.inl rfl))
                    have n4_ := aS_ (hb)
                    have n5_ := aS_ (hi)
                    have z_BK264 := fun (h0_ : b 21 = true) (h1_ : b 23 = false) => (show w22.heap[gb264]? = some (.cells #[.slice none 0 0] 25 (0, 0)) from by first | exact (KeepBut.blk hk (g' := gb264) (o := .cells #[.slice none 0 0] 25 (0, 0)) (by (with_reducible repeat (first | refine kN_ ?_ _ | refine kD_ ?_ | refine kA_ ?_ _)); exact (Q_BK264 h0_ h1_)) (Q_NB264_0 h0_) (by simp)))
                    have z_BK265 := fun (h0_ : b 22 = true) (h1_ : b 24 = false) => (show w22.heap[gb265]? = some (.cells #[.int .i64 0, .int .i64 0] 29 (0, 0)) from by first | exact (KeepBut.blk hk (g' := gb265) (o := .cells #[.int .i64 0, .int .i64 0] 29 (0, 0)) (by (with_reducible repeat (first | refine kN_ ?_ _ | refine kD_ ?_ | refine kA_ ?_ _)); exact (Q_BK265 h0_ h1_)) (Q_NB265_0 h0_) (by simp)))
                    clear HO_239000
                    clear BK237
                    clear BK238
                    clear HK
                    clear HB
                    clear HI0
                    have HO_239000 := n0_
                    have BK237 := n1_
                    have BK238 := n2_
                    have HK := n3_
                    have HB := n4_
                    have HI0 := n5_
                    clear n0_ n1_ n2_ n3_ n4_ n5_
                    (try clear hb)
                    (try clear hb2)
                    (try clear hk)
                    (try clear hi)
                    refine hK.out _ _ ⟨v246, adz_v246, v254, adz_v254, v260, gb264, gb265, m8_, m15_, m17_, m18_, m19_, m21_, m22_, (by rw [ha.out]; exact putSel_upk 1 hb_ rfl rfl rfl), (by (with_reducible repeat (first | apply rA_ | apply rN_ | apply rD_)); exact HO_239000.out), (by (with_reducible repeat (first | refine kN_ ?_ _ | refine kD_ ?_ | refine kA_ ?_ _)); exact BK237.out), (by (with_reducible repeat (first | refine kN_ ?_ _ | refine kD_ ?_ | refine kA_ ?_ _)); exact BK238.out), fun h0_ => absurd ((up_self b 2).symm.trans h0_) (by decide), (by repeat (first | (with_reducible first | exact HK.out | apply KeepBut.set_ | apply keep_drewN | apply keep_drew | apply keep_alloc | refine keep_far ?_ GW237.out _ | refine keep_far ?_ GW238.out _) | exact HK.out)), (by repeat (first | (with_reducible first | exact HB.out | apply bA_ | apply bN_ | apply bD_ | refine below_set ?_ (IsS77.ge HI0.out) | refine below_set ?_ GE237.out | refine below_set ?_ GE238.out) | exact HB.out)), Q_NB265_264, Q_NB264_265, fun _ _ => (by repeat (first | (with_reducible first | exact HI0.out | apply IsS77.alloc | apply IsS77.drewN | apply IsS77.drew | apply IsS77.set_1 | refine IsS77.far ?_ NB0_237.out _ | refine IsS77.far ?_ NB0_238.out _) | exact HI0.out)), fun h0_ _ => absurd ((hoff 4 (by kernel_rfl)).symm.trans h0_) (by decide), fun h0_ => absurd ((hoff 5 (by kernel_rfl)).symm.trans h0_) (by decide), fun h0_ => absurd ((hoff 5 (by kernel_rfl)).symm.trans h0_) (by decide), fun h0_ _ => absurd ((hoff 7 (by kernel_rfl)).symm.trans h0_) (by decide), fun h0_ _ => absurd ((hoff 11 (by kernel_rfl)).symm.trans h0_) (by decide), fun h0_ => absurd ((hoff 12 (by kernel_rfl)).symm.trans h0_) (by decide), fun h0_ => absurd ((hoff 12 (by kernel_rfl)).symm.trans h0_) (by decide), fun h0_ => absurd ((hoff 14 (by kernel_rfl)).symm.trans h0_) (by decide), fun h0_ => absurd ((hoff 17 (by kernel_rfl)).symm.trans h0_) (by decide), z_BK264, Q_GW264, Q_GE264, Q_NB0_264, Q_NB264_0, Q_NB237_264, Q_NB264_237, Q_NB238_264, Q_NB264_238, z_BK265, Q_GW265, Q_GE265, Q_NB0_265, Q_NB265_0, Q_NB237_265, Q_NB265_237, Q_NB238_265, Q_NB265_238, fun h0_ => absurd ((hoff 23 (by kernel_rfl)).symm.trans h0_) (by decide), fun h0_ => absurd ((hoff 24 (by kernel_rfl)).symm.trans h0_) (by decide), fun h0_ => absurd ((hoff 8 (by kernel_rfl)).symm.trans h0_) (by decide), fun h0_ => absurd ((hoff 15 (by kernel_rfl)).symm.trans h0_) (by decide), fun h0_ => absurd ((hoff 17 (by kernel_rfl)).symm.trans h0_) (by decide), fun h0_ => absurd ((hoff 18 (by kernel_rfl)).symm.trans h0_) (by decide), fun h0_ => absurd ((hoff 19 (by kernel_rfl)).symm.trans h0_) (by decide), Q_X21_, Q_X22_⟩
                  refine steps_cons ?_ ?_
                  · rintro b a w' ⟨v246, adz_v246, v254, adz_v254, v260, gb264, gb265, m8_, m15_, m17_, m18_, m19_, m21_, m22_, ha, Q_HO_239000, Q_BK237, Q_BK238, Q_HI0, Q_HK, Q_HB, Q_NB265_264, Q_NB264_265, Q_HI0_e2, Q_HI0_e4, Q_HO247, Q_HA_HO247, Q_HI0_e7, Q_HI0_e11, Q_HO255, Q_HA_HO255, Q_HI0_e14, Q_HO261, Q_BK264, Q_GW264, Q_GE264, Q_NB0_264, Q_NB264_0, Q_NB237_264, Q_NB264_237, Q_NB238_264, Q_NB264_238, Q_BK265, Q_GW265, Q_GE265, Q_NB0_265, Q_NB265_0, Q_NB237_265, Q_NB265_237, Q_NB238_265, Q_NB265_238, Q_BK264_e23, Q_BK265_e24, Q_X8_, Q_X15_, Q_X17_, Q_X18_, Q_X19_, Q_X21_, Q_X22_⟩ hb_ hon hoff
                    refine ⟨_, rfl, fun K hK => ?_⟩
                    have e20 : a.tmps[20]? = some (.pointer (some ⟨g, 0, none⟩)) := by rw [ha]; exact (putSel_off rfl).trans rfl
                    replace ha := aS_ ha
                    have HO_239000 := aS_ Q_HO_239000
                    have BK237 := aS_ Q_BK237
                    have BK238 := aS_ Q_BK238
                    have HK := aS_ Q_HK
                    have HB := aS_ Q_HB
                    have HI0 := aS_ (Q_HI0_e2 (hon 2 (by kernel_rfl)) hb_)
                    refine goes_ Try.func57 (by kernel_rfl) rfl #[.pointer (some ⟨g, 0, none⟩), .int .i64 100] (by rfl) rfl rfl (by first | (simp only [List.map_toArray, List.map_cons, List.map_nil, Act.eval, Array.getD_eq_getD_getElem?, Option.getD_some, e20]; done) | (simp only [List.map_toArray, List.map_cons, List.map_nil, Act.eval, Array.getD_eq_getD_getElem?, Option.getD_some, e20]; rfl)) ?_
                    with_reducible refine (spec_l20Rd_pick.calls k1 g s0_0 t242 100 t243 t244 w0 _ ?side1 ?side2 A12.out).mono ?_
                    (case side1 => repeat (first | (with_reducible first | exact HI0.out | apply IsS77.alloc | apply IsS77.drewN | apply IsS77.drew | apply IsS77.set_1 | refine IsS77.far ?_ NB0_237.out _ | refine IsS77.far ?_ NB0_238.out _) | exact HI0.out))
                    (case side2 => repeat (first | (with_reducible first | exact HB.out | apply bA_ | apply bN_ | apply bD_ | refine below_set ?_ (IsS77.ge HI0.out) | refine below_set ?_ GE237.out | refine below_set ?_ GE238.out) | exact HB.out))
                    rintro e w24 ⟨rfl, hi, hb, hk⟩
                    refine ⟨_, rfl, ?_⟩
                    have n0_ := aS_ (rM_ (Kd.R_keep (IsS77.apart (show IsS77 w0 _ g s0_0 t242 from by repeat (first | (with_reducible first | exact HI0.out | apply IsS77.alloc | apply IsS77.drewN | apply IsS77.drew | apply IsS77.set_1 | refine IsS77.far ?_ NB0_237.out _ | refine IsS77.far ?_ NB0_238.out _) | exact HI0.out)) (by (with_reducible repeat (first | apply rA_ | apply rN_ | apply rD_)); exact HO_239000.out) (by decide)) hk (fun _ h => h.2)) (fun _ h => h.1))
                    have n1_ := aS_ (KeepBut.blk hk (g' := gb237) (o := .cells #[.slice none 0 0] 25 (0, 0)) (by (with_reducible repeat (first | refine kN_ ?_ _ | refine kD_ ?_ | refine kA_ ?_ _)); exact BK237.out) NB237_0.out (by simp))
                    have n2_ := aS_ (KeepBut.blk hk (g' := gb238) (o := .cells #[.slice Ao21 x239000_1.length co21] 25 (0, 0)) (by (with_reducible repeat (first | refine kN_ ?_ _ | refine kD_ ?_ | refine kA_ ?_ _)); exact BK238.out) NB238_0.out (by simp))
                    have n3_ := aS_ (KeepBut.trans (by repeat (first | (with_reducible first | exact HK.out | apply KeepBut.set_ | apply keep_drewN | apply keep_drew | apply keep_alloc | refine keep_far ?_ GW237.out _ | refine keep_far ?_ GW238.out _) | exact HK.out)) hk (.inl rfl))
                    have n4_ := aS_ (hb)
                    have n5_ := aS_ (hi)
                    have z_BK264 := fun (h0_ : b 21 = true) (h1_ : b 23 = false) => (show w24.heap[gb264]? = some (.cells #[.slice none 0 0] 25 (0, 0)) from by first | exact (KeepBut.blk hk (g' := gb264) (o := .cells #[.slice none 0 0] 25 (0, 0)) (by (with_reducible repeat (first | refine kN_ ?_ _ | refine kD_ ?_ | refine kA_ ?_ _)); exact (Q_BK264 h0_ h1_)) (Q_NB264_0 h0_) (by simp)))
                    have z_BK265 := fun (h0_ : b 22 = true) (h1_ : b 24 = false) => (show w24.heap[gb265]? = some (.cells #[.int .i64 0, .int .i64 0] 29 (0, 0)) from by first | exact (KeepBut.blk hk (g' := gb265) (o := .cells #[.int .i64 0, .int .i64 0] 29 (0, 0)) (by (with_reducible repeat (first | refine kN_ ?_ _ | refine kD_ ?_ | refine kA_ ?_ _)); exact (Q_BK265 h0_ h1_)) (Q_NB265_0 h0_) (by simp)))
                    clear HO_239000
                    clear BK237
                    clear BK238
                    clear HK
                    clear HB
                    clear HI0
                    have HO_239000 := n0_
                    have BK237 := n1_
                    have BK238 := n2_
                    have HK := n3_
                    have HB := n4_
                    have HI0 := n5_
                    clear n0_ n1_ n2_ n3_ n4_ n5_
                    (try clear hb)
                    (try clear hb2)
                    (try clear hk)
                    (try clear hi)
                    refine hK.out _ _ ⟨v246, adz_v246, v254, adz_v254, v260, gb264, gb265, m8_, m15_, m17_, m18_, m19_, m21_, m22_, (by rw [ha.out]; exact putSel_upk 2 hb_ rfl rfl rfl), (by (with_reducible repeat (first | apply rA_ | apply rN_ | apply rD_)); exact HO_239000.out), (by (with_reducible repeat (first | refine kN_ ?_ _ | refine kD_ ?_ | refine kA_ ?_ _)); exact BK237.out), (by (with_reducible repeat (first | refine kN_ ?_ _ | refine kD_ ?_ | refine kA_ ?_ _)); exact BK238.out), fun h0_ => absurd ((hon 2 (by kernel_rfl)).symm.trans h0_) (by decide), (by repeat (first | (with_reducible first | exact HK.out | apply KeepBut.set_ | apply keep_drewN | apply keep_drew | apply keep_alloc | refine keep_far ?_ GW237.out _ | refine keep_far ?_ GW238.out _) | exact HK.out)), (by repeat (first | (with_reducible first | exact HB.out | apply bA_ | apply bN_ | apply bD_ | refine below_set ?_ (IsS77.ge HI0.out) | refine below_set ?_ GE237.out | refine below_set ?_ GE238.out) | exact HB.out)), Q_NB265_264, Q_NB264_265, fun _ h1_ => absurd ((up_self b 4).symm.trans h1_) (by decide), fun _ _ => (by repeat (first | (with_reducible first | exact HI0.out | apply IsS77.alloc | apply IsS77.drewN | apply IsS77.drew | apply IsS77.set_1 | refine IsS77.far ?_ NB0_237.out _ | refine IsS77.far ?_ NB0_238.out _) | exact HI0.out)), fun h0_ => absurd ((hoff 5 (by kernel_rfl)).symm.trans h0_) (by decide), fun h0_ => absurd ((hoff 5 (by kernel_rfl)).symm.trans h0_) (by decide), fun h0_ _ => absurd ((hoff 7 (by kernel_rfl)).symm.trans h0_) (by decide), fun h0_ _ => absurd ((hoff 11 (by kernel_rfl)).symm.trans h0_) (by decide), fun h0_ => absurd ((hoff 12 (by kernel_rfl)).symm.trans h0_) (by decide), fun h0_ => absurd ((hoff 12 (by kernel_rfl)).symm.trans h0_) (by decide), fun h0_ => absurd ((hoff 14 (by kernel_rfl)).symm.trans h0_) (by decide), fun h0_ => absurd ((hoff 17 (by kernel_rfl)).symm.trans h0_) (by decide), z_BK264, Q_GW264, Q_GE264, Q_NB0_264, Q_NB264_0, Q_NB237_264, Q_NB264_237, Q_NB238_264, Q_NB264_238, z_BK265, Q_GW265, Q_GE265, Q_NB0_265, Q_NB265_0, Q_NB237_265, Q_NB265_237, Q_NB238_265, Q_NB265_238, fun h0_ => absurd ((hoff 23 (by kernel_rfl)).symm.trans h0_) (by decide), fun h0_ => absurd ((hoff 24 (by kernel_rfl)).symm.trans h0_) (by decide), fun h0_ => absurd ((hoff 8 (by kernel_rfl)).symm.trans h0_) (by decide), fun h0_ => absurd ((hoff 15 (by kernel_rfl)).symm.trans h0_) (by decide), fun h0_ => absurd ((hoff 17 (by kernel_rfl)).symm.trans h0_) (by decide), fun h0_ => absurd ((hoff 18 (by kernel_rfl)).symm.trans h0_) (by decide), fun h0_ => absurd ((hoff 19 (by kernel_rfl)).symm.trans h0_) (by decide), Q_X21_, Q_X22_⟩
                  refine steps_cons ?_ ?_
                  · rintro b a w' ⟨v246, adz_v246, v254, adz_v254, v260, gb264, gb265, m8_, m15_, m17_, m18_, m19_, m21_, m22_, ha, Q_HO_239000, Q_BK237, Q_BK238, Q_HI0, Q_HK, Q_HB, Q_NB265_264, Q_NB264_265, Q_HI0_e2, Q_HI0_e4, Q_HO247, Q_HA_HO247, Q_HI0_e7, Q_HI0_e11, Q_HO255, Q_HA_HO255, Q_HI0_e14, Q_HO261, Q_BK264, Q_GW264, Q_GE264, Q_NB0_264, Q_NB264_0, Q_NB237_264, Q_NB264_237, Q_NB238_264, Q_NB264_238, Q_BK265, Q_GW265, Q_GE265, Q_NB0_265, Q_NB265_0, Q_NB237_265, Q_NB265_237, Q_NB238_265, Q_NB265_238, Q_BK264_e23, Q_BK265_e24, Q_X8_, Q_X15_, Q_X17_, Q_X18_, Q_X19_, Q_X21_, Q_X22_⟩ hb_ hon hoff
                    refine ⟨_, rfl, fun K hK => ?_⟩
                    have e19 : a.tmps[19]? = some (.int .i64 t241) := by rw [ha]; exact putSel_on (e := (2, 19, .int .i64 t241)) 1 rfl rfl (hon 2 (by kernel_rfl)) rfl
                    have e21 : a.tmps[21]? = some (.int .i64 t243) := by rw [ha]; exact putSel_on (e := (4, 21, .int .i64 t243)) 2 rfl rfl (hon 4 (by kernel_rfl)) rfl
                    replace ha := aS_ ha
                    have HO_239000 := aS_ Q_HO_239000
                    have BK237 := aS_ Q_BK237
                    have BK238 := aS_ Q_BK238
                    have HK := aS_ Q_HK
                    have HB := aS_ Q_HB
                    refine Kd.R_lit_step (Kd.int .i64) _ 3 ?hg (N := 22) ?hd (xs := ([t241, t243, 0, 99] : List Int)) (inner := [.int .i64 t241, .int .i64 t243, .int .i64 0, .int .i64 99]) (ok := fun _ => True) (okp := fun _ => True) ?hr ?hp (fun _ hk => hk) trivial (Below.refl _ _) (Nat.le_refl _) (by simp) ?_; (case hd => rfl); (case hg => rfl); (case hr => first | (go_simp; done) | (go_simp; rfl)); (case hp => exact (Reps.one (show Kd.M (Kd.int .i64) _ _ _ t241 [.int .i64 t241] from rfl) (Reps.one (show Kd.M (Kd.int .i64) _ _ _ t243 [.int .i64 t243] from rfl) (Reps.one (show Kd.M (Kd.int .i64) _ _ _ 0 [.int .i64 0] from rfl) (Reps.one (show Kd.M (Kd.int .i64) _ _ _ 99 [.int .i64 99] from rfl) (Reps.none _ _))))))
                    intro v246 w25 ho26 hb hg_ hnew_
                    clear hg_ hnew_
                    (first | rw [← Ny245.out] at ho26 | (simp only [Int.reduceToNat] at ho26; rw [← Ny245.out] at ho26))
                    have n0_ := aS_ (Kd.R_below (by (with_reducible repeat (first | apply rA_ | apply rN_ | apply rD_)); exact HO_239000.out) hb)
                    have n1_ := aS_ (Kd.R_lower ho26 (keep_size (w := w) (g := g) (row := none) (by repeat (first | (with_reducible first | exact HK.out | apply KeepBut.set_ | apply keep_drewN | apply keep_drew | apply keep_alloc | refine keep_far ?_ GW237.out _ | refine keep_far ?_ GW238.out _) | exact HK.out))))
                    have n2_ := aS_ (blk_below (g := gb237) (o := .cells #[.slice none 0 0] 25 (0, 0)) (by (with_reducible repeat (first | refine kN_ ?_ _ | refine kD_ ?_ | refine kA_ ?_ _)); exact BK237.out) hb)
                    have n3_ := aS_ (blk_below (g := gb238) (o := .cells #[.slice Ao21 x239000_1.length co21] 25 (0, 0)) (by (with_reducible repeat (first | refine kN_ ?_ _ | refine kD_ ?_ | refine kA_ ?_ _)); exact BK238.out) hb)
                    have n5_ := aS_ (KeepBut.trans (by repeat (first | (with_reducible first | exact HK.out | apply KeepBut.set_ | apply keep_drewN | apply keep_drew | apply keep_alloc | refine keep_far ?_ GW237.out _ | refine keep_far ?_ GW238.out _) | exact HK.out)) (KeepBut.of_below hb g none) (.inl rfl))
                    have n6_ := aS_ (below_step (by repeat (first | (with_reducible first | exact HB.out | apply bA_ | apply bN_ | apply bD_ | refine below_set ?_ GE237.out | refine below_set ?_ GE238.out) | exact HB.out)) hb)
                    have z_HI0_e4 := fun (h0_ : b 4 = true) (h1_ : b 7 = false) => (show IsS77 w0 w25 g s0_0 t244 from by first | exact (IsS77.below (by repeat (first | (with_reducible first | exact (Q_HI0_e4 h0_ h1_) | apply IsS77.alloc | apply IsS77.drewN | apply IsS77.drew | apply IsS77.set_1 | refine IsS77.far ?_ NB0_237.out _ | refine IsS77.far ?_ NB0_238.out _) | exact (Q_HI0_e4 h0_ h1_))) hb))
                    have z_HI0_e7 := fun (h0_ : b 7 = true) (h1_ : b 11 = false) => (show IsS77 w0 w25 g s0_0 t249 from by first | exact (IsS77.below (by repeat (first | (with_reducible first | exact (Q_HI0_e7 h0_ h1_) | apply IsS77.alloc | apply IsS77.drewN | apply IsS77.drew | apply IsS77.set_1 | refine IsS77.far ?_ NB0_237.out _ | refine IsS77.far ?_ NB0_238.out _) | exact (Q_HI0_e7 h0_ h1_))) hb))
                    have z_HI0_e11 := fun (h0_ : b 11 = true) (h1_ : b 14 = false) => (show IsS77 w0 w25 g s0_0 t252 from by first | exact (IsS77.below (by repeat (first | (with_reducible first | exact (Q_HI0_e11 h0_ h1_) | apply IsS77.alloc | apply IsS77.drewN | apply IsS77.drew | apply IsS77.set_1 | refine IsS77.far ?_ NB0_237.out _ | refine IsS77.far ?_ NB0_238.out _) | exact (Q_HI0_e11 h0_ h1_))) hb))
                    have z_HO255 := fun (h0_ : b 12 = true) => (show Kd.R (Kd.int .i64) 3 w25 w.heap.size (fun _ => True) v254 y253 from by first | exact (Kd.R_elder' (by (with_reducible repeat (first | apply rA_ | apply rN_ | apply rD_)); exact (Q_HO255 h0_)) (Kd.R_base ho26) hb) | exact rM_ (Kd.R_elder' (by (with_reducible repeat (first | apply rA_ | apply rN_ | apply rD_)); exact (Q_HO255 h0_)) (Kd.R_base ho26) hb) (fun _ h_ => by first | trivial | exact h_ | exact h_.1))
                    have z_HI0_e14 := fun (h0_ : b 14 = true) => (show IsS77 w0 w25 g s0_0 t257 from by first | exact (IsS77.below (by repeat (first | (with_reducible first | exact (Q_HI0_e14 h0_) | apply IsS77.alloc | apply IsS77.drewN | apply IsS77.drew | apply IsS77.set_1 | refine IsS77.far ?_ NB0_237.out _ | refine IsS77.far ?_ NB0_238.out _) | exact (Q_HI0_e14 h0_))) hb))
                    have z_BK264 := fun (h0_ : b 21 = true) (h1_ : b 23 = false) => (show w25.heap[gb264]? = some (.cells #[.slice none 0 0] 25 (0, 0)) from by first | exact (blk_below (g := gb264) (o := .cells #[.slice none 0 0] 25 (0, 0)) (by (with_reducible repeat (first | refine kN_ ?_ _ | refine kD_ ?_ | refine kA_ ?_ _)); exact (Q_BK264 h0_ h1_)) hb))
                    have z_BK265 := fun (h0_ : b 22 = true) (h1_ : b 24 = false) => (show w25.heap[gb265]? = some (.cells #[.int .i64 0, .int .i64 0] 29 (0, 0)) from by first | exact (blk_below (g := gb265) (o := .cells #[.int .i64 0, .int .i64 0] 29 (0, 0)) (by (with_reducible repeat (first | refine kN_ ?_ _ | refine kD_ ?_ | refine kA_ ?_ _)); exact (Q_BK265 h0_ h1_)) hb))
                    clear HO_239000
                    clear BK237
                    clear BK238
                    clear HK
                    clear HB
                    have HO_239000 := n0_
                    have HO247 := n1_
                    have BK237 := n2_
                    have BK238 := n3_
                    have HK := n5_
                    have HB := n6_
                    clear n0_ n1_ n2_ n3_ n5_ n6_
                    clear hb ho26
                    obtain ⟨Ao27, co27, eo27⟩ := Kd.R_slice HO247.out
                    subst eo27
                    obtain ⟨ado27, fo27, _⟩ := Kd.at_int (Kd.R_reads' HO247.out).2.2 0 (by decide) (by rw [Ny245.out]; simp)
                    cases fo27
                    refine hK.out _ _ ⟨.slice (some ado27) y245.length co27, ado27, v254, adz_v254, v260, gb264, gb265, m8_, m15_, m17_, m18_, m19_, m21_, m22_, (by rw [ha.out]; exact putSel_upk 3 hb_ rfl rfl rfl), (by (with_reducible repeat (first | apply rA_ | apply rN_ | apply rD_)); exact HO_239000.out), (by (with_reducible repeat (first | refine kN_ ?_ _ | refine kD_ ?_ | refine kA_ ?_ _)); exact BK237.out), (by (with_reducible repeat (first | refine kN_ ?_ _ | refine kD_ ?_ | refine kA_ ?_ _)); exact BK238.out), fun h0_ => absurd ((hon 2 (by kernel_rfl)).symm.trans h0_) (by decide), (by repeat (first | (with_reducible first | exact HK.out | apply KeepBut.set_ | apply keep_drewN | apply keep_drew | apply keep_alloc | refine keep_far ?_ GW237.out _ | refine keep_far ?_ GW238.out _) | exact HK.out)), (by repeat (first | (with_reducible first | exact HB.out | apply bA_ | apply bN_ | apply bD_ | refine below_set ?_ GE237.out | refine below_set ?_ GE238.out) | exact HB.out)), Q_NB265_264, Q_NB264_265, fun _ h1_ => absurd ((hon 4 (by kernel_rfl)).symm.trans h1_) (by decide), z_HI0_e4, fun _ => (by (with_reducible repeat (first | apply rA_ | apply rN_ | apply rD_)); exact HO247.out), fun _ => ⟨_, rfl⟩, z_HI0_e7, z_HI0_e11, z_HO255, Q_HA_HO255, z_HI0_e14, fun h0_ => absurd ((hoff 17 (by kernel_rfl)).symm.trans h0_) (by decide), z_BK264, Q_GW264, Q_GE264, Q_NB0_264, Q_NB264_0, Q_NB237_264, Q_NB264_237, Q_NB238_264, Q_NB264_238, z_BK265, Q_GW265, Q_GE265, Q_NB0_265, Q_NB265_0, Q_NB237_265, Q_NB265_237, Q_NB238_265, Q_NB265_238, fun h0_ => absurd ((hoff 23 (by kernel_rfl)).symm.trans h0_) (by decide), fun h0_ => absurd ((hoff 24 (by kernel_rfl)).symm.trans h0_) (by decide), fun h0_ => absurd ((hoff 8 (by kernel_rfl)).symm.trans h0_) (by decide), Q_X15_, fun h0_ => absurd ((hoff 17 (by kernel_rfl)).symm.trans h0_) (by decide), fun h0_ => absurd ((hoff 18 (by kernel_rfl)).symm.trans h0_) (by decide), fun h0_ => absurd ((hoff 19 (by kernel_rfl)).symm.trans h0_) (by decide), Q_X21_, Q_X22_⟩
                  refine steps_cons ?_ ?_
                  · rintro b a w' ⟨v246, adz_v246, v254, adz_v254, v260, gb264, gb265, m8_, m15_, m17_, m18_, m19_, m21_, m22_, ha, Q_HO_239000, Q_BK237, Q_BK238, Q_HI0, Q_HK, Q_HB, Q_NB265_264, Q_NB264_265, Q_HI0_e2, Q_HI0_e4, Q_HO247, Q_HA_HO247, Q_HI0_e7, Q_HI0_e11, Q_HO255, Q_HA_HO255, Q_HI0_e14, Q_HO261, Q_BK264, Q_GW264, Q_GE264, Q_NB0_264, Q_NB264_0, Q_NB237_264, Q_NB264_237, Q_NB238_264, Q_NB264_238, Q_BK265, Q_GW265, Q_GE265, Q_NB0_265, Q_NB265_0, Q_NB237_265, Q_NB265_237, Q_NB238_265, Q_NB265_238, Q_BK264_e23, Q_BK265_e24, Q_X8_, Q_X15_, Q_X17_, Q_X18_, Q_X19_, Q_X21_, Q_X22_⟩ hb_ hon hoff
                    refine ⟨_, rfl, fun K hK => ?_⟩
                    have e23 : a.tmps[23]? = some (.pointer (some ⟨g, 0, none⟩)) := by rw [ha]; exact (putSel_off rfl).trans rfl
                    replace ha := aS_ ha
                    have HO_239000 := aS_ Q_HO_239000
                    have BK237 := aS_ Q_BK237
                    have BK238 := aS_ Q_BK238
                    have HK := aS_ Q_HK
                    have HB := aS_ Q_HB
                    have HI0 := aS_ (Q_HI0_e4 (hon 4 (by kernel_rfl)) hb_)
                    refine goes_ Try.func57 (by kernel_rfl) rfl #[.pointer (some ⟨g, 0, none⟩), .int .i64 4] (by rfl) rfl rfl (by first | (simp only [List.map_toArray, List.map_cons, List.map_nil, Act.eval, Array.getD_eq_getD_getElem?, Option.getD_some, e23]; done) | (simp only [List.map_toArray, List.map_cons, List.map_nil, Act.eval, Array.getD_eq_getD_getElem?, Option.getD_some, e23]; rfl)) ?_
                    with_reducible refine (spec_l20Rd_pick.calls k1 g s0_0 t244 4 t248 t249 w0 _ ?side1 ?side2 A13.out).mono ?_
                    (case side1 => repeat (first | (with_reducible first | exact HI0.out | apply IsS77.alloc | apply IsS77.drewN | apply IsS77.drew | apply IsS77.set_1 | refine IsS77.far ?_ NB0_237.out _ | refine IsS77.far ?_ NB0_238.out _) | exact HI0.out))
                    (case side2 => repeat (first | (with_reducible first | exact HB.out | apply bA_ | apply bN_ | apply bD_ | refine below_set ?_ (IsS77.ge HI0.out) | refine below_set ?_ GE237.out | refine below_set ?_ GE238.out) | exact HB.out))
                    rintro e w25 ⟨rfl, hi, hb, hk⟩
                    refine ⟨_, rfl, ?_⟩
                    have n0_ := aS_ (rM_ (Kd.R_keep (IsS77.apart (show IsS77 w0 _ g s0_0 t244 from by repeat (first | (with_reducible first | exact HI0.out | apply IsS77.alloc | apply IsS77.drewN | apply IsS77.drew | apply IsS77.set_1 | refine IsS77.far ?_ NB0_237.out _ | refine IsS77.far ?_ NB0_238.out _) | exact HI0.out)) (by (with_reducible repeat (first | apply rA_ | apply rN_ | apply rD_)); exact HO_239000.out) (by decide)) hk (fun _ h => h.2)) (fun _ h => h.1))
                    have n1_ := aS_ (KeepBut.blk hk (g' := gb237) (o := .cells #[.slice none 0 0] 25 (0, 0)) (by (with_reducible repeat (first | refine kN_ ?_ _ | refine kD_ ?_ | refine kA_ ?_ _)); exact BK237.out) NB237_0.out (by simp))
                    have n2_ := aS_ (KeepBut.blk hk (g' := gb238) (o := .cells #[.slice Ao21 x239000_1.length co21] 25 (0, 0)) (by (with_reducible repeat (first | refine kN_ ?_ _ | refine kD_ ?_ | refine kA_ ?_ _)); exact BK238.out) NB238_0.out (by simp))
                    have n3_ := aS_ (KeepBut.trans (by repeat (first | (with_reducible first | exact HK.out | apply KeepBut.set_ | apply keep_drewN | apply keep_drew | apply keep_alloc | refine keep_far ?_ GW237.out _ | refine keep_far ?_ GW238.out _) | exact HK.out)) hk (.inl rfl))
                    have n4_ := aS_ (hb)
                    have n5_ := aS_ (hi)
                    have z_HO247 := fun (h0_ : b 5 = true) => (show Kd.R (Kd.int .i64) 3 w25 w.heap.size (fun _ => True) v246 y245 from by first | exact (rM_ (Kd.R_keep (IsS77.apart (show IsS77 w0 _ g s0_0 t244 from by repeat (first | (with_reducible first | exact HI0.out | apply IsS77.alloc | apply IsS77.drewN | apply IsS77.drew | apply IsS77.set_1 | refine IsS77.far ?_ NB0_237.out _ | refine IsS77.far ?_ NB0_238.out _) | exact HI0.out)) (by (with_reducible repeat (first | apply rA_ | apply rN_ | apply rD_)); exact (Q_HO247 h0_)) (by decide)) hk (fun _ h => h.2)) (fun _ h => h.1)) | exact rM_ (rM_ (Kd.R_keep (IsS77.apart (show IsS77 w0 _ g s0_0 t244 from by repeat (first | (with_reducible first | exact HI0.out | apply IsS77.alloc | apply IsS77.drewN | apply IsS77.drew | apply IsS77.set_1 | refine IsS77.far ?_ NB0_237.out _ | refine IsS77.far ?_ NB0_238.out _) | exact HI0.out)) (by (with_reducible repeat (first | apply rA_ | apply rN_ | apply rD_)); exact (Q_HO247 h0_)) (by decide)) hk (fun _ h => h.2)) (fun _ h => h.1)) (fun _ h_ => by first | trivial | exact h_ | exact h_.1))
                    have z_BK264 := fun (h0_ : b 21 = true) (h1_ : b 23 = false) => (show w25.heap[gb264]? = some (.cells #[.slice none 0 0] 25 (0, 0)) from by first | exact (KeepBut.blk hk (g' := gb264) (o := .cells #[.slice none 0 0] 25 (0, 0)) (by (with_reducible repeat (first | refine kN_ ?_ _ | refine kD_ ?_ | refine kA_ ?_ _)); exact (Q_BK264 h0_ h1_)) (Q_NB264_0 h0_) (by simp)))
                    have z_BK265 := fun (h0_ : b 22 = true) (h1_ : b 24 = false) => (show w25.heap[gb265]? = some (.cells #[.int .i64 0, .int .i64 0] 29 (0, 0)) from by first | exact (KeepBut.blk hk (g' := gb265) (o := .cells #[.int .i64 0, .int .i64 0] 29 (0, 0)) (by (with_reducible repeat (first | refine kN_ ?_ _ | refine kD_ ?_ | refine kA_ ?_ _)); exact (Q_BK265 h0_ h1_)) (Q_NB265_0 h0_) (by simp)))
                    clear HO_239000
                    clear BK237
                    clear BK238
                    clear HK
                    clear HB
                    clear HI0
                    have HO_239000 := n0_
                    have BK237 := n1_
                    have BK238 := n2_
                    have HK := n3_
                    have HB := n4_
                    have HI0 := n5_
                    clear n0_ n1_ n2_ n3_ n4_ n5_
                    (try clear hb)
                    (try clear hb2)
                    (try clear hk)
                    (try clear hi)
                    refine hK.out _ _ ⟨v246, adz_v246, v254, adz_v254, v260, gb264, gb265, m8_, m15_, m17_, m18_, m19_, m21_, m22_, (by rw [ha.out]; exact putSel_upk 4 hb_ rfl rfl rfl), (by (with_reducible repeat (first | apply rA_ | apply rN_ | apply rD_)); exact HO_239000.out), (by (with_reducible repeat (first | refine kN_ ?_ _ | refine kD_ ?_ | refine kA_ ?_ _)); exact BK237.out), (by (with_reducible repeat (first | refine kN_ ?_ _ | refine kD_ ?_ | refine kA_ ?_ _)); exact BK238.out), fun h0_ => absurd ((hon 2 (by kernel_rfl)).symm.trans h0_) (by decide), (by repeat (first | (with_reducible first | exact HK.out | apply KeepBut.set_ | apply keep_drewN | apply keep_drew | apply keep_alloc | refine keep_far ?_ GW237.out _ | refine keep_far ?_ GW238.out _) | exact HK.out)), (by repeat (first | (with_reducible first | exact HB.out | apply bA_ | apply bN_ | apply bD_ | refine below_set ?_ (IsS77.ge HI0.out) | refine below_set ?_ GE237.out | refine below_set ?_ GE238.out) | exact HB.out)), Q_NB265_264, Q_NB264_265, fun _ h1_ => absurd ((hon 4 (by kernel_rfl)).symm.trans h1_) (by decide), fun _ h1_ => absurd ((up_self b 7).symm.trans h1_) (by decide), z_HO247, Q_HA_HO247, fun _ _ => (by repeat (first | (with_reducible first | exact HI0.out | apply IsS77.alloc | apply IsS77.drewN | apply IsS77.drew | apply IsS77.set_1 | refine IsS77.far ?_ NB0_237.out _ | refine IsS77.far ?_ NB0_238.out _) | exact HI0.out)), fun h0_ _ => absurd ((hoff 11 (by kernel_rfl)).symm.trans h0_) (by decide), fun h0_ => absurd ((hoff 12 (by kernel_rfl)).symm.trans h0_) (by decide), fun h0_ => absurd ((hoff 12 (by kernel_rfl)).symm.trans h0_) (by decide), fun h0_ => absurd ((hoff 14 (by kernel_rfl)).symm.trans h0_) (by decide), fun h0_ => absurd ((hoff 17 (by kernel_rfl)).symm.trans h0_) (by decide), z_BK264, Q_GW264, Q_GE264, Q_NB0_264, Q_NB264_0, Q_NB237_264, Q_NB264_237, Q_NB238_264, Q_NB264_238, z_BK265, Q_GW265, Q_GE265, Q_NB0_265, Q_NB265_0, Q_NB237_265, Q_NB265_237, Q_NB238_265, Q_NB265_238, fun h0_ => absurd ((hoff 23 (by kernel_rfl)).symm.trans h0_) (by decide), fun h0_ => absurd ((hoff 24 (by kernel_rfl)).symm.trans h0_) (by decide), fun h0_ => absurd ((hoff 8 (by kernel_rfl)).symm.trans h0_) (by decide), fun h0_ => absurd ((hoff 15 (by kernel_rfl)).symm.trans h0_) (by decide), fun h0_ => absurd ((hoff 17 (by kernel_rfl)).symm.trans h0_) (by decide), fun h0_ => absurd ((hoff 18 (by kernel_rfl)).symm.trans h0_) (by decide), fun h0_ => absurd ((hoff 19 (by kernel_rfl)).symm.trans h0_) (by decide), Q_X21_, Q_X22_⟩
                  refine steps_cons ?_ ?_
                  · rintro b a w' ⟨v246, adz_v246, v254, adz_v254, v260, gb264, gb265, m8_, m15_, m17_, m18_, m19_, m21_, m22_, ha, Q_HO_239000, Q_BK237, Q_BK238, Q_HI0, Q_HK, Q_HB, Q_NB265_264, Q_NB264_265, Q_HI0_e2, Q_HI0_e4, Q_HO247, Q_HA_HO247, Q_HI0_e7, Q_HI0_e11, Q_HO255, Q_HA_HO255, Q_HI0_e14, Q_HO261, Q_BK264, Q_GW264, Q_GE264, Q_NB0_264, Q_NB264_0, Q_NB237_264, Q_NB264_237, Q_NB238_264, Q_NB264_238, Q_BK265, Q_GW265, Q_GE265, Q_NB0_265, Q_NB265_0, Q_NB237_265, Q_NB265_237, Q_NB238_265, Q_NB265_238, Q_BK264_e23, Q_BK265_e24, Q_X8_, Q_X15_, Q_X17_, Q_X18_, Q_X19_, Q_X21_, Q_X22_⟩ hb_ hon hoff
                    refine ⟨_, rfl, fun K hK => ?_⟩
                    have e22 : a.tmps[22]? = some (v246) := by rw [ha]; exact putSel_on (e := (5, 22, v246)) 3 rfl rfl (hon 5 (by kernel_rfl)) rfl
                    have e24 : a.tmps[24]? = some (.int .i64 t248) := by rw [ha]; exact putSel_on (e := (7, 24, .int .i64 t248)) 4 rfl rfl (hon 7 (by kernel_rfl)) rfl
                    replace ha := aS_ ha
                    have HO_239000 := aS_ Q_HO_239000
                    have BK237 := aS_ Q_BK237
                    have BK238 := aS_ Q_BK238
                    have HK := aS_ Q_HK
                    have HB := aS_ Q_HB
                    have HO247 := aS_ (Q_HO247 (hon 5 (by kernel_rfl)))
                    have HA_HO247 := aS_ (Q_HA_HO247 (hon 5 (by kernel_rfl)))
                    obtain ⟨c_, hv_⟩ := HA_HO247.out
                    rw [hv_] at e22
                    refine value_ (w1 := w') (v := .pointer (some (adz_v246.add (t248).toNat))) (by rfl) rfl ?_ ?_
                    · go_simp
                      (try simp only [i64_w])
                      try rfl
                    refine hK.out _ _ ⟨v246, adz_v246, v254, adz_v254, v260, gb264, gb265, (.pointer (some (adz_v246.add (t248).toNat))), m15_, m17_, m18_, m19_, m21_, m22_, (by rw [ha.out]; exact putSel_upk 5 hb_ rfl rfl rfl), Q_HO_239000, Q_BK237, Q_BK238, fun h0_ => absurd ((hon 2 (by kernel_rfl)).symm.trans h0_) (by decide), Q_HK, Q_HB, Q_NB265_264, Q_NB264_265, fun _ h1_ => absurd ((hon 4 (by kernel_rfl)).symm.trans h1_) (by decide), fun _ h1_ => absurd ((hon 7 (by kernel_rfl)).symm.trans h1_) (by decide), Q_HO247, Q_HA_HO247, Q_HI0_e7, Q_HI0_e11, Q_HO255, Q_HA_HO255, Q_HI0_e14, fun h0_ => absurd ((hoff 17 (by kernel_rfl)).symm.trans h0_) (by decide), Q_BK264, Q_GW264, Q_GE264, Q_NB0_264, Q_NB264_0, Q_NB237_264, Q_NB264_237, Q_NB238_264, Q_NB264_238, Q_BK265, Q_GW265, Q_GE265, Q_NB0_265, Q_NB265_0, Q_NB237_265, Q_NB265_237, Q_NB238_265, Q_NB265_238, fun h0_ => absurd ((hoff 23 (by kernel_rfl)).symm.trans h0_) (by decide), fun h0_ => absurd ((hoff 24 (by kernel_rfl)).symm.trans h0_) (by decide), fun _ => rfl, Q_X15_, fun h0_ => absurd ((hoff 17 (by kernel_rfl)).symm.trans h0_) (by decide), fun h0_ => absurd ((hoff 18 (by kernel_rfl)).symm.trans h0_) (by decide), fun h0_ => absurd ((hoff 19 (by kernel_rfl)).symm.trans h0_) (by decide), Q_X21_, Q_X22_⟩
                  refine steps_cons ?_ ?_
                  · rintro b a w' ⟨v246, adz_v246, v254, adz_v254, v260, gb264, gb265, m8_, m15_, m17_, m18_, m19_, m21_, m22_, ha, Q_HO_239000, Q_BK237, Q_BK238, Q_HI0, Q_HK, Q_HB, Q_NB265_264, Q_NB264_265, Q_HI0_e2, Q_HI0_e4, Q_HO247, Q_HA_HO247, Q_HI0_e7, Q_HI0_e11, Q_HO255, Q_HA_HO255, Q_HI0_e14, Q_HO261, Q_BK264, Q_GW264, Q_GE264, Q_NB0_264, Q_NB264_0, Q_NB237_264, Q_NB264_237, Q_NB238_264, Q_NB264_238, Q_BK265, Q_GW265, Q_GE265, Q_NB0_265, Q_NB265_0, Q_NB237_265, Q_NB265_237, Q_NB238_265, Q_NB265_238, Q_BK264_e23, Q_BK265_e24, Q_X8_, Q_X15_, Q_X17_, Q_X18_, Q_X19_, Q_X21_, Q_X22_⟩ hb_ hon hoff
                    refine ⟨_, rfl, fun K hK => ?_⟩
                    have e25 : a.tmps[25]? = some (m8_) := by rw [ha]; exact putSel_on (e := (8, 25, m8_)) 5 rfl rfl (hon 8 (by kernel_rfl)) rfl
                    rw [Q_X8_ (hon 8 (by kernel_rfl))] at e25
                    replace ha := aS_ ha
                    have HO_239000 := aS_ Q_HO_239000
                    have BK237 := aS_ Q_BK237
                    have BK238 := aS_ Q_BK238
                    have HK := aS_ Q_HK
                    have HB := aS_ Q_HB
                    have HO247 := aS_ (Q_HO247 (hon 5 (by kernel_rfl)))
                    have HA_HO247 := aS_ (Q_HA_HO247 (hon 5 (by kernel_rfl)))
                    obtain ⟨c_, hv_⟩ := HA_HO247.out
                    have hF_ := HO247.out
                    rw [hv_] at hF_
                    obtain ⟨ad_, ea_, hx_⟩ := Kd.at_int (Kd.R_reads' hF_).2.2 t248 (of_eq_true pi250) (of_eq_true qi250)
                    cases ea_
                    refine value_ (w1 := w') (v := .int .i64 (rd y245 t248)) (by rfl) rfl ?_ ?_
                    · go_simp
                      (try simp only [i64_w])
                      try rfl
                    refine hK.out _ _ ⟨v246, adz_v246, v254, adz_v254, v260, gb264, gb265, m8_, m15_, m17_, m18_, m19_, m21_, m22_, (by rw [ha.out]; exact putSel_upk 6 hb_ rfl rfl rfl), Q_HO_239000, Q_BK237, Q_BK238, fun h0_ => absurd ((hon 2 (by kernel_rfl)).symm.trans h0_) (by decide), Q_HK, Q_HB, Q_NB265_264, Q_NB264_265, fun _ h1_ => absurd ((hon 4 (by kernel_rfl)).symm.trans h1_) (by decide), fun _ h1_ => absurd ((hon 7 (by kernel_rfl)).symm.trans h1_) (by decide), Q_HO247, Q_HA_HO247, Q_HI0_e7, Q_HI0_e11, Q_HO255, Q_HA_HO255, Q_HI0_e14, fun h0_ => absurd ((hoff 17 (by kernel_rfl)).symm.trans h0_) (by decide), Q_BK264, Q_GW264, Q_GE264, Q_NB0_264, Q_NB264_0, Q_NB237_264, Q_NB264_237, Q_NB238_264, Q_NB264_238, Q_BK265, Q_GW265, Q_GE265, Q_NB0_265, Q_NB265_0, Q_NB237_265, Q_NB265_237, Q_NB238_265, Q_NB265_238, fun h0_ => absurd ((hoff 23 (by kernel_rfl)).symm.trans h0_) (by decide), fun h0_ => absurd ((hoff 24 (by kernel_rfl)).symm.trans h0_) (by decide), Q_X8_, Q_X15_, fun h0_ => absurd ((hoff 17 (by kernel_rfl)).symm.trans h0_) (by decide), fun h0_ => absurd ((hoff 18 (by kernel_rfl)).symm.trans h0_) (by decide), fun h0_ => absurd ((hoff 19 (by kernel_rfl)).symm.trans h0_) (by decide), Q_X21_, Q_X22_⟩
                  refine steps_cons ?_ ?_
                  · rintro b a w' ⟨v246, adz_v246, v254, adz_v254, v260, gb264, gb265, m8_, m15_, m17_, m18_, m19_, m21_, m22_, ha, Q_HO_239000, Q_BK237, Q_BK238, Q_HI0, Q_HK, Q_HB, Q_NB265_264, Q_NB264_265, Q_HI0_e2, Q_HI0_e4, Q_HO247, Q_HA_HO247, Q_HI0_e7, Q_HI0_e11, Q_HO255, Q_HA_HO255, Q_HI0_e14, Q_HO261, Q_BK264, Q_GW264, Q_GE264, Q_NB0_264, Q_NB264_0, Q_NB237_264, Q_NB264_237, Q_NB238_264, Q_NB264_238, Q_BK265, Q_GW265, Q_GE265, Q_NB0_265, Q_NB265_0, Q_NB237_265, Q_NB265_237, Q_NB238_265, Q_NB265_238, Q_BK264_e23, Q_BK265_e24, Q_X8_, Q_X15_, Q_X17_, Q_X18_, Q_X19_, Q_X21_, Q_X22_⟩ hb_ hon hoff
                    refine ⟨_, rfl, fun K hK => ?_⟩
                    have e27 : a.tmps[27]? = some (.pointer (some ⟨g, 0, none⟩)) := by rw [ha]; exact (putSel_off rfl).trans rfl
                    replace ha := aS_ ha
                    have HO_239000 := aS_ Q_HO_239000
                    have BK237 := aS_ Q_BK237
                    have BK238 := aS_ Q_BK238
                    have HK := aS_ Q_HK
                    have HB := aS_ Q_HB
                    have HI0 := aS_ (Q_HI0_e7 (hon 7 (by kernel_rfl)) hb_)
                    refine goes_ Try.func57 (by kernel_rfl) rfl #[.pointer (some ⟨g, 0, none⟩), .int .i64 10] (by rfl) rfl rfl (by first | (simp only [List.map_toArray, List.map_cons, List.map_nil, Act.eval, Array.getD_eq_getD_getElem?, Option.getD_some, e27]; done) | (simp only [List.map_toArray, List.map_cons, List.map_nil, Act.eval, Array.getD_eq_getD_getElem?, Option.getD_some, e27]; rfl)) ?_
                    with_reducible refine (spec_l20Rd_pick.calls k1 g s0_0 t249 10 t251 t252 w0 _ ?side1 ?side2 A16.out).mono ?_
                    (case side1 => repeat (first | (with_reducible first | exact HI0.out | apply IsS77.alloc | apply IsS77.drewN | apply IsS77.drew | apply IsS77.set_1 | refine IsS77.far ?_ NB0_237.out _ | refine IsS77.far ?_ NB0_238.out _) | exact HI0.out))
                    (case side2 => repeat (first | (with_reducible first | exact HB.out | apply bA_ | apply bN_ | apply bD_ | refine below_set ?_ (IsS77.ge HI0.out) | refine below_set ?_ GE237.out | refine below_set ?_ GE238.out) | exact HB.out))
                    rintro e w26 ⟨rfl, hi, hb, hk⟩
                    refine ⟨_, rfl, ?_⟩
                    have n0_ := aS_ (rM_ (Kd.R_keep (IsS77.apart (show IsS77 w0 _ g s0_0 t249 from by repeat (first | (with_reducible first | exact HI0.out | apply IsS77.alloc | apply IsS77.drewN | apply IsS77.drew | apply IsS77.set_1 | refine IsS77.far ?_ NB0_237.out _ | refine IsS77.far ?_ NB0_238.out _) | exact HI0.out)) (by (with_reducible repeat (first | apply rA_ | apply rN_ | apply rD_)); exact HO_239000.out) (by decide)) hk (fun _ h => h.2)) (fun _ h => h.1))
                    have n1_ := aS_ (KeepBut.blk hk (g' := gb237) (o := .cells #[.slice none 0 0] 25 (0, 0)) (by (with_reducible repeat (first | refine kN_ ?_ _ | refine kD_ ?_ | refine kA_ ?_ _)); exact BK237.out) NB237_0.out (by simp))
                    have n2_ := aS_ (KeepBut.blk hk (g' := gb238) (o := .cells #[.slice Ao21 x239000_1.length co21] 25 (0, 0)) (by (with_reducible repeat (first | refine kN_ ?_ _ | refine kD_ ?_ | refine kA_ ?_ _)); exact BK238.out) NB238_0.out (by simp))
                    have n3_ := aS_ (KeepBut.trans (by repeat (first | (with_reducible first | exact HK.out | apply KeepBut.set_ | apply keep_drewN | apply keep_drew | apply keep_alloc | refine keep_far ?_ GW237.out _ | refine keep_far ?_ GW238.out _) | exact HK.out)) hk (.inl rfl))
                    have n4_ := aS_ (hb)
                    have n5_ := aS_ (hi)
                    have z_HO247 := fun (h0_ : b 5 = true) => (show Kd.R (Kd.int .i64) 3 w26 w.heap.size (fun _ => True) v246 y245 from by first | exact (rM_ (Kd.R_keep (IsS77.apart (show IsS77 w0 _ g s0_0 t249 from by repeat (first | (with_reducible first | exact HI0.out | apply IsS77.alloc | apply IsS77.drewN | apply IsS77.drew | apply IsS77.set_1 | refine IsS77.far ?_ NB0_237.out _ | refine IsS77.far ?_ NB0_238.out _) | exact HI0.out)) (by (with_reducible repeat (first | apply rA_ | apply rN_ | apply rD_)); exact (Q_HO247 h0_)) (by decide)) hk (fun _ h => h.2)) (fun _ h => h.1)) | exact rM_ (rM_ (Kd.R_keep (IsS77.apart (show IsS77 w0 _ g s0_0 t249 from by repeat (first | (with_reducible first | exact HI0.out | apply IsS77.alloc | apply IsS77.drewN | apply IsS77.drew | apply IsS77.set_1 | refine IsS77.far ?_ NB0_237.out _ | refine IsS77.far ?_ NB0_238.out _) | exact HI0.out)) (by (with_reducible repeat (first | apply rA_ | apply rN_ | apply rD_)); exact (Q_HO247 h0_)) (by decide)) hk (fun _ h => h.2)) (fun _ h => h.1)) (fun _ h_ => by first | trivial | exact h_ | exact h_.1))
                    have z_BK264 := fun (h0_ : b 21 = true) (h1_ : b 23 = false) => (show w26.heap[gb264]? = some (.cells #[.slice none 0 0] 25 (0, 0)) from by first | exact (KeepBut.blk hk (g' := gb264) (o := .cells #[.slice none 0 0] 25 (0, 0)) (by (with_reducible repeat (first | refine kN_ ?_ _ | refine kD_ ?_ | refine kA_ ?_ _)); exact (Q_BK264 h0_ h1_)) (Q_NB264_0 h0_) (by simp)))
                    have z_BK265 := fun (h0_ : b 22 = true) (h1_ : b 24 = false) => (show w26.heap[gb265]? = some (.cells #[.int .i64 0, .int .i64 0] 29 (0, 0)) from by first | exact (KeepBut.blk hk (g' := gb265) (o := .cells #[.int .i64 0, .int .i64 0] 29 (0, 0)) (by (with_reducible repeat (first | refine kN_ ?_ _ | refine kD_ ?_ | refine kA_ ?_ _)); exact (Q_BK265 h0_ h1_)) (Q_NB265_0 h0_) (by simp)))
                    clear HO_239000
                    clear BK237
                    clear BK238
                    clear HK
                    clear HB
                    clear HI0
                    have HO_239000 := n0_
                    have BK237 := n1_
                    have BK238 := n2_
                    have HK := n3_
                    have HB := n4_
                    have HI0 := n5_
                    clear n0_ n1_ n2_ n3_ n4_ n5_
                    (try clear hb)
                    (try clear hb2)
                    (try clear hk)
                    (try clear hi)
                    refine hK.out _ _ ⟨v246, adz_v246, v254, adz_v254, v260, gb264, gb265, m8_, m15_, m17_, m18_, m19_, m21_, m22_, (by rw [ha.out]; exact putSel_upk 7 hb_ rfl rfl rfl), (by (with_reducible repeat (first | apply rA_ | apply rN_ | apply rD_)); exact HO_239000.out), (by (with_reducible repeat (first | refine kN_ ?_ _ | refine kD_ ?_ | refine kA_ ?_ _)); exact BK237.out), (by (with_reducible repeat (first | refine kN_ ?_ _ | refine kD_ ?_ | refine kA_ ?_ _)); exact BK238.out), fun h0_ => absurd ((hon 2 (by kernel_rfl)).symm.trans h0_) (by decide), (by repeat (first | (with_reducible first | exact HK.out | apply KeepBut.set_ | apply keep_drewN | apply keep_drew | apply keep_alloc | refine keep_far ?_ GW237.out _ | refine keep_far ?_ GW238.out _) | exact HK.out)), (by repeat (first | (with_reducible first | exact HB.out | apply bA_ | apply bN_ | apply bD_ | refine below_set ?_ (IsS77.ge HI0.out) | refine below_set ?_ GE237.out | refine below_set ?_ GE238.out) | exact HB.out)), Q_NB265_264, Q_NB264_265, fun _ h1_ => absurd ((hon 4 (by kernel_rfl)).symm.trans h1_) (by decide), fun _ h1_ => absurd ((hon 7 (by kernel_rfl)).symm.trans h1_) (by decide), z_HO247, Q_HA_HO247, fun _ h1_ => absurd ((up_self b 11).symm.trans h1_) (by decide), fun _ _ => (by repeat (first | (with_reducible first | exact HI0.out | apply IsS77.alloc | apply IsS77.drewN | apply IsS77.drew | apply IsS77.set_1 | refine IsS77.far ?_ NB0_237.out _ | refine IsS77.far ?_ NB0_238.out _) | exact HI0.out)), fun h0_ => absurd ((hoff 12 (by kernel_rfl)).symm.trans h0_) (by decide), fun h0_ => absurd ((hoff 12 (by kernel_rfl)).symm.trans h0_) (by decide), fun h0_ => absurd ((hoff 14 (by kernel_rfl)).symm.trans h0_) (by decide), fun h0_ => absurd ((hoff 17 (by kernel_rfl)).symm.trans h0_) (by decide), z_BK264, Q_GW264, Q_GE264, Q_NB0_264, Q_NB264_0, Q_NB237_264, Q_NB264_237, Q_NB238_264, Q_NB264_238, z_BK265, Q_GW265, Q_GE265, Q_NB0_265, Q_NB265_0, Q_NB237_265, Q_NB265_237, Q_NB238_265, Q_NB265_238, fun h0_ => absurd ((hoff 23 (by kernel_rfl)).symm.trans h0_) (by decide), fun h0_ => absurd ((hoff 24 (by kernel_rfl)).symm.trans h0_) (by decide), Q_X8_, fun h0_ => absurd ((hoff 15 (by kernel_rfl)).symm.trans h0_) (by decide), fun h0_ => absurd ((hoff 17 (by kernel_rfl)).symm.trans h0_) (by decide), fun h0_ => absurd ((hoff 18 (by kernel_rfl)).symm.trans h0_) (by decide), fun h0_ => absurd ((hoff 19 (by kernel_rfl)).symm.trans h0_) (by decide), Q_X21_, Q_X22_⟩
                  refine steps_cons ?_ ?_
                  · rintro b a w' ⟨v246, adz_v246, v254, adz_v254, v260, gb264, gb265, m8_, m15_, m17_, m18_, m19_, m21_, m22_, ha, Q_HO_239000, Q_BK237, Q_BK238, Q_HI0, Q_HK, Q_HB, Q_NB265_264, Q_NB264_265, Q_HI0_e2, Q_HI0_e4, Q_HO247, Q_HA_HO247, Q_HI0_e7, Q_HI0_e11, Q_HO255, Q_HA_HO255, Q_HI0_e14, Q_HO261, Q_BK264, Q_GW264, Q_GE264, Q_NB0_264, Q_NB264_0, Q_NB237_264, Q_NB264_237, Q_NB238_264, Q_NB264_238, Q_BK265, Q_GW265, Q_GE265, Q_NB0_265, Q_NB265_0, Q_NB237_265, Q_NB265_237, Q_NB238_265, Q_NB265_238, Q_BK264_e23, Q_BK265_e24, Q_X8_, Q_X15_, Q_X17_, Q_X18_, Q_X19_, Q_X21_, Q_X22_⟩ hb_ hon hoff
                    refine ⟨_, rfl, fun K hK => ?_⟩
                    have e28 : a.tmps[28]? = some (.int .i64 t251) := by rw [ha]; exact putSel_on (e := (11, 28, .int .i64 t251)) 7 rfl rfl (hon 11 (by kernel_rfl)) rfl
                    replace ha := aS_ ha
                    have HO_239000 := aS_ Q_HO_239000
                    have BK237 := aS_ Q_BK237
                    have BK238 := aS_ Q_BK238
                    have HK := aS_ Q_HK
                    have HB := aS_ Q_HB
                    refine Kd.R_lit_step (Kd.int .i64) _ 3 ?hg (N := 29) ?hd (xs := ([t251, 999, 0] : List Int)) (inner := [.int .i64 t251, .int .i64 999, .int .i64 0]) (ok := fun _ => True) (okp := fun _ => True) ?hr ?hp (fun _ hk => hk) trivial (Below.refl _ _) (Nat.le_refl _) (by simp) ?_; (case hd => rfl); (case hg => rfl); (case hr => first | (go_simp; done) | (go_simp; rfl)); (case hp => exact (Reps.one (show Kd.M (Kd.int .i64) _ _ _ t251 [.int .i64 t251] from rfl) (Reps.one (show Kd.M (Kd.int .i64) _ _ _ 999 [.int .i64 999] from rfl) (Reps.one (show Kd.M (Kd.int .i64) _ _ _ 0 [.int .i64 0] from rfl) (Reps.none _ _)))))
                    intro v254 w27 ho28 hb hg_ hnew_
                    clear hg_ hnew_
                    (first | rw [← Ny253.out] at ho28 | (simp only [Int.reduceToNat] at ho28; rw [← Ny253.out] at ho28))
                    have n0_ := aS_ (Kd.R_below (by (with_reducible repeat (first | apply rA_ | apply rN_ | apply rD_)); exact HO_239000.out) hb)
                    have n1_ := aS_ (Kd.R_lower ho28 (keep_size (w := w) (g := g) (row := none) (by repeat (first | (with_reducible first | exact HK.out | apply KeepBut.set_ | apply keep_drewN | apply keep_drew | apply keep_alloc | refine keep_far ?_ GW237.out _ | refine keep_far ?_ GW238.out _) | exact HK.out))))
                    have n2_ := aS_ (blk_below (g := gb237) (o := .cells #[.slice none 0 0] 25 (0, 0)) (by (with_reducible repeat (first | refine kN_ ?_ _ | refine kD_ ?_ | refine kA_ ?_ _)); exact BK237.out) hb)
                    have n3_ := aS_ (blk_below (g := gb238) (o := .cells #[.slice Ao21 x239000_1.length co21] 25 (0, 0)) (by (with_reducible repeat (first | refine kN_ ?_ _ | refine kD_ ?_ | refine kA_ ?_ _)); exact BK238.out) hb)
                    have n5_ := aS_ (KeepBut.trans (by repeat (first | (with_reducible first | exact HK.out | apply KeepBut.set_ | apply keep_drewN | apply keep_drew | apply keep_alloc | refine keep_far ?_ GW237.out _ | refine keep_far ?_ GW238.out _) | exact HK.out)) (KeepBut.of_below hb g none) (.inl rfl))
                    have n6_ := aS_ (below_step (by repeat (first | (with_reducible first | exact HB.out | apply bA_ | apply bN_ | apply bD_ | refine below_set ?_ GE237.out | refine below_set ?_ GE238.out) | exact HB.out)) hb)
                    have z_HO247 := fun (h0_ : b 5 = true) => (show Kd.R (Kd.int .i64) 3 w27 w.heap.size (fun _ => True) v246 y245 from by first | exact (Kd.R_elder' (by (with_reducible repeat (first | apply rA_ | apply rN_ | apply rD_)); exact (Q_HO247 h0_)) (Kd.R_base ho28) hb) | exact rM_ (Kd.R_elder' (by (with_reducible repeat (first | apply rA_ | apply rN_ | apply rD_)); exact (Q_HO247 h0_)) (Kd.R_base ho28) hb) (fun _ h_ => by first | trivial | exact h_ | exact h_.1))
                    have z_HI0_e11 := fun (h0_ : b 11 = true) (h1_ : b 14 = false) => (show IsS77 w0 w27 g s0_0 t252 from by first | exact (IsS77.below (by repeat (first | (with_reducible first | exact (Q_HI0_e11 h0_ h1_) | apply IsS77.alloc | apply IsS77.drewN | apply IsS77.drew | apply IsS77.set_1 | refine IsS77.far ?_ NB0_237.out _ | refine IsS77.far ?_ NB0_238.out _) | exact (Q_HI0_e11 h0_ h1_))) hb))
                    have z_HI0_e14 := fun (h0_ : b 14 = true) => (show IsS77 w0 w27 g s0_0 t257 from by first | exact (IsS77.below (by repeat (first | (with_reducible first | exact (Q_HI0_e14 h0_) | apply IsS77.alloc | apply IsS77.drewN | apply IsS77.drew | apply IsS77.set_1 | refine IsS77.far ?_ NB0_237.out _ | refine IsS77.far ?_ NB0_238.out _) | exact (Q_HI0_e14 h0_))) hb))
                    have z_BK264 := fun (h0_ : b 21 = true) (h1_ : b 23 = false) => (show w27.heap[gb264]? = some (.cells #[.slice none 0 0] 25 (0, 0)) from by first | exact (blk_below (g := gb264) (o := .cells #[.slice none 0 0] 25 (0, 0)) (by (with_reducible repeat (first | refine kN_ ?_ _ | refine kD_ ?_ | refine kA_ ?_ _)); exact (Q_BK264 h0_ h1_)) hb))
                    have z_BK265 := fun (h0_ : b 22 = true) (h1_ : b 24 = false) => (show w27.heap[gb265]? = some (.cells #[.int .i64 0, .int .i64 0] 29 (0, 0)) from by first | exact (blk_below (g := gb265) (o := .cells #[.int .i64 0, .int .i64 0] 29 (0, 0)) (by (with_reducible repeat (first | refine kN_ ?_ _ | refine kD_ ?_ | refine kA_ ?_ _)); exact (Q_BK265 h0_ h1_)) hb))
                    clear HO_239000
                    clear BK237
                    clear BK238
                    clear HK
                    clear HB
                    have HO_239000 := n0_
                    have HO255 := n1_
                    have BK237 := n2_
                    have BK238 := n3_
                    have HK := n5_
                    have HB := n6_
                    clear n0_ n1_ n2_ n3_ n5_ n6_
                    clear hb ho28
                    obtain ⟨Ao29, co29, eo29⟩ := Kd.R_slice HO255.out
                    subst eo29
                    obtain ⟨ado29, fo29, _⟩ := Kd.at_int (Kd.R_reads' HO255.out).2.2 0 (by decide) (by rw [Ny253.out]; simp)
                    cases fo29
                    refine hK.out _ _ ⟨v246, adz_v246, .slice (some ado29) y253.length co29, ado29, v260, gb264, gb265, m8_, m15_, m17_, m18_, m19_, m21_, m22_, (by rw [ha.out]; exact putSel_upk 8 hb_ rfl rfl rfl), (by (with_reducible repeat (first | apply rA_ | apply rN_ | apply rD_)); exact HO_239000.out), (by (with_reducible repeat (first | refine kN_ ?_ _ | refine kD_ ?_ | refine kA_ ?_ _)); exact BK237.out), (by (with_reducible repeat (first | refine kN_ ?_ _ | refine kD_ ?_ | refine kA_ ?_ _)); exact BK238.out), fun h0_ => absurd ((hon 2 (by kernel_rfl)).symm.trans h0_) (by decide), (by repeat (first | (with_reducible first | exact HK.out | apply KeepBut.set_ | apply keep_drewN | apply keep_drew | apply keep_alloc | refine keep_far ?_ GW237.out _ | refine keep_far ?_ GW238.out _) | exact HK.out)), (by repeat (first | (with_reducible first | exact HB.out | apply bA_ | apply bN_ | apply bD_ | refine below_set ?_ GE237.out | refine below_set ?_ GE238.out) | exact HB.out)), Q_NB265_264, Q_NB264_265, fun _ h1_ => absurd ((hon 4 (by kernel_rfl)).symm.trans h1_) (by decide), fun _ h1_ => absurd ((hon 7 (by kernel_rfl)).symm.trans h1_) (by decide), z_HO247, Q_HA_HO247, fun _ h1_ => absurd ((hon 11 (by kernel_rfl)).symm.trans h1_) (by decide), z_HI0_e11, fun _ => (by (with_reducible repeat (first | apply rA_ | apply rN_ | apply rD_)); exact HO255.out), fun _ => ⟨_, rfl⟩, z_HI0_e14, fun h0_ => absurd ((hoff 17 (by kernel_rfl)).symm.trans h0_) (by decide), z_BK264, Q_GW264, Q_GE264, Q_NB0_264, Q_NB264_0, Q_NB237_264, Q_NB264_237, Q_NB238_264, Q_NB264_238, z_BK265, Q_GW265, Q_GE265, Q_NB0_265, Q_NB265_0, Q_NB237_265, Q_NB265_237, Q_NB238_265, Q_NB265_238, fun h0_ => absurd ((hoff 23 (by kernel_rfl)).symm.trans h0_) (by decide), fun h0_ => absurd ((hoff 24 (by kernel_rfl)).symm.trans h0_) (by decide), Q_X8_, fun h0_ => absurd ((hoff 15 (by kernel_rfl)).symm.trans h0_) (by decide), fun h0_ => absurd ((hoff 17 (by kernel_rfl)).symm.trans h0_) (by decide), fun h0_ => absurd ((hoff 18 (by kernel_rfl)).symm.trans h0_) (by decide), fun h0_ => absurd ((hoff 19 (by kernel_rfl)).symm.trans h0_) (by decide), Q_X21_, Q_X22_⟩
                  refine steps_cons ?_ ?_
                  · rintro b a w' ⟨v246, adz_v246, v254, adz_v254, v260, gb264, gb265, m8_, m15_, m17_, m18_, m19_, m21_, m22_, ha, Q_HO_239000, Q_BK237, Q_BK238, Q_HI0, Q_HK, Q_HB, Q_NB265_264, Q_NB264_265, Q_HI0_e2, Q_HI0_e4, Q_HO247, Q_HA_HO247, Q_HI0_e7, Q_HI0_e11, Q_HO255, Q_HA_HO255, Q_HI0_e14, Q_HO261, Q_BK264, Q_GW264, Q_GE264, Q_NB0_264, Q_NB264_0, Q_NB237_264, Q_NB264_237, Q_NB238_264, Q_NB264_238, Q_BK265, Q_GW265, Q_GE265, Q_NB0_265, Q_NB265_0, Q_NB237_265, Q_NB265_237, Q_NB238_265, Q_NB265_238, Q_BK264_e23, Q_BK265_e24, Q_X8_, Q_X15_, Q_X17_, Q_X18_, Q_X19_, Q_X21_, Q_X22_⟩ hb_ hon hoff
                    refine ⟨_, rfl, fun K hK => ?_⟩
                    have e30 : a.tmps[30]? = some (.pointer (some ⟨g, 0, none⟩)) := by rw [ha]; exact (putSel_off rfl).trans rfl
                    replace ha := aS_ ha
                    have HO_239000 := aS_ Q_HO_239000
                    have BK237 := aS_ Q_BK237
                    have BK238 := aS_ Q_BK238
                    have HK := aS_ Q_HK
                    have HB := aS_ Q_HB
                    have HI0 := aS_ (Q_HI0_e11 (hon 11 (by kernel_rfl)) hb_)
                    refine goes_ Try.func57 (by kernel_rfl) rfl #[.pointer (some ⟨g, 0, none⟩), .int .i64 3] (by rfl) rfl rfl (by first | (simp only [List.map_toArray, List.map_cons, List.map_nil, Act.eval, Array.getD_eq_getD_getElem?, Option.getD_some, e30]; done) | (simp only [List.map_toArray, List.map_cons, List.map_nil, Act.eval, Array.getD_eq_getD_getElem?, Option.getD_some, e30]; rfl)) ?_
                    with_reducible refine (spec_l20Rd_pick.calls k1 g s0_0 t252 3 t256 t257 w0 _ ?side1 ?side2 A17.out).mono ?_
                    (case side1 => repeat (first | (with_reducible first | exact HI0.out | apply IsS77.alloc | apply IsS77.drewN | apply IsS77.drew | apply IsS77.set_1 | refine IsS77.far ?_ NB0_237.out _ | refine IsS77.far ?_ NB0_238.out _) | exact HI0.out))
                    (case side2 => repeat (first | (with_reducible first | exact HB.out | apply bA_ | apply bN_ | apply bD_ | refine below_set ?_ (IsS77.ge HI0.out) | refine below_set ?_ GE237.out | refine below_set ?_ GE238.out) | exact HB.out))
                    rintro e w27 ⟨rfl, hi, hb, hk⟩
                    refine ⟨_, rfl, ?_⟩
                    have n0_ := aS_ (rM_ (Kd.R_keep (IsS77.apart (show IsS77 w0 _ g s0_0 t252 from by repeat (first | (with_reducible first | exact HI0.out | apply IsS77.alloc | apply IsS77.drewN | apply IsS77.drew | apply IsS77.set_1 | refine IsS77.far ?_ NB0_237.out _ | refine IsS77.far ?_ NB0_238.out _) | exact HI0.out)) (by (with_reducible repeat (first | apply rA_ | apply rN_ | apply rD_)); exact HO_239000.out) (by decide)) hk (fun _ h => h.2)) (fun _ h => h.1))
                    have n1_ := aS_ (KeepBut.blk hk (g' := gb237) (o := .cells #[.slice none 0 0] 25 (0, 0)) (by (with_reducible repeat (first | refine kN_ ?_ _ | refine kD_ ?_ | refine kA_ ?_ _)); exact BK237.out) NB237_0.out (by simp))
                    have n2_ := aS_ (KeepBut.blk hk (g' := gb238) (o := .cells #[.slice Ao21 x239000_1.length co21] 25 (0, 0)) (by (with_reducible repeat (first | refine kN_ ?_ _ | refine kD_ ?_ | refine kA_ ?_ _)); exact BK238.out) NB238_0.out (by simp))
                    have n3_ := aS_ (KeepBut.trans (by repeat (first | (with_reducible first | exact HK.out | apply KeepBut.set_ | apply keep_drewN | apply keep_drew | apply keep_alloc | refine keep_far ?_ GW237.out _ | refine keep_far ?_ GW238.out _) | exact HK.out)) hk (.inl rfl))
                    have n4_ := aS_ (hb)
                    have n5_ := aS_ (hi)
                    have z_HO247 := fun (h0_ : b 5 = true) => (show Kd.R (Kd.int .i64) 3 w27 w.heap.size (fun _ => True) v246 y245 from by first | exact (rM_ (Kd.R_keep (IsS77.apart (show IsS77 w0 _ g s0_0 t252 from by repeat (first | (with_reducible first | exact HI0.out | apply IsS77.alloc | apply IsS77.drewN | apply IsS77.drew | apply IsS77.set_1 | refine IsS77.far ?_ NB0_237.out _ | refine IsS77.far ?_ NB0_238.out _) | exact HI0.out)) (by (with_reducible repeat (first | apply rA_ | apply rN_ | apply rD_)); exact (Q_HO247 h0_)) (by decide)) hk (fun _ h => h.2)) (fun _ h => h.1)) | exact rM_ (rM_ (Kd.R_keep (IsS77.apart (show IsS77 w0 _ g s0_0 t252 from by repeat (first | (with_reducible first | exact HI0.out | apply IsS77.alloc | apply IsS77.drewN | apply IsS77.drew | apply IsS77.set_1 | refine IsS77.far ?_ NB0_237.out _ | refine IsS77.far ?_ NB0_238.out _) | exact HI0.out)) (by (with_reducible repeat (first | apply rA_ | apply rN_ | apply rD_)); exact (Q_HO247 h0_)) (by decide)) hk (fun _ h => h.2)) (fun _ h => h.1)) (fun _ h_ => by first | trivial | exact h_ | exact h_.1))
                    have z_HO255 := fun (h0_ : b 12 = true) => (show Kd.R (Kd.int .i64) 3 w27 w.heap.size (fun _ => True) v254 y253 from by first | exact (rM_ (Kd.R_keep (IsS77.apart (show IsS77 w0 _ g s0_0 t252 from by repeat (first | (with_reducible first | exact HI0.out | apply IsS77.alloc | apply IsS77.drewN | apply IsS77.drew | apply IsS77.set_1 | refine IsS77.far ?_ NB0_237.out _ | refine IsS77.far ?_ NB0_238.out _) | exact HI0.out)) (by (with_reducible repeat (first | apply rA_ | apply rN_ | apply rD_)); exact (Q_HO255 h0_)) (by decide)) hk (fun _ h => h.2)) (fun _ h => h.1)) | exact rM_ (rM_ (Kd.R_keep (IsS77.apart (show IsS77 w0 _ g s0_0 t252 from by repeat (first | (with_reducible first | exact HI0.out | apply IsS77.alloc | apply IsS77.drewN | apply IsS77.drew | apply IsS77.set_1 | refine IsS77.far ?_ NB0_237.out _ | refine IsS77.far ?_ NB0_238.out _) | exact HI0.out)) (by (with_reducible repeat (first | apply rA_ | apply rN_ | apply rD_)); exact (Q_HO255 h0_)) (by decide)) hk (fun _ h => h.2)) (fun _ h => h.1)) (fun _ h_ => by first | trivial | exact h_ | exact h_.1))
                    have z_BK264 := fun (h0_ : b 21 = true) (h1_ : b 23 = false) => (show w27.heap[gb264]? = some (.cells #[.slice none 0 0] 25 (0, 0)) from by first | exact (KeepBut.blk hk (g' := gb264) (o := .cells #[.slice none 0 0] 25 (0, 0)) (by (with_reducible repeat (first | refine kN_ ?_ _ | refine kD_ ?_ | refine kA_ ?_ _)); exact (Q_BK264 h0_ h1_)) (Q_NB264_0 h0_) (by simp)))
                    have z_BK265 := fun (h0_ : b 22 = true) (h1_ : b 24 = false) => (show w27.heap[gb265]? = some (.cells #[.int .i64 0, .int .i64 0] 29 (0, 0)) from by first | exact (KeepBut.blk hk (g' := gb265) (o := .cells #[.int .i64 0, .int .i64 0] 29 (0, 0)) (by (with_reducible repeat (first | refine kN_ ?_ _ | refine kD_ ?_ | refine kA_ ?_ _)); exact (Q_BK265 h0_ h1_)) (Q_NB265_0 h0_) (by simp)))
                    clear HO_239000
                    clear BK237
                    clear BK238
                    clear HK
                    clear HB
                    clear HI0
                    have HO_239000 := n0_
                    have BK237 := n1_
                    have BK238 := n2_
                    have HK := n3_
                    have HB := n4_
                    have HI0 := n5_
                    clear n0_ n1_ n2_ n3_ n4_ n5_
                    (try clear hb)
                    (try clear hb2)
                    (try clear hk)
                    (try clear hi)
                    refine hK.out _ _ ⟨v246, adz_v246, v254, adz_v254, v260, gb264, gb265, m8_, m15_, m17_, m18_, m19_, m21_, m22_, (by rw [ha.out]; exact putSel_upk 9 hb_ rfl rfl rfl), (by (with_reducible repeat (first | apply rA_ | apply rN_ | apply rD_)); exact HO_239000.out), (by (with_reducible repeat (first | refine kN_ ?_ _ | refine kD_ ?_ | refine kA_ ?_ _)); exact BK237.out), (by (with_reducible repeat (first | refine kN_ ?_ _ | refine kD_ ?_ | refine kA_ ?_ _)); exact BK238.out), fun h0_ => absurd ((hon 2 (by kernel_rfl)).symm.trans h0_) (by decide), (by repeat (first | (with_reducible first | exact HK.out | apply KeepBut.set_ | apply keep_drewN | apply keep_drew | apply keep_alloc | refine keep_far ?_ GW237.out _ | refine keep_far ?_ GW238.out _) | exact HK.out)), (by repeat (first | (with_reducible first | exact HB.out | apply bA_ | apply bN_ | apply bD_ | refine below_set ?_ (IsS77.ge HI0.out) | refine below_set ?_ GE237.out | refine below_set ?_ GE238.out) | exact HB.out)), Q_NB265_264, Q_NB264_265, fun _ h1_ => absurd ((hon 4 (by kernel_rfl)).symm.trans h1_) (by decide), fun _ h1_ => absurd ((hon 7 (by kernel_rfl)).symm.trans h1_) (by decide), z_HO247, Q_HA_HO247, fun _ h1_ => absurd ((hon 11 (by kernel_rfl)).symm.trans h1_) (by decide), fun _ h1_ => absurd ((up_self b 14).symm.trans h1_) (by decide), z_HO255, Q_HA_HO255, fun _ => (by repeat (first | (with_reducible first | exact HI0.out | apply IsS77.alloc | apply IsS77.drewN | apply IsS77.drew | apply IsS77.set_1 | refine IsS77.far ?_ NB0_237.out _ | refine IsS77.far ?_ NB0_238.out _) | exact HI0.out)), fun h0_ => absurd ((hoff 17 (by kernel_rfl)).symm.trans h0_) (by decide), z_BK264, Q_GW264, Q_GE264, Q_NB0_264, Q_NB264_0, Q_NB237_264, Q_NB264_237, Q_NB238_264, Q_NB264_238, z_BK265, Q_GW265, Q_GE265, Q_NB0_265, Q_NB265_0, Q_NB237_265, Q_NB265_237, Q_NB238_265, Q_NB265_238, fun h0_ => absurd ((hoff 23 (by kernel_rfl)).symm.trans h0_) (by decide), fun h0_ => absurd ((hoff 24 (by kernel_rfl)).symm.trans h0_) (by decide), Q_X8_, fun h0_ => absurd ((hoff 15 (by kernel_rfl)).symm.trans h0_) (by decide), fun h0_ => absurd ((hoff 17 (by kernel_rfl)).symm.trans h0_) (by decide), fun h0_ => absurd ((hoff 18 (by kernel_rfl)).symm.trans h0_) (by decide), fun h0_ => absurd ((hoff 19 (by kernel_rfl)).symm.trans h0_) (by decide), Q_X21_, Q_X22_⟩
                  refine steps_cons ?_ ?_
                  · rintro b a w' ⟨v246, adz_v246, v254, adz_v254, v260, gb264, gb265, m8_, m15_, m17_, m18_, m19_, m21_, m22_, ha, Q_HO_239000, Q_BK237, Q_BK238, Q_HI0, Q_HK, Q_HB, Q_NB265_264, Q_NB264_265, Q_HI0_e2, Q_HI0_e4, Q_HO247, Q_HA_HO247, Q_HI0_e7, Q_HI0_e11, Q_HO255, Q_HA_HO255, Q_HI0_e14, Q_HO261, Q_BK264, Q_GW264, Q_GE264, Q_NB0_264, Q_NB264_0, Q_NB237_264, Q_NB264_237, Q_NB238_264, Q_NB264_238, Q_BK265, Q_GW265, Q_GE265, Q_NB0_265, Q_NB265_0, Q_NB237_265, Q_NB265_237, Q_NB238_265, Q_NB265_238, Q_BK264_e23, Q_BK265_e24, Q_X8_, Q_X15_, Q_X17_, Q_X18_, Q_X19_, Q_X21_, Q_X22_⟩ hb_ hon hoff
                    refine ⟨_, rfl, fun K hK => ?_⟩
                    have e29 : a.tmps[29]? = some (v254) := by rw [ha]; exact putSel_on (e := (12, 29, v254)) 8 rfl rfl (hon 12 (by kernel_rfl)) rfl
                    have e31 : a.tmps[31]? = some (.int .i64 t256) := by rw [ha]; exact putSel_on (e := (14, 31, .int .i64 t256)) 9 rfl rfl (hon 14 (by kernel_rfl)) rfl
                    replace ha := aS_ ha
                    have HO_239000 := aS_ Q_HO_239000
                    have BK237 := aS_ Q_BK237
                    have BK238 := aS_ Q_BK238
                    have HK := aS_ Q_HK
                    have HB := aS_ Q_HB
                    have HO255 := aS_ (Q_HO255 (hon 12 (by kernel_rfl)))
                    have HA_HO255 := aS_ (Q_HA_HO255 (hon 12 (by kernel_rfl)))
                    have HI0 := aS_ (Q_HI0_e14 (hon 14 (by kernel_rfl)))
                    obtain ⟨c_, hv_⟩ := HA_HO255.out
                    rw [hv_] at e29
                    refine value_ (w1 := w') (v := .pointer (some (adz_v254.add (t256).toNat))) (by rfl) rfl ?_ ?_
                    · go_simp
                      (try simp only [i64_w])
                      try rfl
                    refine hK.out _ _ ⟨v246, adz_v246, v254, adz_v254, v260, gb264, gb265, m8_, (.pointer (some (adz_v254.add (t256).toNat))), m17_, m18_, m19_, m21_, m22_, (by rw [ha.out]; exact putSel_upk 10 hb_ rfl rfl rfl), Q_HO_239000, Q_BK237, Q_BK238, fun h0_ => absurd ((hon 2 (by kernel_rfl)).symm.trans h0_) (by decide), Q_HK, Q_HB, Q_NB265_264, Q_NB264_265, fun _ h1_ => absurd ((hon 4 (by kernel_rfl)).symm.trans h1_) (by decide), fun _ h1_ => absurd ((hon 7 (by kernel_rfl)).symm.trans h1_) (by decide), Q_HO247, Q_HA_HO247, fun _ h1_ => absurd ((hon 11 (by kernel_rfl)).symm.trans h1_) (by decide), fun _ h1_ => absurd ((hon 14 (by kernel_rfl)).symm.trans h1_) (by decide), Q_HO255, Q_HA_HO255, Q_HI0_e14, fun h0_ => absurd ((hoff 17 (by kernel_rfl)).symm.trans h0_) (by decide), Q_BK264, Q_GW264, Q_GE264, Q_NB0_264, Q_NB264_0, Q_NB237_264, Q_NB264_237, Q_NB238_264, Q_NB264_238, Q_BK265, Q_GW265, Q_GE265, Q_NB0_265, Q_NB265_0, Q_NB237_265, Q_NB265_237, Q_NB238_265, Q_NB265_238, fun h0_ => absurd ((hoff 23 (by kernel_rfl)).symm.trans h0_) (by decide), fun h0_ => absurd ((hoff 24 (by kernel_rfl)).symm.trans h0_) (by decide), Q_X8_, fun _ => rfl, fun h0_ => absurd ((hoff 17 (by kernel_rfl)).symm.trans h0_) (by decide), fun h0_ => absurd ((hoff 18 (by kernel_rfl)).symm.trans h0_) (by decide), fun h0_ => absurd ((hoff 19 (by kernel_rfl)).symm.trans h0_) (by decide), Q_X21_, Q_X22_⟩
                  refine steps_cons ?_ ?_
                  · rintro b a w' ⟨v246, adz_v246, v254, adz_v254, v260, gb264, gb265, m8_, m15_, m17_, m18_, m19_, m21_, m22_, ha, Q_HO_239000, Q_BK237, Q_BK238, Q_HI0, Q_HK, Q_HB, Q_NB265_264, Q_NB264_265, Q_HI0_e2, Q_HI0_e4, Q_HO247, Q_HA_HO247, Q_HI0_e7, Q_HI0_e11, Q_HO255, Q_HA_HO255, Q_HI0_e14, Q_HO261, Q_BK264, Q_GW264, Q_GE264, Q_NB0_264, Q_NB264_0, Q_NB237_264, Q_NB264_237, Q_NB238_264, Q_NB264_238, Q_BK265, Q_GW265, Q_GE265, Q_NB0_265, Q_NB265_0, Q_NB237_265, Q_NB265_237, Q_NB238_265, Q_NB265_238, Q_BK264_e23, Q_BK265_e24, Q_X8_, Q_X15_, Q_X17_, Q_X18_, Q_X19_, Q_X21_, Q_X22_⟩ hb_ hon hoff
                    refine ⟨_, rfl, fun K hK => ?_⟩
                    have e32 : a.tmps[32]? = some (m15_) := by rw [ha]; exact putSel_on (e := (15, 32, m15_)) 10 rfl rfl (hon 15 (by kernel_rfl)) rfl
                    rw [Q_X15_ (hon 15 (by kernel_rfl))] at e32
                    replace ha := aS_ ha
                    have HO_239000 := aS_ Q_HO_239000
                    have BK237 := aS_ Q_BK237
                    have BK238 := aS_ Q_BK238
                    have HK := aS_ Q_HK
                    have HB := aS_ Q_HB
                    have HO255 := aS_ (Q_HO255 (hon 12 (by kernel_rfl)))
                    have HA_HO255 := aS_ (Q_HA_HO255 (hon 12 (by kernel_rfl)))
                    have HI0 := aS_ (Q_HI0_e14 (hon 14 (by kernel_rfl)))
                    obtain ⟨c_, hv_⟩ := HA_HO255.out
                    have hF_ := HO255.out
                    rw [hv_] at hF_
                    obtain ⟨ad_, ea_, hx_⟩ := Kd.at_int (Kd.R_reads' hF_).2.2 t256 (of_eq_true pi258) (of_eq_true qi258)
                    cases ea_
                    refine value_ (w1 := w') (v := .int .i64 (rd y253 t256)) (by rfl) rfl ?_ ?_
                    · go_simp
                      (try simp only [i64_w])
                      try rfl
                    refine hK.out _ _ ⟨v246, adz_v246, v254, adz_v254, v260, gb264, gb265, m8_, m15_, m17_, m18_, m19_, m21_, m22_, (by rw [ha.out]; exact putSel_upk 11 hb_ rfl rfl rfl), Q_HO_239000, Q_BK237, Q_BK238, fun h0_ => absurd ((hon 2 (by kernel_rfl)).symm.trans h0_) (by decide), Q_HK, Q_HB, Q_NB265_264, Q_NB264_265, fun _ h1_ => absurd ((hon 4 (by kernel_rfl)).symm.trans h1_) (by decide), fun _ h1_ => absurd ((hon 7 (by kernel_rfl)).symm.trans h1_) (by decide), Q_HO247, Q_HA_HO247, fun _ h1_ => absurd ((hon 11 (by kernel_rfl)).symm.trans h1_) (by decide), fun _ h1_ => absurd ((hon 14 (by kernel_rfl)).symm.trans h1_) (by decide), Q_HO255, Q_HA_HO255, Q_HI0_e14, fun h0_ => absurd ((hoff 17 (by kernel_rfl)).symm.trans h0_) (by decide), Q_BK264, Q_GW264, Q_GE264, Q_NB0_264, Q_NB264_0, Q_NB237_264, Q_NB264_237, Q_NB238_264, Q_NB264_238, Q_BK265, Q_GW265, Q_GE265, Q_NB0_265, Q_NB265_0, Q_NB237_265, Q_NB265_237, Q_NB238_265, Q_NB265_238, fun h0_ => absurd ((hoff 23 (by kernel_rfl)).symm.trans h0_) (by decide), fun h0_ => absurd ((hoff 24 (by kernel_rfl)).symm.trans h0_) (by decide), Q_X8_, Q_X15_, fun h0_ => absurd ((hoff 17 (by kernel_rfl)).symm.trans h0_) (by decide), fun h0_ => absurd ((hoff 18 (by kernel_rfl)).symm.trans h0_) (by decide), fun h0_ => absurd ((hoff 19 (by kernel_rfl)).symm.trans h0_) (by decide), Q_X21_, Q_X22_⟩
                  refine steps_cons ?_ ?_
                  · rintro b a w' ⟨v246, adz_v246, v254, adz_v254, v260, gb264, gb265, m8_, m15_, m17_, m18_, m19_, m21_, m22_, ha, Q_HO_239000, Q_BK237, Q_BK238, Q_HI0, Q_HK, Q_HB, Q_NB265_264, Q_NB264_265, Q_HI0_e2, Q_HI0_e4, Q_HO247, Q_HA_HO247, Q_HI0_e7, Q_HI0_e11, Q_HO255, Q_HA_HO255, Q_HI0_e14, Q_HO261, Q_BK264, Q_GW264, Q_GE264, Q_NB0_264, Q_NB264_0, Q_NB237_264, Q_NB264_237, Q_NB238_264, Q_NB264_238, Q_BK265, Q_GW265, Q_GE265, Q_NB0_265, Q_NB265_0, Q_NB237_265, Q_NB265_237, Q_NB238_265, Q_NB265_238, Q_BK264_e23, Q_BK265_e24, Q_X8_, Q_X15_, Q_X17_, Q_X18_, Q_X19_, Q_X21_, Q_X22_⟩ hb_ hon hoff
                    refine ⟨_, rfl, fun K hK => ?_⟩
                    have e17 : a.tmps[17]? = some (.agg #[.slice Ao21 x239000_1.length co21]) := by rw [ha]; exact putSel_on (e := (0, 17, .agg #[.slice Ao21 x239000_1.length co21])) 0 rfl rfl (hon 0 (by kernel_rfl)) rfl
                    have e26 : a.tmps[26]? = some (.int .i64 (rd y245 t248)) := by rw [ha]; exact putSel_on (e := (9, 26, .int .i64 (rd y245 t248))) 6 rfl rfl (hon 9 (by kernel_rfl)) rfl
                    have e33 : a.tmps[33]? = some (.int .i64 (rd y253 t256)) := by rw [ha]; exact putSel_on (e := (16, 33, .int .i64 (rd y253 t256))) 11 rfl rfl (hon 16 (by kernel_rfl)) rfl
                    replace ha := aS_ ha
                    have HO_239000 := aS_ Q_HO_239000
                    have BK237 := aS_ Q_BK237
                    have BK238 := aS_ Q_BK238
                    have HK := aS_ Q_HK
                    have HB := aS_ Q_HB
                    have HO247 := aS_ (Q_HO247 (hon 5 (by kernel_rfl)))
                    have HA_HO247 := aS_ (Q_HA_HO247 (hon 5 (by kernel_rfl)))
                    have HO255 := aS_ (Q_HO255 (hon 12 (by kernel_rfl)))
                    have HA_HO255 := aS_ (Q_HA_HO255 (hon 12 (by kernel_rfl)))
                    have HI0 := aS_ (Q_HI0_e14 (hon 14 (by kernel_rfl)))
                    obtain ⟨co34, eo34⟩ := HA_HO247.out
                    clear HA_HO247
                    subst eo34
                    obtain ⟨co35, eo35⟩ := HA_HO255.out
                    clear HA_HO255
                    subst eo35
                    refine goes_ Try.func36 (by kernel_rfl) rfl #[.agg #[.slice Ao21 x239000_1.length co21], .int .i64 (rd y245 t248), .int .i64 (rd y253 t256)] (by rfl) rfl rfl (by first | (simp only [List.map_toArray, List.map_cons, List.map_nil, Act.eval, Array.getD_eq_getD_getElem?, Option.getD_some, e17, e26, e33]; done) | (simp only [List.map_toArray, List.map_cons, List.map_nil, Act.eval, Array.getD_eq_getD_getElem?, Option.getD_some, e17, e26, e33]; rfl)) ?_
                    with_reducible refine (spec_MapPut.calls k1 _ _ x239000_1 (rd y245 t248) (rd y253 t256) t259 t262 t263 _ ?side1 ?side2 A20.out).mono ?_
                    (case side1 => repeat (first | exact (Kd.R_reads' HO_239000.out).2.2 | (with_reducible refine Kd.C_alloc ?_ _) | (with_reducible refine Kd.C_drewN ?_ _) | (with_reducible refine Kd.C_drew ?_)))
                    (case side2 => exact (Kd.R_reads' HO_239000.out).2.1)
                    rintro e w37 ⟨v260, rfl, ho0, hb⟩
                    refine ⟨_, rfl, ?_⟩
                    have n0_ := aS_ (Kd.R_elder' (by (with_reducible repeat (first | apply rA_ | apply rN_ | apply rD_)); exact HO_239000.out) (Kd.R_base ho0) hb)
                    have n1_ := aS_ (Kd.R_below (by (with_reducible repeat (first | apply rA_ | apply rN_ | apply rD_)); exact HO247.out) hb)
                    have n2_ := aS_ (Kd.R_below (by (with_reducible repeat (first | apply rA_ | apply rN_ | apply rD_)); exact HO255.out) hb)
                    have n3_ := aS_ (Kd.R_lower (Kd.R_new' ho0 (Kd.R_lt (by (with_reducible repeat (first | apply rA_ | apply rN_ | apply rD_)); exact HO_239000.out))) (keep_size (w := w) (g := g) (row := none) (by repeat (first | (with_reducible first | exact HK.out | apply KeepBut.set_ | apply keep_drewN | apply keep_drew | apply keep_alloc | refine keep_far ?_ GW237.out _ | refine keep_far ?_ GW238.out _) | exact HK.out))))
                    have n4_ := aS_ (blk_below (g := gb237) (o := .cells #[.slice none 0 0] 25 (0, 0)) (by (with_reducible repeat (first | refine kN_ ?_ _ | refine kD_ ?_ | refine kA_ ?_ _)); exact BK237.out) hb)
                    have n5_ := aS_ (blk_below (g := gb238) (o := .cells #[.slice Ao21 x239000_1.length co21] 25 (0, 0)) (by (with_reducible repeat (first | refine kN_ ?_ _ | refine kD_ ?_ | refine kA_ ?_ _)); exact BK238.out) hb)
                    have n6_ := aS_ (IsS77.below (by repeat (first | (with_reducible first | exact HI0.out | apply IsS77.alloc | apply IsS77.drewN | apply IsS77.drew | apply IsS77.set_1 | refine IsS77.far ?_ NB0_237.out _ | refine IsS77.far ?_ NB0_238.out _) | exact HI0.out)) hb)
                    have n7_ := aS_ (KeepBut.trans (by repeat (first | (with_reducible first | exact HK.out | apply KeepBut.set_ | apply keep_drewN | apply keep_drew | apply keep_alloc | refine keep_far ?_ GW237.out _ | refine keep_far ?_ GW238.out _) | exact HK.out)) (KeepBut.of_below hb g none) (.inl rfl))
                    have n8_ := aS_ (below_step (by repeat (first | (with_reducible first | exact HB.out | apply bA_ | apply bN_ | apply bD_ | refine below_set ?_ (IsS77.ge HI0.out) | refine below_set ?_ GE237.out | refine below_set ?_ GE238.out) | exact HB.out)) hb)
                    have z_BK264 := fun (h0_ : b 21 = true) (h1_ : b 23 = false) => (show w37.heap[gb264]? = some (.cells #[.slice none 0 0] 25 (0, 0)) from by first | exact (blk_below (g := gb264) (o := .cells #[.slice none 0 0] 25 (0, 0)) (by (with_reducible repeat (first | refine kN_ ?_ _ | refine kD_ ?_ | refine kA_ ?_ _)); exact (Q_BK264 h0_ h1_)) hb))
                    have z_BK265 := fun (h0_ : b 22 = true) (h1_ : b 24 = false) => (show w37.heap[gb265]? = some (.cells #[.int .i64 0, .int .i64 0] 29 (0, 0)) from by first | exact (blk_below (g := gb265) (o := .cells #[.int .i64 0, .int .i64 0] 29 (0, 0)) (by (with_reducible repeat (first | refine kN_ ?_ _ | refine kD_ ?_ | refine kA_ ?_ _)); exact (Q_BK265 h0_ h1_)) hb))
                    clear HO_239000
                    clear HO247
                    clear HO255
                    clear BK237
                    clear BK238
                    clear HI0
                    clear HK
                    clear HB
                    have HO_239000 := n0_
                    have HO247 := n1_
                    have HO255 := n2_
                    have HO261 := n3_
                    have BK237 := n4_
                    have BK238 := n5_
                    have HI0 := n6_
                    have HK := n7_
                    have HB := n8_
                    clear n0_ n1_ n2_ n3_ n4_ n5_ n6_ n7_ n8_
                    (try clear hb)
                    (try clear hb2)
                    (try clear hk)
                    (try clear hi)
                    (try clear ho0)
                    refine hK.out _ _ ⟨.slice (some adz_v246) y245.length co34, adz_v246, .slice (some adz_v254) y253.length co35, adz_v254, v260, gb264, gb265, m8_, m15_, (.tuple #[.agg #[v260], .agg #[.int .i64 t262, .int .i64 t263]]), m18_, m19_, m21_, m22_, (by rw [ha.out]; exact putSel_upk 12 hb_ rfl rfl rfl), (by (with_reducible repeat (first | apply rA_ | apply rN_ | apply rD_)); exact rM_ HO_239000.out (fun _ hk => by first | exact hk.2 | trivial | simp [hk])), (by (with_reducible repeat (first | refine kN_ ?_ _ | refine kD_ ?_ | refine kA_ ?_ _)); exact BK237.out), (by (with_reducible repeat (first | refine kN_ ?_ _ | refine kD_ ?_ | refine kA_ ?_ _)); exact BK238.out), fun h0_ => absurd ((hon 2 (by kernel_rfl)).symm.trans h0_) (by decide), (by repeat (first | (with_reducible first | exact HK.out | apply KeepBut.set_ | apply keep_drewN | apply keep_drew | apply keep_alloc | refine keep_far ?_ GW237.out _ | refine keep_far ?_ GW238.out _) | exact HK.out)), (by repeat (first | (with_reducible first | exact HB.out | apply bA_ | apply bN_ | apply bD_ | refine below_set ?_ (IsS77.ge HI0.out) | refine below_set ?_ GE237.out | refine below_set ?_ GE238.out) | exact HB.out)), Q_NB265_264, Q_NB264_265, fun _ h1_ => absurd ((hon 4 (by kernel_rfl)).symm.trans h1_) (by decide), fun _ h1_ => absurd ((hon 7 (by kernel_rfl)).symm.trans h1_) (by decide), fun _ => (by (with_reducible repeat (first | apply rA_ | apply rN_ | apply rD_)); exact HO247.out), fun _ => ⟨_, rfl⟩, fun _ h1_ => absurd ((hon 11 (by kernel_rfl)).symm.trans h1_) (by decide), fun _ h1_ => absurd ((hon 14 (by kernel_rfl)).symm.trans h1_) (by decide), fun _ => (by (with_reducible repeat (first | apply rA_ | apply rN_ | apply rD_)); exact HO255.out), fun _ => ⟨_, rfl⟩, fun _ => (by repeat (first | (with_reducible first | exact HI0.out | apply IsS77.alloc | apply IsS77.drewN | apply IsS77.drew | apply IsS77.set_1 | refine IsS77.far ?_ NB0_237.out _ | refine IsS77.far ?_ NB0_238.out _) | exact HI0.out)), fun _ => (by (with_reducible repeat (first | apply rA_ | apply rN_ | apply rD_)); exact rM_ HO261.out (fun _ hk => by first | exact hk.2 | trivial | simp [hk])), z_BK264, Q_GW264, Q_GE264, Q_NB0_264, Q_NB264_0, Q_NB237_264, Q_NB264_237, Q_NB238_264, Q_NB264_238, z_BK265, Q_GW265, Q_GE265, Q_NB0_265, Q_NB265_0, Q_NB237_265, Q_NB265_237, Q_NB238_265, Q_NB265_238, fun h0_ => absurd ((hoff 23 (by kernel_rfl)).symm.trans h0_) (by decide), fun h0_ => absurd ((hoff 24 (by kernel_rfl)).symm.trans h0_) (by decide), Q_X8_, Q_X15_, fun _ => rfl, fun h0_ => absurd ((hoff 18 (by kernel_rfl)).symm.trans h0_) (by decide), fun h0_ => absurd ((hoff 19 (by kernel_rfl)).symm.trans h0_) (by decide), Q_X21_, Q_X22_⟩
                  refine steps_cons ?_ ?_
                  · rintro b a w' ⟨v246, adz_v246, v254, adz_v254, v260, gb264, gb265, m8_, m15_, m17_, m18_, m19_, m21_, m22_, ha, Q_HO_239000, Q_BK237, Q_BK238, Q_HI0, Q_HK, Q_HB, Q_NB265_264, Q_NB264_265, Q_HI0_e2, Q_HI0_e4, Q_HO247, Q_HA_HO247, Q_HI0_e7, Q_HI0_e11, Q_HO255, Q_HA_HO255, Q_HI0_e14, Q_HO261, Q_BK264, Q_GW264, Q_GE264, Q_NB0_264, Q_NB264_0, Q_NB237_264, Q_NB264_237, Q_NB238_264, Q_NB264_238, Q_BK265, Q_GW265, Q_GE265, Q_NB0_265, Q_NB265_0, Q_NB237_265, Q_NB265_237, Q_NB238_265, Q_NB265_238, Q_BK264_e23, Q_BK265_e24, Q_X8_, Q_X15_, Q_X17_, Q_X18_, Q_X19_, Q_X21_, Q_X22_⟩ hb_ hon hoff
                    refine ⟨_, rfl, fun K hK => ?_⟩
                    have e34 : a.tmps[34]? = some (m17_) := by rw [ha]; exact putSel_on (e := (17, 34, m17_)) 12 rfl rfl (hon 17 (by kernel_rfl)) rfl
                    rw [Q_X17_ (hon 17 (by kernel_rfl))] at e34
                    replace ha := aS_ ha
                    have HO_239000 := aS_ Q_HO_239000
                    have BK237 := aS_ Q_BK237
                    have BK238 := aS_ Q_BK238
                    have HK := aS_ Q_HK
                    have HB := aS_ Q_HB
                    have HO247 := aS_ (Q_HO247 (hon 5 (by kernel_rfl)))
                    have HA_HO247 := aS_ (Q_HA_HO247 (hon 5 (by kernel_rfl)))
                    have HO255 := aS_ (Q_HO255 (hon 12 (by kernel_rfl)))
                    have HA_HO255 := aS_ (Q_HA_HO255 (hon 12 (by kernel_rfl)))
                    have HI0 := aS_ (Q_HI0_e14 (hon 14 (by kernel_rfl)))
                    have HO261 := aS_ (Q_HO261 (hon 17 (by kernel_rfl)))
                    refine value_ (w1 := w') (v := .tuple #[.agg #[v260], .agg #[.int .i64 t262, .int .i64 t263]]) (by rfl) rfl ?_ ?_
                    · go_simp
                      (try simp only [i64_w])
                      try rfl
                    refine hK.out _ _ ⟨v246, adz_v246, v254, adz_v254, v260, gb264, gb265, m8_, m15_, m17_, (.tuple #[.agg #[v260], .agg #[.int .i64 t262, .int .i64 t263]]), m19_, m21_, m22_, (by rw [ha.out]; exact putSel_upk 13 hb_ rfl rfl rfl), Q_HO_239000, Q_BK237, Q_BK238, fun h0_ => absurd ((hon 2 (by kernel_rfl)).symm.trans h0_) (by decide), Q_HK, Q_HB, Q_NB265_264, Q_NB264_265, fun _ h1_ => absurd ((hon 4 (by kernel_rfl)).symm.trans h1_) (by decide), fun _ h1_ => absurd ((hon 7 (by kernel_rfl)).symm.trans h1_) (by decide), Q_HO247, Q_HA_HO247, fun _ h1_ => absurd ((hon 11 (by kernel_rfl)).symm.trans h1_) (by decide), fun _ h1_ => absurd ((hon 14 (by kernel_rfl)).symm.trans h1_) (by decide), Q_HO255, Q_HA_HO255, Q_HI0_e14, Q_HO261, Q_BK264, Q_GW264, Q_GE264, Q_NB0_264, Q_NB264_0, Q_NB237_264, Q_NB264_237, Q_NB238_264, Q_NB264_238, Q_BK265, Q_GW265, Q_GE265, Q_NB0_265, Q_NB265_0, Q_NB237_265, Q_NB265_237, Q_NB238_265, Q_NB265_238, fun h0_ => absurd ((hoff 23 (by kernel_rfl)).symm.trans h0_) (by decide), fun h0_ => absurd ((hoff 24 (by kernel_rfl)).symm.trans h0_) (by decide), Q_X8_, Q_X15_, Q_X17_, fun _ => rfl, fun h0_ => absurd ((hoff 19 (by kernel_rfl)).symm.trans h0_) (by decide), Q_X21_, Q_X22_⟩
                  refine steps_cons ?_ ?_
                  · rintro b a w' ⟨v246, adz_v246, v254, adz_v254, v260, gb264, gb265, m8_, m15_, m17_, m18_, m19_, m21_, m22_, ha, Q_HO_239000, Q_BK237, Q_BK238, Q_HI0, Q_HK, Q_HB, Q_NB265_264, Q_NB264_265, Q_HI0_e2, Q_HI0_e4, Q_HO247, Q_HA_HO247, Q_HI0_e7, Q_HI0_e11, Q_HO255, Q_HA_HO255, Q_HI0_e14, Q_HO261, Q_BK264, Q_GW264, Q_GE264, Q_NB0_264, Q_NB264_0, Q_NB237_264, Q_NB264_237, Q_NB238_264, Q_NB264_238, Q_BK265, Q_GW265, Q_GE265, Q_NB0_265, Q_NB265_0, Q_NB237_265, Q_NB265_237, Q_NB238_265, Q_NB265_238, Q_BK264_e23, Q_BK265_e24, Q_X8_, Q_X15_, Q_X17_, Q_X18_, Q_X19_, Q_X21_, Q_X22_⟩ hb_ hon hoff
                    refine ⟨_, rfl, fun K hK => ?_⟩
                    have e16 : a.tmps[16]? = some (m18_) := by rw [ha]; exact putSel_on (e := (18, 16, m18_)) 13 rfl rfl (hon 18 (by kernel_rfl)) rfl
                    rw [Q_X18_ (hon 18 (by kernel_rfl))] at e16
                    replace ha := aS_ ha
                    have HO_239000 := aS_ Q_HO_239000
                    have BK237 := aS_ Q_BK237
                    have BK238 := aS_ Q_BK238
                    have HK := aS_ Q_HK
                    have HB := aS_ Q_HB
                    have HO247 := aS_ (Q_HO247 (hon 5 (by kernel_rfl)))
                    have HA_HO247 := aS_ (Q_HA_HO247 (hon 5 (by kernel_rfl)))
                    have HO255 := aS_ (Q_HO255 (hon 12 (by kernel_rfl)))
                    have HA_HO255 := aS_ (Q_HA_HO255 (hon 12 (by kernel_rfl)))
                    have HI0 := aS_ (Q_HI0_e14 (hon 14 (by kernel_rfl)))
                    have HO261 := aS_ (Q_HO261 (hon 17 (by kernel_rfl)))
                    refine value_ (w1 := w') (v := .agg #[v260]) (by rfl) rfl ?_ ?_
                    · go_simp
                      (try simp only [i64_w])
                      try rfl
                    refine hK.out _ _ ⟨v246, adz_v246, v254, adz_v254, v260, gb264, gb265, m8_, m15_, m17_, m18_, (.agg #[v260]), m21_, m22_, (by rw [ha.out]; exact putSel_upk 14 hb_ rfl rfl rfl), Q_HO_239000, Q_BK237, Q_BK238, fun h0_ => absurd ((hon 2 (by kernel_rfl)).symm.trans h0_) (by decide), Q_HK, Q_HB, Q_NB265_264, Q_NB264_265, fun _ h1_ => absurd ((hon 4 (by kernel_rfl)).symm.trans h1_) (by decide), fun _ h1_ => absurd ((hon 7 (by kernel_rfl)).symm.trans h1_) (by decide), Q_HO247, Q_HA_HO247, fun _ h1_ => absurd ((hon 11 (by kernel_rfl)).symm.trans h1_) (by decide), fun _ h1_ => absurd ((hon 14 (by kernel_rfl)).symm.trans h1_) (by decide), Q_HO255, Q_HA_HO255, Q_HI0_e14, Q_HO261, Q_BK264, Q_GW264, Q_GE264, Q_NB0_264, Q_NB264_0, Q_NB237_264, Q_NB264_237, Q_NB238_264, Q_NB264_238, Q_BK265, Q_GW265, Q_GE265, Q_NB0_265, Q_NB265_0, Q_NB237_265, Q_NB265_237, Q_NB238_265, Q_NB265_238, fun h0_ => absurd ((hoff 23 (by kernel_rfl)).symm.trans h0_) (by decide), fun h0_ => absurd ((hoff 24 (by kernel_rfl)).symm.trans h0_) (by decide), Q_X8_, Q_X15_, Q_X17_, Q_X18_, fun _ => rfl, Q_X21_, Q_X22_⟩
                  refine steps_cons ?_ ?_
                  · rintro b a w' ⟨v246, adz_v246, v254, adz_v254, v260, gb264, gb265, m8_, m15_, m17_, m18_, m19_, m21_, m22_, ha, Q_HO_239000, Q_BK237, Q_BK238, Q_HI0, Q_HK, Q_HB, Q_NB265_264, Q_NB264_265, Q_HI0_e2, Q_HI0_e4, Q_HO247, Q_HA_HO247, Q_HI0_e7, Q_HI0_e11, Q_HO255, Q_HA_HO255, Q_HI0_e14, Q_HO261, Q_BK264, Q_GW264, Q_GE264, Q_NB0_264, Q_NB264_0, Q_NB237_264, Q_NB264_237, Q_NB238_264, Q_NB264_238, Q_BK265, Q_GW265, Q_GE265, Q_NB0_265, Q_NB265_0, Q_NB237_265, Q_NB265_237, Q_NB238_265, Q_NB265_238, Q_BK264_e23, Q_BK265_e24, Q_X8_, Q_X15_, Q_X17_, Q_X18_, Q_X19_, Q_X21_, Q_X22_⟩ hb_ hon hoff
                    refine ⟨_, rfl, fun K hK => ?_⟩
                    have e16 : a.tmps[16]? = some (m18_) := by rw [ha]; exact putSel_on (e := (18, 16, m18_)) 13 rfl rfl (hon 18 (by kernel_rfl)) rfl
                    rw [Q_X18_ (hon 18 (by kernel_rfl))] at e16
                    replace ha := aS_ ha
                    have HO_239000 := aS_ Q_HO_239000
                    have BK237 := aS_ Q_BK237
                    have BK238 := aS_ Q_BK238
                    have HK := aS_ Q_HK
                    have HB := aS_ Q_HB
                    have HO247 := aS_ (Q_HO247 (hon 5 (by kernel_rfl)))
                    have HA_HO247 := aS_ (Q_HA_HO247 (hon 5 (by kernel_rfl)))
                    have HO255 := aS_ (Q_HO255 (hon 12 (by kernel_rfl)))
                    have HA_HO255 := aS_ (Q_HA_HO255 (hon 12 (by kernel_rfl)))
                    have HI0 := aS_ (Q_HI0_e14 (hon 14 (by kernel_rfl)))
                    have HO261 := aS_ (Q_HO261 (hon 17 (by kernel_rfl)))
                    refine value_ (w1 := w') (v := .agg #[.int .i64 t262, .int .i64 t263]) (by rfl) rfl ?_ ?_
                    · go_simp
                      (try simp only [i64_w])
                      try rfl
                    refine hK.out _ _ ⟨v246, adz_v246, v254, adz_v254, v260, gb264, gb265, m8_, m15_, m17_, m18_, m19_, m21_, m22_, (by rw [ha.out]; exact putSel_upk 15 hb_ rfl rfl rfl), Q_HO_239000, Q_BK237, Q_BK238, fun h0_ => absurd ((hon 2 (by kernel_rfl)).symm.trans h0_) (by decide), Q_HK, Q_HB, Q_NB265_264, Q_NB264_265, fun _ h1_ => absurd ((hon 4 (by kernel_rfl)).symm.trans h1_) (by decide), fun _ h1_ => absurd ((hon 7 (by kernel_rfl)).symm.trans h1_) (by decide), Q_HO247, Q_HA_HO247, fun _ h1_ => absurd ((hon 11 (by kernel_rfl)).symm.trans h1_) (by decide), fun _ h1_ => absurd ((hon 14 (by kernel_rfl)).symm.trans h1_) (by decide), Q_HO255, Q_HA_HO255, Q_HI0_e14, Q_HO261, Q_BK264, Q_GW264, Q_GE264, Q_NB0_264, Q_NB264_0, Q_NB237_264, Q_NB264_237, Q_NB238_264, Q_NB264_238, Q_BK265, Q_GW265, Q_GE265, Q_NB0_265, Q_NB265_0, Q_NB237_265, Q_NB265_237, Q_NB238_265, Q_NB265_238, Q_BK264_e23, fun h0_ => absurd ((hoff 24 (by kernel_rfl)).symm.trans h0_) (by decide), Q_X8_, Q_X15_, Q_X17_, Q_X18_, Q_X19_, Q_X21_, Q_X22_⟩
                  refine steps_cons ?_ ?_
                  · rintro b a w' ⟨v246, adz_v246, v254, adz_v254, v260, gb264, gb265, m8_, m15_, m17_, m18_, m19_, m21_, m22_, ha, Q_HO_239000, Q_BK237, Q_BK238, Q_HI0, Q_HK, Q_HB, Q_NB265_264, Q_NB264_265, Q_HI0_e2, Q_HI0_e4, Q_HO247, Q_HA_HO247, Q_HI0_e7, Q_HI0_e11, Q_HO255, Q_HA_HO255, Q_HI0_e14, Q_HO261, Q_BK264, Q_GW264, Q_GE264, Q_NB0_264, Q_NB264_0, Q_NB237_264, Q_NB264_237, Q_NB238_264, Q_NB264_238, Q_BK265, Q_GW265, Q_GE265, Q_NB0_265, Q_NB265_0, Q_NB237_265, Q_NB265_237, Q_NB238_265, Q_NB265_238, Q_BK264_e23, Q_BK265_e24, Q_X8_, Q_X15_, Q_X17_, Q_X18_, Q_X19_, Q_X21_, Q_X22_⟩ hb_ hon hoff
                    refine ⟨_, rfl, fun K hK => ?_⟩
                    replace ha := aS_ ha
                    have HO_239000 := aS_ Q_HO_239000
                    have BK237 := aS_ Q_BK237
                    have BK238 := aS_ Q_BK238
                    have HK := aS_ Q_HK
                    have HB := aS_ Q_HB
                    refine box_step ?hg (N := 7) ?hd (cs := #[.slice none 0 0]) (t := 25) ?hr ?_; (case hd => rfl); (case hg => rfl); (case hr => first | (go_simp; done) | (go_simp; rfl))
                    intro gb264 hg w22 hbox hb
                    have n0_ := aS_ (Kd.R_below (by (with_reducible repeat (first | apply rA_ | apply rN_ | apply rD_)); exact HO_239000.out) hb)
                    have n1_ := aS_ (blk_below (g := gb237) (o := .cells #[.slice none 0 0] 25 (0, 0)) (by (with_reducible repeat (first | refine kN_ ?_ _ | refine kD_ ?_ | refine kA_ ?_ _)); exact BK237.out) hb)
                    have n2_ := aS_ (blk_below (g := gb238) (o := .cells #[.slice Ao21 x239000_1.length co21] 25 (0, 0)) (by (with_reducible repeat (first | refine kN_ ?_ _ | refine kD_ ?_ | refine kA_ ?_ _)); exact BK238.out) hb)
                    have n4_ := aS_ (KeepBut.trans (by repeat (first | (with_reducible first | exact HK.out | apply KeepBut.set_ | apply keep_drewN | apply keep_drew | apply keep_alloc | refine keep_far ?_ GW237.out _ | refine keep_far ?_ GW238.out _) | exact HK.out)) (KeepBut.of_below hb g none) (.inl rfl))
                    have n5_ := aS_ (below_step (by repeat (first | (with_reducible first | exact HB.out | apply bA_ | apply bN_ | apply bD_ | refine below_set ?_ GE237.out | refine below_set ?_ GE238.out) | exact HB.out)) hb)
                    have n6_ := aS_ (hbox)
                    have n7_ := aS_ ((by rw [hg]; exact (keep_size (w := w) (g := g) (row := none) (by repeat (first | (with_reducible first | exact HK.out | apply KeepBut.set_ | apply keep_drewN | apply keep_drew | apply keep_alloc | refine keep_far ?_ GW237.out _ | refine keep_far ?_ GW238.out _) | exact HK.out))) : w.heap.size ≤ gb264))
                    have n8_ := aS_ ((Nat.le_trans HW0.out (by rw [hg]; exact (keep_size (w := w) (g := g) (row := none) (by repeat (first | (with_reducible first | exact HK.out | apply KeepBut.set_ | apply keep_drewN | apply keep_drew | apply keep_alloc | refine keep_far ?_ GW237.out _ | refine keep_far ?_ GW238.out _) | exact HK.out))) : w.heap.size ≤ gb264) : w0.heap.size ≤ gb264))
                    have n9_ := aS_ ((by rw [hg]; exact Nat.ne_of_lt (blk_lt (g := gb237) (o := .cells #[.slice none 0 0] 25 (0, 0)) (by (with_reducible repeat (first | refine kN_ ?_ _ | refine kD_ ?_ | refine kA_ ?_ _)); exact BK237.out)) : gb237 ≠ gb264))
                    have n10_ := aS_ ((by rw [hg]; exact Nat.ne_of_gt (blk_lt (g := gb237) (o := .cells #[.slice none 0 0] 25 (0, 0)) (by (with_reducible repeat (first | refine kN_ ?_ _ | refine kD_ ?_ | refine kA_ ?_ _)); exact BK237.out)) : gb264 ≠ gb237))
                    have n11_ := aS_ ((by rw [hg]; exact Nat.ne_of_lt (blk_lt (g := gb238) (o := .cells #[.slice Ao21 x239000_1.length co21] 25 (0, 0)) (by (with_reducible repeat (first | refine kN_ ?_ _ | refine kD_ ?_ | refine kA_ ?_ _)); exact BK238.out)) : gb238 ≠ gb264))
                    have n12_ := aS_ ((by rw [hg]; exact Nat.ne_of_gt (blk_lt (g := gb238) (o := .cells #[.slice Ao21 x239000_1.length co21] 25 (0, 0)) (by (with_reducible repeat (first | refine kN_ ?_ _ | refine kD_ ?_ | refine kA_ ?_ _)); exact BK238.out)) : gb264 ≠ gb238))
                    have n13_ := aS_ ((Nat.ne_of_lt (Nat.lt_of_lt_of_le HGS.out n7_.out)) : g ≠ gb264)
                    have n14_ := aS_ ((Nat.ne_of_gt (Nat.lt_of_lt_of_le HGS.out n7_.out)) : gb264 ≠ g)
                    have z_HI0 := fun (h0_ : b 2 = false) => (show IsS77 w0 w22 g s0_0 x1001_1 from by first | exact (IsS77.below (by repeat (first | (with_reducible first | exact (Q_HI0 h0_) | apply IsS77.alloc | apply IsS77.drewN | apply IsS77.drew | apply IsS77.set_1 | refine IsS77.far ?_ NB0_237.out _ | refine IsS77.far ?_ NB0_238.out _) | exact (Q_HI0 h0_))) hb))
                    have z_NB265_264 := fun (h0_ : up b 21 21 = true) (h1_ : up b 21 22 = true) => (show gb265 ≠ gb264 from ((by rw [hg]; exact Nat.ne_of_lt (blk_lt (g := gb265) (o := .cells #[.int .i64 0, .int .i64 0] 29 (0, 0)) (by (with_reducible repeat (first | refine kN_ ?_ _ | refine kD_ ?_ | refine kA_ ?_ _)); exact (Q_BK265 h1_ (hoff 24 (by kernel_rfl))))) : gb265 ≠ gb264)))
                    have z_NB264_265 := fun (h0_ : up b 21 21 = true) (h1_ : up b 21 22 = true) => (show gb264 ≠ gb265 from ((by rw [hg]; exact Nat.ne_of_gt (blk_lt (g := gb265) (o := .cells #[.int .i64 0, .int .i64 0] 29 (0, 0)) (by (with_reducible repeat (first | refine kN_ ?_ _ | refine kD_ ?_ | refine kA_ ?_ _)); exact (Q_BK265 h1_ (hoff 24 (by kernel_rfl))))) : gb264 ≠ gb265)))
                    have z_HI0_e2 := fun (h0_ : b 2 = true) (h1_ : b 4 = false) => (show IsS77 w0 w22 g s0_0 t242 from by first | exact (IsS77.below (by repeat (first | (with_reducible first | exact (Q_HI0_e2 h0_ h1_) | apply IsS77.alloc | apply IsS77.drewN | apply IsS77.drew | apply IsS77.set_1 | refine IsS77.far ?_ NB0_237.out _ | refine IsS77.far ?_ NB0_238.out _) | exact (Q_HI0_e2 h0_ h1_))) hb))
                    have z_HI0_e4 := fun (h0_ : b 4 = true) (h1_ : b 7 = false) => (show IsS77 w0 w22 g s0_0 t244 from by first | exact (IsS77.below (by repeat (first | (with_reducible first | exact (Q_HI0_e4 h0_ h1_) | apply IsS77.alloc | apply IsS77.drewN | apply IsS77.drew | apply IsS77.set_1 | refine IsS77.far ?_ NB0_237.out _ | refine IsS77.far ?_ NB0_238.out _) | exact (Q_HI0_e4 h0_ h1_))) hb))
                    have z_HO247 := fun (h0_ : b 5 = true) => (show Kd.R (Kd.int .i64) 3 w22 w.heap.size (fun _ => True) v246 y245 from by first | exact (Kd.R_below (by (with_reducible repeat (first | apply rA_ | apply rN_ | apply rD_)); exact (Q_HO247 h0_)) hb) | exact rM_ (Kd.R_below (by (with_reducible repeat (first | apply rA_ | apply rN_ | apply rD_)); exact (Q_HO247 h0_)) hb) (fun _ h_ => by first | trivial | exact h_ | exact h_.1))
                    have z_HI0_e7 := fun (h0_ : b 7 = true) (h1_ : b 11 = false) => (show IsS77 w0 w22 g s0_0 t249 from by first | exact (IsS77.below (by repeat (first | (with_reducible first | exact (Q_HI0_e7 h0_ h1_) | apply IsS77.alloc | apply IsS77.drewN | apply IsS77.drew | apply IsS77.set_1 | refine IsS77.far ?_ NB0_237.out _ | refine IsS77.far ?_ NB0_238.out _) | exact (Q_HI0_e7 h0_ h1_))) hb))
                    have z_HI0_e11 := fun (h0_ : b 11 = true) (h1_ : b 14 = false) => (show IsS77 w0 w22 g s0_0 t252 from by first | exact (IsS77.below (by repeat (first | (with_reducible first | exact (Q_HI0_e11 h0_ h1_) | apply IsS77.alloc | apply IsS77.drewN | apply IsS77.drew | apply IsS77.set_1 | refine IsS77.far ?_ NB0_237.out _ | refine IsS77.far ?_ NB0_238.out _) | exact (Q_HI0_e11 h0_ h1_))) hb))
                    have z_HO255 := fun (h0_ : b 12 = true) => (show Kd.R (Kd.int .i64) 3 w22 w.heap.size (fun _ => True) v254 y253 from by first | exact (Kd.R_below (by (with_reducible repeat (first | apply rA_ | apply rN_ | apply rD_)); exact (Q_HO255 h0_)) hb) | exact rM_ (Kd.R_below (by (with_reducible repeat (first | apply rA_ | apply rN_ | apply rD_)); exact (Q_HO255 h0_)) hb) (fun _ h_ => by first | trivial | exact h_ | exact h_.1))
                    have z_HI0_e14 := fun (h0_ : b 14 = true) => (show IsS77 w0 w22 g s0_0 t257 from by first | exact (IsS77.below (by repeat (first | (with_reducible first | exact (Q_HI0_e14 h0_) | apply IsS77.alloc | apply IsS77.drewN | apply IsS77.drew | apply IsS77.set_1 | refine IsS77.far ?_ NB0_237.out _ | refine IsS77.far ?_ NB0_238.out _) | exact (Q_HI0_e14 h0_))) hb))
                    have z_HO261 := fun (h0_ : b 17 = true) => (show Kd.R k39 39 w22 w.heap.size (fun k_ => some k_ ≠ (.slice Ao21 x239000_1.length co21 : Value).ownBlock) v260 t259 from by first | exact (Kd.R_below (by (with_reducible repeat (first | apply rA_ | apply rN_ | apply rD_)); exact (Q_HO261 h0_)) hb) | exact rM_ (Kd.R_below (by (with_reducible repeat (first | apply rA_ | apply rN_ | apply rD_)); exact (Q_HO261 h0_)) hb) (fun _ h_ => by first | trivial | exact h_ | exact h_.1))
                    have z_BK265 := fun (h0_ : b 22 = true) (h1_ : b 24 = false) => (show w22.heap[gb265]? = some (.cells #[.int .i64 0, .int .i64 0] 29 (0, 0)) from by first | exact (blk_below (g := gb265) (o := .cells #[.int .i64 0, .int .i64 0] 29 (0, 0)) (by (with_reducible repeat (first | refine kN_ ?_ _ | refine kD_ ?_ | refine kA_ ?_ _)); exact (Q_BK265 h0_ h1_)) hb))
                    clear HO_239000
                    clear BK237
                    clear BK238
                    clear HK
                    clear HB
                    have HO_239000 := n0_
                    have BK237 := n1_
                    have BK238 := n2_
                    have HK := n4_
                    have HB := n5_
                    have BK264 := n6_
                    have GW264 := n7_
                    have GE264 := n8_
                    have NB237_264 := n9_
                    have NB264_237 := n10_
                    have NB238_264 := n11_
                    have NB264_238 := n12_
                    have NB0_264 := n13_
                    have NB264_0 := n14_
                    clear n0_ n1_ n2_ n4_ n5_ n6_ n7_ n8_ n9_ n10_ n11_ n12_ n13_ n14_
                    clear hb hbox hg
                    refine hK.out _ _ ⟨v246, adz_v246, v254, adz_v254, v260, gb264, gb265, m8_, m15_, m17_, m18_, m19_, (.pointer (some ⟨gb264, 0, none⟩)), m22_, (by rw [ha.out]; exact putSel_upk 16 hb_ rfl rfl rfl), (by (with_reducible repeat (first | apply rA_ | apply rN_ | apply rD_)); exact HO_239000.out), (by (with_reducible repeat (first | refine kN_ ?_ _ | refine kD_ ?_ | refine kA_ ?_ _)); exact BK237.out), (by (with_reducible repeat (first | refine kN_ ?_ _ | refine kD_ ?_ | refine kA_ ?_ _)); exact BK238.out), z_HI0, (by repeat (first | (with_reducible first | exact HK.out | apply KeepBut.set_ | apply keep_drewN | apply keep_drew | apply keep_alloc | refine keep_far ?_ GW237.out _ | refine keep_far ?_ GW238.out _ | refine keep_far ?_ GW264.out _) | exact HK.out)), (by repeat (first | (with_reducible first | exact HB.out | apply bA_ | apply bN_ | apply bD_ | refine below_set ?_ GE237.out | refine below_set ?_ GE238.out | refine below_set ?_ GE264.out) | exact HB.out)), z_NB265_264, z_NB264_265, z_HI0_e2, z_HI0_e4, z_HO247, Q_HA_HO247, z_HI0_e7, z_HI0_e11, z_HO255, Q_HA_HO255, z_HI0_e14, z_HO261, fun _ _ => (by (with_reducible repeat (first | refine kN_ ?_ _ | refine kD_ ?_ | refine kA_ ?_ _)); exact BK264.out), fun _ => GW264.out, fun _ => GE264.out, fun _ => NB0_264.out, fun _ => NB264_0.out, fun _ => NB237_264.out, fun _ => NB264_237.out, fun _ => NB238_264.out, fun _ => NB264_238.out, z_BK265, Q_GW265, Q_GE265, Q_NB0_265, Q_NB265_0, Q_NB237_265, Q_NB265_237, Q_NB238_265, Q_NB265_238, fun h0_ => absurd ((hoff 23 (by kernel_rfl)).symm.trans h0_) (by decide), fun h0_ => absurd ((hoff 24 (by kernel_rfl)).symm.trans h0_) (by decide), Q_X8_, Q_X15_, Q_X17_, Q_X18_, Q_X19_, fun _ => rfl, Q_X22_⟩
                  refine steps_cons ?_ ?_
                  · rintro b a w' ⟨v246, adz_v246, v254, adz_v254, v260, gb264, gb265, m8_, m15_, m17_, m18_, m19_, m21_, m22_, ha, Q_HO_239000, Q_BK237, Q_BK238, Q_HI0, Q_HK, Q_HB, Q_NB265_264, Q_NB264_265, Q_HI0_e2, Q_HI0_e4, Q_HO247, Q_HA_HO247, Q_HI0_e7, Q_HI0_e11, Q_HO255, Q_HA_HO255, Q_HI0_e14, Q_HO261, Q_BK264, Q_GW264, Q_GE264, Q_NB0_264, Q_NB264_0, Q_NB237_264, Q_NB264_237, Q_NB238_264, Q_NB264_238, Q_BK265, Q_GW265, Q_GE265, Q_NB0_265, Q_NB265_0, Q_NB237_265, Q_NB265_237, Q_NB238_265, Q_NB265_238, Q_BK264_e23, Q_BK265_e24, Q_X8_, Q_X15_, Q_X17_, Q_X18_, Q_X19_, Q_X21_, Q_X22_⟩ hb_ hon hoff
                    refine ⟨_, rfl, fun K hK => ?_⟩
                    replace ha := aS_ ha
                    have HO_239000 := aS_ Q_HO_239000
                    have BK237 := aS_ Q_BK237
                    have BK238 := aS_ Q_BK238
                    have HK := aS_ Q_HK
                    have HB := aS_ Q_HB
                    refine box_step ?hg (N := 8) ?hd (cs := #[.int .i64 0, .int .i64 0]) (t := 29) ?hr ?_; (case hd => rfl); (case hg => rfl); (case hr => first | (go_simp; done) | (go_simp; rfl))
                    intro gb265 hg w22 hbox hb
                    have n0_ := aS_ (Kd.R_below (by (with_reducible repeat (first | apply rA_ | apply rN_ | apply rD_)); exact HO_239000.out) hb)
                    have n1_ := aS_ (blk_below (g := gb237) (o := .cells #[.slice none 0 0] 25 (0, 0)) (by (with_reducible repeat (first | refine kN_ ?_ _ | refine kD_ ?_ | refine kA_ ?_ _)); exact BK237.out) hb)
                    have n2_ := aS_ (blk_below (g := gb238) (o := .cells #[.slice Ao21 x239000_1.length co21] 25 (0, 0)) (by (with_reducible repeat (first | refine kN_ ?_ _ | refine kD_ ?_ | refine kA_ ?_ _)); exact BK238.out) hb)
                    have n4_ := aS_ (KeepBut.trans (by repeat (first | (with_reducible first | exact HK.out | apply KeepBut.set_ | apply keep_drewN | apply keep_drew | apply keep_alloc | refine keep_far ?_ GW237.out _ | refine keep_far ?_ GW238.out _) | exact HK.out)) (KeepBut.of_below hb g none) (.inl rfl))
                    have n5_ := aS_ (below_step (by repeat (first | (with_reducible first | exact HB.out | apply bA_ | apply bN_ | apply bD_ | refine below_set ?_ GE237.out | refine below_set ?_ GE238.out) | exact HB.out)) hb)
                    have n6_ := aS_ (hbox)
                    have n7_ := aS_ ((by rw [hg]; exact (keep_size (w := w) (g := g) (row := none) (by repeat (first | (with_reducible first | exact HK.out | apply KeepBut.set_ | apply keep_drewN | apply keep_drew | apply keep_alloc | refine keep_far ?_ GW237.out _ | refine keep_far ?_ GW238.out _) | exact HK.out))) : w.heap.size ≤ gb265))
                    have n8_ := aS_ ((Nat.le_trans HW0.out (by rw [hg]; exact (keep_size (w := w) (g := g) (row := none) (by repeat (first | (with_reducible first | exact HK.out | apply KeepBut.set_ | apply keep_drewN | apply keep_drew | apply keep_alloc | refine keep_far ?_ GW237.out _ | refine keep_far ?_ GW238.out _) | exact HK.out))) : w.heap.size ≤ gb265) : w0.heap.size ≤ gb265))
                    have n9_ := aS_ ((by rw [hg]; exact Nat.ne_of_lt (blk_lt (g := gb237) (o := .cells #[.slice none 0 0] 25 (0, 0)) (by (with_reducible repeat (first | refine kN_ ?_ _ | refine kD_ ?_ | refine kA_ ?_ _)); exact BK237.out)) : gb237 ≠ gb265))
                    have n10_ := aS_ ((by rw [hg]; exact Nat.ne_of_gt (blk_lt (g := gb237) (o := .cells #[.slice none 0 0] 25 (0, 0)) (by (with_reducible repeat (first | refine kN_ ?_ _ | refine kD_ ?_ | refine kA_ ?_ _)); exact BK237.out)) : gb265 ≠ gb237))
                    have n11_ := aS_ ((by rw [hg]; exact Nat.ne_of_lt (blk_lt (g := gb238) (o := .cells #[.slice Ao21 x239000_1.length co21] 25 (0, 0)) (by (with_reducible repeat (first | refine kN_ ?_ _ | refine kD_ ?_ | refine kA_ ?_ _)); exact BK238.out)) : gb238 ≠ gb265))
                    have n12_ := aS_ ((by rw [hg]; exact Nat.ne_of_gt (blk_lt (g := gb238) (o := .cells #[.slice Ao21 x239000_1.length co21] 25 (0, 0)) (by (with_reducible repeat (first | refine kN_ ?_ _ | refine kD_ ?_ | refine kA_ ?_ _)); exact BK238.out)) : gb265 ≠ gb238))
                    have n13_ := aS_ ((Nat.ne_of_lt (Nat.lt_of_lt_of_le HGS.out n7_.out)) : g ≠ gb265)
                    have n14_ := aS_ ((Nat.ne_of_gt (Nat.lt_of_lt_of_le HGS.out n7_.out)) : gb265 ≠ g)
                    have z_HI0 := fun (h0_ : b 2 = false) => (show IsS77 w0 w22 g s0_0 x1001_1 from by first | exact (IsS77.below (by repeat (first | (with_reducible first | exact (Q_HI0 h0_) | apply IsS77.alloc | apply IsS77.drewN | apply IsS77.drew | apply IsS77.set_1 | refine IsS77.far ?_ NB0_237.out _ | refine IsS77.far ?_ NB0_238.out _) | exact (Q_HI0 h0_))) hb))
                    have z_NB265_264 := fun (h0_ : up b 22 21 = true) (h1_ : up b 22 22 = true) => (show gb265 ≠ gb264 from ((by rw [hg]; exact Nat.ne_of_gt (blk_lt (g := gb264) (o := .cells #[.slice none 0 0] 25 (0, 0)) (by (with_reducible repeat (first | refine kN_ ?_ _ | refine kD_ ?_ | refine kA_ ?_ _)); exact (Q_BK264 h0_ (hoff 23 (by kernel_rfl))))) : gb265 ≠ gb264)))
                    have z_NB264_265 := fun (h0_ : up b 22 21 = true) (h1_ : up b 22 22 = true) => (show gb264 ≠ gb265 from ((by rw [hg]; exact Nat.ne_of_lt (blk_lt (g := gb264) (o := .cells #[.slice none 0 0] 25 (0, 0)) (by (with_reducible repeat (first | refine kN_ ?_ _ | refine kD_ ?_ | refine kA_ ?_ _)); exact (Q_BK264 h0_ (hoff 23 (by kernel_rfl))))) : gb264 ≠ gb265)))
                    have z_HI0_e2 := fun (h0_ : b 2 = true) (h1_ : b 4 = false) => (show IsS77 w0 w22 g s0_0 t242 from by first | exact (IsS77.below (by repeat (first | (with_reducible first | exact (Q_HI0_e2 h0_ h1_) | apply IsS77.alloc | apply IsS77.drewN | apply IsS77.drew | apply IsS77.set_1 | refine IsS77.far ?_ NB0_237.out _ | refine IsS77.far ?_ NB0_238.out _) | exact (Q_HI0_e2 h0_ h1_))) hb))
                    have z_HI0_e4 := fun (h0_ : b 4 = true) (h1_ : b 7 = false) => (show IsS77 w0 w22 g s0_0 t244 from by first | exact (IsS77.below (by repeat (first | (with_reducible first | exact (Q_HI0_e4 h0_ h1_) | apply IsS77.alloc | apply IsS77.drewN | apply IsS77.drew | apply IsS77.set_1 | refine IsS77.far ?_ NB0_237.out _ | refine IsS77.far ?_ NB0_238.out _) | exact (Q_HI0_e4 h0_ h1_))) hb))
                    have z_HO247 := fun (h0_ : b 5 = true) => (show Kd.R (Kd.int .i64) 3 w22 w.heap.size (fun _ => True) v246 y245 from by first | exact (Kd.R_below (by (with_reducible repeat (first | apply rA_ | apply rN_ | apply rD_)); exact (Q_HO247 h0_)) hb) | exact rM_ (Kd.R_below (by (with_reducible repeat (first | apply rA_ | apply rN_ | apply rD_)); exact (Q_HO247 h0_)) hb) (fun _ h_ => by first | trivial | exact h_ | exact h_.1))
                    have z_HI0_e7 := fun (h0_ : b 7 = true) (h1_ : b 11 = false) => (show IsS77 w0 w22 g s0_0 t249 from by first | exact (IsS77.below (by repeat (first | (with_reducible first | exact (Q_HI0_e7 h0_ h1_) | apply IsS77.alloc | apply IsS77.drewN | apply IsS77.drew | apply IsS77.set_1 | refine IsS77.far ?_ NB0_237.out _ | refine IsS77.far ?_ NB0_238.out _) | exact (Q_HI0_e7 h0_ h1_))) hb))
                    have z_HI0_e11 := fun (h0_ : b 11 = true) (h1_ : b 14 = false) => (show IsS77 w0 w22 g s0_0 t252 from by first | exact (IsS77.below (by repeat (first | (with_reducible first | exact (Q_HI0_e11 h0_ h1_) | apply IsS77.alloc | apply IsS77.drewN | apply IsS77.drew | apply IsS77.set_1 | refine IsS77.far ?_ NB0_237.out _ | refine IsS77.far ?_ NB0_238.out _) | exact (Q_HI0_e11 h0_ h1_))) hb))
                    have z_HO255 := fun (h0_ : b 12 = true) => (show Kd.R (Kd.int .i64) 3 w22 w.heap.size (fun _ => True) v254 y253 from by first | exact (Kd.R_below (by (with_reducible repeat (first | apply rA_ | apply rN_ | apply rD_)); exact (Q_HO255 h0_)) hb) | exact rM_ (Kd.R_below (by (with_reducible repeat (first | apply rA_ | apply rN_ | apply rD_)); exact (Q_HO255 h0_)) hb) (fun _ h_ => by first | trivial | exact h_ | exact h_.1))
                    have z_HI0_e14 := fun (h0_ : b 14 = true) => (show IsS77 w0 w22 g s0_0 t257 from by first | exact (IsS77.below (by repeat (first | (with_reducible first | exact (Q_HI0_e14 h0_) | apply IsS77.alloc | apply IsS77.drewN | apply IsS77.drew | apply IsS77.set_1 | refine IsS77.far ?_ NB0_237.out _ | refine IsS77.far ?_ NB0_238.out _) | exact (Q_HI0_e14 h0_))) hb))
                    have z_HO261 := fun (h0_ : b 17 = true) => (show Kd.R k39 39 w22 w.heap.size (fun k_ => some k_ ≠ (.slice Ao21 x239000_1.length co21 : Value).ownBlock) v260 t259 from by first | exact (Kd.R_below (by (with_reducible repeat (first | apply rA_ | apply rN_ | apply rD_)); exact (Q_HO261 h0_)) hb) | exact rM_ (Kd.R_below (by (with_reducible repeat (first | apply rA_ | apply rN_ | apply rD_)); exact (Q_HO261 h0_)) hb) (fun _ h_ => by first | trivial | exact h_ | exact h_.1))
                    have z_BK264 := fun (h0_ : b 21 = true) (h1_ : b 23 = false) => (show w22.heap[gb264]? = some (.cells #[.slice none 0 0] 25 (0, 0)) from by first | exact (blk_below (g := gb264) (o := .cells #[.slice none 0 0] 25 (0, 0)) (by (with_reducible repeat (first | refine kN_ ?_ _ | refine kD_ ?_ | refine kA_ ?_ _)); exact (Q_BK264 h0_ h1_)) hb))
                    clear HO_239000
                    clear BK237
                    clear BK238
                    clear HK
                    clear HB
                    have HO_239000 := n0_
                    have BK237 := n1_
                    have BK238 := n2_
                    have HK := n4_
                    have HB := n5_
                    have BK265 := n6_
                    have GW265 := n7_
                    have GE265 := n8_
                    have NB237_265 := n9_
                    have NB265_237 := n10_
                    have NB238_265 := n11_
                    have NB265_238 := n12_
                    have NB0_265 := n13_
                    have NB265_0 := n14_
                    clear n0_ n1_ n2_ n4_ n5_ n6_ n7_ n8_ n9_ n10_ n11_ n12_ n13_ n14_
                    clear hb hbox hg
                    refine hK.out _ _ ⟨v246, adz_v246, v254, adz_v254, v260, gb264, gb265, m8_, m15_, m17_, m18_, m19_, m21_, (.pointer (some ⟨gb265, 0, none⟩)), (by rw [ha.out]; exact putSel_upk 17 hb_ rfl rfl rfl), (by (with_reducible repeat (first | apply rA_ | apply rN_ | apply rD_)); exact HO_239000.out), (by (with_reducible repeat (first | refine kN_ ?_ _ | refine kD_ ?_ | refine kA_ ?_ _)); exact BK237.out), (by (with_reducible repeat (first | refine kN_ ?_ _ | refine kD_ ?_ | refine kA_ ?_ _)); exact BK238.out), z_HI0, (by repeat (first | (with_reducible first | exact HK.out | apply KeepBut.set_ | apply keep_drewN | apply keep_drew | apply keep_alloc | refine keep_far ?_ GW237.out _ | refine keep_far ?_ GW238.out _ | refine keep_far ?_ GW265.out _) | exact HK.out)), (by repeat (first | (with_reducible first | exact HB.out | apply bA_ | apply bN_ | apply bD_ | refine below_set ?_ GE237.out | refine below_set ?_ GE238.out | refine below_set ?_ GE265.out) | exact HB.out)), z_NB265_264, z_NB264_265, z_HI0_e2, z_HI0_e4, z_HO247, Q_HA_HO247, z_HI0_e7, z_HI0_e11, z_HO255, Q_HA_HO255, z_HI0_e14, z_HO261, z_BK264, Q_GW264, Q_GE264, Q_NB0_264, Q_NB264_0, Q_NB237_264, Q_NB264_237, Q_NB238_264, Q_NB264_238, fun _ _ => (by (with_reducible repeat (first | refine kN_ ?_ _ | refine kD_ ?_ | refine kA_ ?_ _)); exact BK265.out), fun _ => GW265.out, fun _ => GE265.out, fun _ => NB0_265.out, fun _ => NB265_0.out, fun _ => NB237_265.out, fun _ => NB265_237.out, fun _ => NB238_265.out, fun _ => NB265_238.out, fun h0_ => absurd ((hoff 23 (by kernel_rfl)).symm.trans h0_) (by decide), fun h0_ => absurd ((hoff 24 (by kernel_rfl)).symm.trans h0_) (by decide), Q_X8_, Q_X15_, Q_X17_, Q_X18_, Q_X19_, Q_X21_, fun _ => rfl⟩
                  refine steps_cons ?_ ?_
                  · rintro b a w' ⟨v246, adz_v246, v254, adz_v254, v260, gb264, gb265, m8_, m15_, m17_, m18_, m19_, m21_, m22_, ha, Q_HO_239000, Q_BK237, Q_BK238, Q_HI0, Q_HK, Q_HB, Q_NB265_264, Q_NB264_265, Q_HI0_e2, Q_HI0_e4, Q_HO247, Q_HA_HO247, Q_HI0_e7, Q_HI0_e11, Q_HO255, Q_HA_HO255, Q_HI0_e14, Q_HO261, Q_BK264, Q_GW264, Q_GE264, Q_NB0_264, Q_NB264_0, Q_NB237_264, Q_NB264_237, Q_NB238_264, Q_NB264_238, Q_BK265, Q_GW265, Q_GE265, Q_NB0_265, Q_NB265_0, Q_NB237_265, Q_NB265_237, Q_NB238_265, Q_NB265_238, Q_BK264_e23, Q_BK265_e24, Q_X8_, Q_X15_, Q_X17_, Q_X18_, Q_X19_, Q_X21_, Q_X22_⟩ hb_ hon hoff
                    refine ⟨_, rfl, fun K hK => ?_⟩
                    have e7 : a.tmps[7]? = some (m21_) := by rw [ha]; exact putSel_on (e := (21, 7, m21_)) 16 rfl rfl (hon 21 (by kernel_rfl)) rfl
                    rw [Q_X21_ (hon 21 (by kernel_rfl))] at e7
                    have e35 : a.tmps[35]? = some (m19_) := by rw [ha]; exact putSel_on (e := (19, 35, m19_)) 14 rfl rfl (hon 19 (by kernel_rfl)) rfl
                    rw [Q_X19_ (hon 19 (by kernel_rfl))] at e35
                    replace ha := aS_ ha
                    have HO_239000 := aS_ Q_HO_239000
                    have BK237 := aS_ Q_BK237
                    have BK238 := aS_ Q_BK238
                    have HK := aS_ Q_HK
                    have HB := aS_ Q_HB
                    have NB265_264 := aS_ (Q_NB265_264 (hon 21 (by kernel_rfl)) (hon 22 (by kernel_rfl)))
                    have NB264_265 := aS_ (Q_NB264_265 (hon 21 (by kernel_rfl)) (hon 22 (by kernel_rfl)))
                    have HO247 := aS_ (Q_HO247 (hon 5 (by kernel_rfl)))
                    have HA_HO247 := aS_ (Q_HA_HO247 (hon 5 (by kernel_rfl)))
                    have HO255 := aS_ (Q_HO255 (hon 12 (by kernel_rfl)))
                    have HA_HO255 := aS_ (Q_HA_HO255 (hon 12 (by kernel_rfl)))
                    have HI0 := aS_ (Q_HI0_e14 (hon 14 (by kernel_rfl)))
                    have HO261 := aS_ (Q_HO261 (hon 17 (by kernel_rfl)))
                    have BK264 := aS_ (Q_BK264 (hon 21 (by kernel_rfl)) hb_)
                    have GW264 := aS_ (Q_GW264 (hon 21 (by kernel_rfl)))
                    have GE264 := aS_ (Q_GE264 (hon 21 (by kernel_rfl)))
                    have NB0_264 := aS_ (Q_NB0_264 (hon 21 (by kernel_rfl)))
                    have NB264_0 := aS_ (Q_NB264_0 (hon 21 (by kernel_rfl)))
                    have NB237_264 := aS_ (Q_NB237_264 (hon 21 (by kernel_rfl)))
                    have NB264_237 := aS_ (Q_NB264_237 (hon 21 (by kernel_rfl)))
                    have NB238_264 := aS_ (Q_NB238_264 (hon 21 (by kernel_rfl)))
                    have NB264_238 := aS_ (Q_NB264_238 (hon 21 (by kernel_rfl)))
                    have BK265 := aS_ (Q_BK265 (hon 22 (by kernel_rfl)) (hoff 24 (by kernel_rfl)))
                    have GW265 := aS_ (Q_GW265 (hon 22 (by kernel_rfl)))
                    have GE265 := aS_ (Q_GE265 (hon 22 (by kernel_rfl)))
                    have NB0_265 := aS_ (Q_NB0_265 (hon 22 (by kernel_rfl)))
                    have NB265_0 := aS_ (Q_NB265_0 (hon 22 (by kernel_rfl)))
                    have NB237_265 := aS_ (Q_NB237_265 (hon 22 (by kernel_rfl)))
                    have NB265_237 := aS_ (Q_NB265_237 (hon 22 (by kernel_rfl)))
                    have NB238_265 := aS_ (Q_NB238_265 (hon 22 (by kernel_rfl)))
                    have NB265_238 := aS_ (Q_NB265_238 (hon 22 (by kernel_rfl)))
                    obtain ⟨co38, eo38⟩ := HA_HO247.out
                    clear HA_HO247
                    subst eo38
                    obtain ⟨co39, eo39⟩ := HA_HO255.out
                    clear HA_HO255
                    subst eo39
                    obtain ⟨Ao40, co40, eo40⟩ := Kd.R_slice HO261.out
                    (first | subst eo40 | (injection eo40 with f1_ f2_ f3_; have f4_ := f1_.symm; have f5_ := f3_.symm; clear f1_ f2_ f3_; subst f4_; subst f5_))
                    have hs41 : w'.cell? ⟨gb264, 0, none⟩ = some (.slice none 0 0) := (blk_cell BK264.out 0).trans rfl
                    have hfs41 := blk_frozen BK264.out 0
                    have hns41_0 := NB237_264.out
                    have hns41_1 := NB238_264.out
                    have hns41_3 := NB265_264.out
                    have hms41_0 := NB264_237.out
                    have hms41_1 := NB264_238.out
                    have hms41_3 := NB264_265.out
                    refine skip_ (w1 := ?_) (by rfl) rfl ?_ ?_
                    rotate_left
                    · go_simp
                      rfl
                    refine hK.out _ _ ⟨.slice (some adz_v246) y245.length co38, adz_v246, .slice (some adz_v254) y253.length co39, adz_v254, .slice Ao40 t259.length co40, gb264, gb265, m8_, m15_, m17_, m18_, m19_, m21_, m22_, (by rw [ha.out]; exact putSel_none (v := undef) rfl), (by (with_reducible repeat (first | apply rA_ | apply rN_ | apply rD_)); exact rM_ (rF_ (p := ⟨gb264, 0, none⟩) (Kd.R_types HO_239000.out BK264.out (by decide)) (fun _ hk => by first | exact hk.2 | trivial | simp [hk]) (.slice Ao40 t259.length co40)) (fun _ hk => by first | exact hk.1 | trivial | simp [hk])), (by (with_reducible repeat (first | refine kN_ ?_ _ | refine kD_ ?_ | refine kA_ ?_ _)); refine blk_far ?_ NB237_264.out _; (with_reducible repeat (first | refine kN_ ?_ _ | refine kD_ ?_ | refine kA_ ?_ _)); exact BK237.out), (by (with_reducible repeat (first | refine kN_ ?_ _ | refine kD_ ?_ | refine kA_ ?_ _)); refine blk_far ?_ NB238_264.out _; (with_reducible repeat (first | refine kN_ ?_ _ | refine kD_ ?_ | refine kA_ ?_ _)); exact BK238.out), fun h0_ => absurd ((hon 2 (by kernel_rfl)).symm.trans h0_) (by decide), (by repeat (first | (with_reducible first | exact HK.out | apply KeepBut.set_ | apply keep_drewN | apply keep_drew | apply keep_alloc | refine keep_far ?_ GW237.out _ | refine keep_far ?_ GW238.out _ | refine keep_far ?_ GW264.out _ | refine keep_far ?_ GW265.out _) | exact HK.out)), (by repeat (first | (with_reducible first | exact HB.out | apply bA_ | apply bN_ | apply bD_ | refine below_set ?_ (IsS77.ge HI0.out) | refine below_set ?_ GE237.out | refine below_set ?_ GE238.out | refine below_set ?_ GE264.out | refine below_set ?_ GE265.out) | exact HB.out)), fun _ _ => NB265_264.out, fun _ _ => NB264_265.out, fun _ h1_ => absurd ((hon 4 (by kernel_rfl)).symm.trans h1_) (by decide), fun _ h1_ => absurd ((hon 7 (by kernel_rfl)).symm.trans h1_) (by decide), fun _ => (by (with_reducible repeat (first | apply rA_ | apply rN_ | apply rD_)); exact rM_ (rF_ (p := ⟨gb264, 0, none⟩) (Kd.R_types HO247.out BK264.out (by decide)) (fun _ hk => by first | exact hk.2 | trivial | simp [hk]) (.slice Ao40 t259.length co40)) (fun _ hk => by first | exact hk.1 | trivial | simp [hk])), fun _ => ⟨_, rfl⟩, fun _ h1_ => absurd ((hon 11 (by kernel_rfl)).symm.trans h1_) (by decide), fun _ h1_ => absurd ((hon 14 (by kernel_rfl)).symm.trans h1_) (by decide), fun _ => (by (with_reducible repeat (first | apply rA_ | apply rN_ | apply rD_)); exact rM_ (rF_ (p := ⟨gb264, 0, none⟩) (Kd.R_types HO255.out BK264.out (by decide)) (fun _ hk => by first | exact hk.2 | trivial | simp [hk]) (.slice Ao40 t259.length co40)) (fun _ hk => by first | exact hk.1 | trivial | simp [hk])), fun _ => ⟨_, rfl⟩, fun _ => (by repeat (first | (with_reducible first | exact HI0.out | apply IsS77.alloc | apply IsS77.drewN | apply IsS77.drew | apply IsS77.set_1 | refine IsS77.far ?_ NB0_237.out _ | refine IsS77.far ?_ NB0_238.out _ | refine IsS77.far ?_ NB0_264.out _ | refine IsS77.far ?_ NB0_265.out _) | exact HI0.out)), fun _ => (by (with_reducible repeat (first | apply rA_ | apply rN_ | apply rD_)); exact rM_ (rF_ (p := ⟨gb264, 0, none⟩) (Kd.R_types HO261.out BK264.out (by decide)) (fun _ hk => by first | exact hk.2 | trivial | simp [hk]) (.slice Ao40 t259.length co40)) (fun _ hk => by first | exact hk.1 | trivial | simp [hk])), fun _ h1_ => absurd ((up_self b 23).symm.trans h1_) (by decide), fun _ => GW264.out, fun _ => GE264.out, fun _ => NB0_264.out, fun _ => NB264_0.out, fun _ => NB237_264.out, fun _ => NB264_237.out, fun _ => NB238_264.out, fun _ => NB264_238.out, fun _ _ => (by (with_reducible repeat (first | refine kN_ ?_ _ | refine kD_ ?_ | refine kA_ ?_ _)); refine blk_far ?_ NB265_264.out _; (with_reducible repeat (first | refine kN_ ?_ _ | refine kD_ ?_ | refine kA_ ?_ _)); exact BK265.out), fun _ => GW265.out, fun _ => GE265.out, fun _ => NB0_265.out, fun _ => NB265_0.out, fun _ => NB237_265.out, fun _ => NB265_237.out, fun _ => NB238_265.out, fun _ => NB265_238.out, fun _ => (by (with_reducible repeat (first | refine kN_ ?_ _ | refine kD_ ?_ | refine kA_ ?_ _)); refine blk_put (cs := #[.slice none 0 0]) ?_ 0 _ rfl; (with_reducible repeat (first | refine kN_ ?_ _ | refine kD_ ?_ | refine kA_ ?_ _)); exact BK264.out), fun h0_ => absurd ((hoff 24 (by kernel_rfl)).symm.trans h0_) (by decide), Q_X8_, Q_X15_, Q_X17_, Q_X18_, Q_X19_, Q_X21_, Q_X22_⟩
                  refine steps_cons ?_ ?_
                  · rintro b a w' ⟨v246, adz_v246, v254, adz_v254, v260, gb264, gb265, m8_, m15_, m17_, m18_, m19_, m21_, m22_, ha, Q_HO_239000, Q_BK237, Q_BK238, Q_HI0, Q_HK, Q_HB, Q_NB265_264, Q_NB264_265, Q_HI0_e2, Q_HI0_e4, Q_HO247, Q_HA_HO247, Q_HI0_e7, Q_HI0_e11, Q_HO255, Q_HA_HO255, Q_HI0_e14, Q_HO261, Q_BK264, Q_GW264, Q_GE264, Q_NB0_264, Q_NB264_0, Q_NB237_264, Q_NB264_237, Q_NB238_264, Q_NB264_238, Q_BK265, Q_GW265, Q_GE265, Q_NB0_265, Q_NB265_0, Q_NB237_265, Q_NB265_237, Q_NB238_265, Q_NB265_238, Q_BK264_e23, Q_BK265_e24, Q_X8_, Q_X15_, Q_X17_, Q_X18_, Q_X19_, Q_X21_, Q_X22_⟩ hb_ hon hoff
                    refine ⟨_, rfl, fun K hK => ?_⟩
                    have e8 : a.tmps[8]? = some (m22_) := by rw [ha]; exact putSel_on (e := (22, 8, m22_)) 17 rfl rfl (hon 22 (by kernel_rfl)) rfl
                    rw [Q_X22_ (hon 22 (by kernel_rfl))] at e8
                    have e36 : a.tmps[36]? = some (.agg #[.int .i64 t262, .int .i64 t263]) := by rw [ha]; exact putSel_on (e := (20, 36, .agg #[.int .i64 t262, .int .i64 t263])) 15 rfl rfl (hon 20 (by kernel_rfl)) rfl
                    replace ha := aS_ ha
                    have HO_239000 := aS_ Q_HO_239000
                    have BK237 := aS_ Q_BK237
                    have BK238 := aS_ Q_BK238
                    have HK := aS_ Q_HK
                    have HB := aS_ Q_HB
                    have NB265_264 := aS_ (Q_NB265_264 (hon 21 (by kernel_rfl)) (hon 22 (by kernel_rfl)))
                    have NB264_265 := aS_ (Q_NB264_265 (hon 21 (by kernel_rfl)) (hon 22 (by kernel_rfl)))
                    have HO247 := aS_ (Q_HO247 (hon 5 (by kernel_rfl)))
                    have HA_HO247 := aS_ (Q_HA_HO247 (hon 5 (by kernel_rfl)))
                    have HO255 := aS_ (Q_HO255 (hon 12 (by kernel_rfl)))
                    have HA_HO255 := aS_ (Q_HA_HO255 (hon 12 (by kernel_rfl)))
                    have HI0 := aS_ (Q_HI0_e14 (hon 14 (by kernel_rfl)))
                    have HO261 := aS_ (Q_HO261 (hon 17 (by kernel_rfl)))
                    have GW264 := aS_ (Q_GW264 (hon 21 (by kernel_rfl)))
                    have GE264 := aS_ (Q_GE264 (hon 21 (by kernel_rfl)))
                    have NB0_264 := aS_ (Q_NB0_264 (hon 21 (by kernel_rfl)))
                    have NB264_0 := aS_ (Q_NB264_0 (hon 21 (by kernel_rfl)))
                    have NB237_264 := aS_ (Q_NB237_264 (hon 21 (by kernel_rfl)))
                    have NB264_237 := aS_ (Q_NB264_237 (hon 21 (by kernel_rfl)))
                    have NB238_264 := aS_ (Q_NB238_264 (hon 21 (by kernel_rfl)))
                    have NB264_238 := aS_ (Q_NB264_238 (hon 21 (by kernel_rfl)))
                    have BK265 := aS_ (Q_BK265 (hon 22 (by kernel_rfl)) hb_)
                    have GW265 := aS_ (Q_GW265 (hon 22 (by kernel_rfl)))
                    have GE265 := aS_ (Q_GE265 (hon 22 (by kernel_rfl)))
                    have NB0_265 := aS_ (Q_NB0_265 (hon 22 (by kernel_rfl)))
                    have NB265_0 := aS_ (Q_NB265_0 (hon 22 (by kernel_rfl)))
                    have NB237_265 := aS_ (Q_NB237_265 (hon 22 (by kernel_rfl)))
                    have NB265_237 := aS_ (Q_NB265_237 (hon 22 (by kernel_rfl)))
                    have NB238_265 := aS_ (Q_NB238_265 (hon 22 (by kernel_rfl)))
                    have NB265_238 := aS_ (Q_NB265_238 (hon 22 (by kernel_rfl)))
                    have BK264 := aS_ (Q_BK264_e23 (hon 23 (by kernel_rfl)))
                    obtain ⟨co40, eo40⟩ := HA_HO247.out
                    clear HA_HO247
                    subst eo40
                    obtain ⟨co41, eo41⟩ := HA_HO255.out
                    clear HA_HO255
                    subst eo41
                    have hs42 : w'.cell? ⟨gb265, 0, none⟩ = some (.int .i64 0) := (blk_cell BK265.out 0).trans rfl
                    have hfs42 := blk_frozen BK265.out 0
                    have hns42_0 := NB237_265.out
                    have hns42_1 := NB238_265.out
                    have hns42_2 := NB264_265.out
                    have hms42_0 := NB265_237.out
                    have hms42_1 := NB265_238.out
                    have hms42_2 := NB265_264.out
                    have hs43 : w'.cell? ⟨gb265, 1, none⟩ = some (.int .i64 0) := (blk_cell BK265.out 1).trans rfl
                    have hfs43 := blk_frozen BK265.out 1
                    have hns43_0 := NB237_265.out
                    have hns43_1 := NB238_265.out
                    have hns43_2 := NB264_265.out
                    have hms43_0 := NB265_237.out
                    have hms43_1 := NB265_238.out
                    have hms43_2 := NB265_264.out
                    refine skip_ (w1 := ?_) (by rfl) rfl ?_ ?_
                    rotate_left
                    · go_simp
                      rfl
                    refine hK.out _ _ ⟨.slice (some adz_v246) y245.length co40, adz_v246, .slice (some adz_v254) y253.length co41, adz_v254, v260, gb264, gb265, m8_, m15_, m17_, m18_, m19_, m21_, m22_, (by rw [ha.out]; exact putSel_none (v := undef) rfl), (by (with_reducible repeat (first | apply rA_ | apply rN_ | apply rD_)); exact rM_ (rF_ (p := ⟨gb265, 1, none⟩) (rF_ (p := ⟨gb265, 0, none⟩) (Kd.R_types HO_239000.out BK265.out (by decide)) (fun _ hk => by first | exact hk.2 | trivial | simp [hk]) (.int .i64 t262)) (fun _ hk => by first | exact hk.2 | trivial | simp [hk]) (.int .i64 t263)) (fun _ hk => by first | exact hk.1 | trivial | simp [hk])), (by (with_reducible repeat (first | refine kN_ ?_ _ | refine kD_ ?_ | refine kA_ ?_ _)); refine blk_far ?_ NB237_265.out _; (with_reducible repeat (first | refine kN_ ?_ _ | refine kD_ ?_ | refine kA_ ?_ _)); refine blk_far ?_ NB237_265.out _; (with_reducible repeat (first | refine kN_ ?_ _ | refine kD_ ?_ | refine kA_ ?_ _)); exact BK237.out), (by (with_reducible repeat (first | refine kN_ ?_ _ | refine kD_ ?_ | refine kA_ ?_ _)); refine blk_far ?_ NB238_265.out _; (with_reducible repeat (first | refine kN_ ?_ _ | refine kD_ ?_ | refine kA_ ?_ _)); refine blk_far ?_ NB238_265.out _; (with_reducible repeat (first | refine kN_ ?_ _ | refine kD_ ?_ | refine kA_ ?_ _)); exact BK238.out), fun h0_ => absurd ((hon 2 (by kernel_rfl)).symm.trans h0_) (by decide), (by repeat (first | (with_reducible first | exact HK.out | apply KeepBut.set_ | apply keep_drewN | apply keep_drew | apply keep_alloc | refine keep_far ?_ GW237.out _ | refine keep_far ?_ GW238.out _ | refine keep_far ?_ GW264.out _ | refine keep_far ?_ GW265.out _) | exact HK.out)), (by repeat (first | (with_reducible first | exact HB.out | apply bA_ | apply bN_ | apply bD_ | refine below_set ?_ (IsS77.ge HI0.out) | refine below_set ?_ GE237.out | refine below_set ?_ GE238.out | refine below_set ?_ GE264.out | refine below_set ?_ GE265.out) | exact HB.out)), fun _ _ => NB265_264.out, fun _ _ => NB264_265.out, fun _ h1_ => absurd ((hon 4 (by kernel_rfl)).symm.trans h1_) (by decide), fun _ h1_ => absurd ((hon 7 (by kernel_rfl)).symm.trans h1_) (by decide), fun _ => (by (with_reducible repeat (first | apply rA_ | apply rN_ | apply rD_)); exact rM_ (rF_ (p := ⟨gb265, 1, none⟩) (rF_ (p := ⟨gb265, 0, none⟩) (Kd.R_types HO247.out BK265.out (by decide)) (fun _ hk => by first | exact hk.2 | trivial | simp [hk]) (.int .i64 t262)) (fun _ hk => by first | exact hk.2 | trivial | simp [hk]) (.int .i64 t263)) (fun _ hk => by first | exact hk.1 | trivial | simp [hk])), fun _ => ⟨_, rfl⟩, fun _ h1_ => absurd ((hon 11 (by kernel_rfl)).symm.trans h1_) (by decide), fun _ h1_ => absurd ((hon 14 (by kernel_rfl)).symm.trans h1_) (by decide), fun _ => (by (with_reducible repeat (first | apply rA_ | apply rN_ | apply rD_)); exact rM_ (rF_ (p := ⟨gb265, 1, none⟩) (rF_ (p := ⟨gb265, 0, none⟩) (Kd.R_types HO255.out BK265.out (by decide)) (fun _ hk => by first | exact hk.2 | trivial | simp [hk]) (.int .i64 t262)) (fun _ hk => by first | exact hk.2 | trivial | simp [hk]) (.int .i64 t263)) (fun _ hk => by first | exact hk.1 | trivial | simp [hk])), fun _ => ⟨_, rfl⟩, fun _ => (by repeat (first | (with_reducible first | exact HI0.out | apply IsS77.alloc | apply IsS77.drewN | apply IsS77.drew | apply IsS77.set_1 | refine IsS77.far ?_ NB0_237.out _ | refine IsS77.far ?_ NB0_238.out _ | refine IsS77.far ?_ NB0_264.out _ | refine IsS77.far ?_ NB0_265.out _) | exact HI0.out)), fun _ => (by (with_reducible repeat (first | apply rA_ | apply rN_ | apply rD_)); exact rM_ (rF_ (p := ⟨gb265, 1, none⟩) (rF_ (p := ⟨gb265, 0, none⟩) (Kd.R_types HO261.out BK265.out (by decide)) (fun _ hk => by first | exact hk.2 | trivial | simp [hk]) (.int .i64 t262)) (fun _ hk => by first | exact hk.2 | trivial | simp [hk]) (.int .i64 t263)) (fun _ hk => by first | exact hk.1 | trivial | simp [hk])), fun _ h1_ => absurd ((hon 23 (by kernel_rfl)).symm.trans h1_) (by decide), fun _ => GW264.out, fun _ => GE264.out, fun _ => NB0_264.out, fun _ => NB264_0.out, fun _ => NB237_264.out, fun _ => NB264_237.out, fun _ => NB238_264.out, fun _ => NB264_238.out, fun _ h1_ => absurd ((up_self b 24).symm.trans h1_) (by decide), fun _ => GW265.out, fun _ => GE265.out, fun _ => NB0_265.out, fun _ => NB265_0.out, fun _ => NB237_265.out, fun _ => NB265_237.out, fun _ => NB238_265.out, fun _ => NB265_238.out, fun _ => (by (with_reducible repeat (first | refine kN_ ?_ _ | refine kD_ ?_ | refine kA_ ?_ _)); refine blk_far ?_ NB264_265.out _; (with_reducible repeat (first | refine kN_ ?_ _ | refine kD_ ?_ | refine kA_ ?_ _)); refine blk_far ?_ NB264_265.out _; (with_reducible repeat (first | refine kN_ ?_ _ | refine kD_ ?_ | refine kA_ ?_ _)); exact BK264.out), fun _ => (by (with_reducible repeat (first | refine kN_ ?_ _ | refine kD_ ?_ | refine kA_ ?_ _)); refine blk_put (cs := #[.int .i64 t262, .int .i64 0]) ?_ 1 _ rfl; (with_reducible repeat (first | refine kN_ ?_ _ | refine kD_ ?_ | refine kA_ ?_ _)); refine blk_put (cs := #[.int .i64 0, .int .i64 0]) ?_ 0 _ rfl; (with_reducible repeat (first | refine kN_ ?_ _ | refine kD_ ?_ | refine kA_ ?_ _)); exact BK265.out), Q_X8_, Q_X15_, Q_X17_, Q_X18_, Q_X19_, Q_X21_, Q_X22_⟩
                  exact steps_nil
                rintro b a w41 hall ⟨v246, adz_v246, v254, adz_v254, v260, gb264, gb265, m8_, m15_, m17_, m18_, m19_, m21_, m22_, ha, Q_HO_239000, Q_BK237, Q_BK238, Q_HI0, Q_HK, Q_HB, Q_NB265_264, Q_NB264_265, Q_HI0_e2, Q_HI0_e4, Q_HO247, Q_HA_HO247, Q_HI0_e7, Q_HI0_e11, Q_HO255, Q_HA_HO255, Q_HI0_e14, Q_HO261, Q_BK264, Q_GW264, Q_GE264, Q_NB0_264, Q_NB264_0, Q_NB237_264, Q_NB264_237, Q_NB238_264, Q_NB264_238, Q_BK265, Q_GW265, Q_GE265, Q_NB0_265, Q_NB265_0, Q_NB237_265, Q_NB265_237, Q_NB238_265, Q_NB265_238, Q_BK264_e23, Q_BK265_e24, Q_X8_, Q_X15_, Q_X17_, Q_X18_, Q_X19_, Q_X21_, Q_X22_⟩
                clear BK237 BK238 HB HI0 HK HO_239000
                have hb0_ := hall 0 (by kernel_rfl)
                have hb2_ := hall 2 (by kernel_rfl)
                have hb4_ := hall 4 (by kernel_rfl)
                have hb5_ := hall 5 (by kernel_rfl)
                have hb7_ := hall 7 (by kernel_rfl)
                have hb8_ := hall 8 (by kernel_rfl)
                have hb9_ := hall 9 (by kernel_rfl)
                have hb11_ := hall 11 (by kernel_rfl)
                have hb12_ := hall 12 (by kernel_rfl)
                have hb14_ := hall 14 (by kernel_rfl)
                have hb15_ := hall 15 (by kernel_rfl)
                have hb16_ := hall 16 (by kernel_rfl)
                have hb17_ := hall 17 (by kernel_rfl)
                have hb18_ := hall 18 (by kernel_rfl)
                have hb19_ := hall 19 (by kernel_rfl)
                have hb20_ := hall 20 (by kernel_rfl)
                have hb21_ := hall 21 (by kernel_rfl)
                have hb22_ := hall 22 (by kernel_rfl)
                have hb23_ := hall 23 (by kernel_rfl)
                have hb24_ := hall 24 (by kernel_rfl)
                subst ha
                obtain rfl := Q_X8_ hb8_
                obtain rfl := Q_X15_ hb15_
                obtain rfl := Q_X17_ hb17_
                obtain rfl := Q_X18_ hb18_
                obtain rfl := Q_X19_ hb19_
                obtain rfl := Q_X21_ hb21_
                obtain rfl := Q_X22_ hb22_
                simp only [putSel, hb0_, hb2_, hb4_, hb5_, hb7_, hb8_, hb9_, hb11_, hb12_, hb14_, hb15_, hb16_, hb17_, hb18_, hb19_, hb20_, hb21_, hb22_, hb23_, hb24_, if_true, Act.put, List.setIfInBounds_toArray, List.set_cons_zero, List.set_cons_succ]
                have HO_239000 := aS_ Q_HO_239000
                clear Q_HO_239000
                have BK237 := aS_ Q_BK237
                clear Q_BK237
                have BK238 := aS_ Q_BK238
                clear Q_BK238
                clear Q_HI0
                have HK := aS_ Q_HK
                clear Q_HK
                have HB := aS_ Q_HB
                clear Q_HB
                have NB265_264 := aS_ (Q_NB265_264 hb21_ hb22_)
                clear Q_NB265_264
                have NB264_265 := aS_ (Q_NB264_265 hb21_ hb22_)
                clear Q_NB264_265
                clear Q_HI0_e2
                clear Q_HI0_e4
                have HO247 := aS_ (Q_HO247 hb5_)
                clear Q_HO247
                have HA_HO247 := aS_ (Q_HA_HO247 hb5_)
                clear Q_HA_HO247
                clear Q_HI0_e7
                clear Q_HI0_e11
                have HO255 := aS_ (Q_HO255 hb12_)
                clear Q_HO255
                have HA_HO255 := aS_ (Q_HA_HO255 hb12_)
                clear Q_HA_HO255
                have HI0 := aS_ (Q_HI0_e14 hb14_)
                clear Q_HI0_e14
                have HO261 := aS_ (Q_HO261 hb17_)
                clear Q_HO261
                clear Q_BK264
                have GW264 := aS_ (Q_GW264 hb21_)
                clear Q_GW264
                have GE264 := aS_ (Q_GE264 hb21_)
                clear Q_GE264
                have NB0_264 := aS_ (Q_NB0_264 hb21_)
                clear Q_NB0_264
                have NB264_0 := aS_ (Q_NB264_0 hb21_)
                clear Q_NB264_0
                have NB237_264 := aS_ (Q_NB237_264 hb21_)
                clear Q_NB237_264
                have NB264_237 := aS_ (Q_NB264_237 hb21_)
                clear Q_NB264_237
                have NB238_264 := aS_ (Q_NB238_264 hb21_)
                clear Q_NB238_264
                have NB264_238 := aS_ (Q_NB264_238 hb21_)
                clear Q_NB264_238
                clear Q_BK265
                have GW265 := aS_ (Q_GW265 hb22_)
                clear Q_GW265
                have GE265 := aS_ (Q_GE265 hb22_)
                clear Q_GE265
                have NB0_265 := aS_ (Q_NB0_265 hb22_)
                clear Q_NB0_265
                have NB265_0 := aS_ (Q_NB265_0 hb22_)
                clear Q_NB265_0
                have NB237_265 := aS_ (Q_NB237_265 hb22_)
                clear Q_NB237_265
                have NB265_237 := aS_ (Q_NB265_237 hb22_)
                clear Q_NB265_237
                have NB238_265 := aS_ (Q_NB238_265 hb22_)
                clear Q_NB238_265
                have NB265_238 := aS_ (Q_NB265_238 hb22_)
                clear Q_NB265_238
                have BK264 := aS_ (Q_BK264_e23 hb23_)
                clear Q_BK264_e23
                have BK265 := aS_ (Q_BK265_e24 hb24_)
                clear Q_BK265_e24
                clear hall hb0_ hb2_ hb4_ hb5_ hb7_ hb8_ hb9_ hb11_ hb12_ hb14_ hb15_ hb16_ hb17_ hb18_ hb19_ hb20_ hb21_ hb22_ hb23_ hb24_
                obtain ⟨co42, eo42⟩ := HA_HO247.out
                clear HA_HO247
                subst eo42
                obtain ⟨co43, eo43⟩ := HA_HO255.out
                clear HA_HO255
                subst eo43
                have hnb44 := NB264_237.out
                have hnc44 := NB237_264.out
                have hnb45 := NB264_238.out
                have hnc45 := NB238_264.out
                have hnb46 := NB264_265.out
                have hnc46 := NB265_264.out
                have hnb47 := NB264_0.out
                have hnc47 := NB0_264.out
                have hcz48_0 : w41.cell? ⟨gb264, 0, none⟩ = some (v260) := (blk_cell BK264.out 0).trans rfl
                have hfz48_0 := blk_frozen BK264.out 0
                obtain ⟨Ao49, co49, eo49⟩ := Kd.R_slice HO261.out
                subst eo49
                have hnb50 := NB238_237.out
                have hnc50 := NB237_238.out
                have hnb51 := NB238_265.out
                have hnc51 := NB265_238.out
                have hnb52 := NB238_0.out
                have hnc52 := NB0_238.out
                have hcz53_0 : w41.cell? ⟨gb238, 0, none⟩ = some (.slice Ao21 x239000_1.length co21) := (blk_cell BK238.out 0).trans rfl
                have hfz53_0 := blk_frozen BK238.out 0
                try go_wp2
                go_roundg k1
                case measure => have := HK1.out; omega
                case rel => exact ⟨(wrap64 (x6_1 - 1)), (t257), (t259), (.slice Ao49 t259.length co49), (by first | rfl | (simp; done) | (simp [*]; done)), H', ⟨by have := HK1.out; omega⟩, ⟨by (with_reducible repeat (first | apply rA_ | apply rN_ | apply rD_)); exact rM_ (rF_ (p := ⟨gb238, 0, none⟩) (Kd.R_types HO261.out BK238.out (by decide)) (fun _ hk => by first | exact hk.2 | trivial | simp [hk]) (.slice Ao49 t259.length co49)) (fun _ hk => trivial)⟩, ⟨by (with_reducible repeat (first | refine kN_ ?_ _ | refine kD_ ?_ | refine kA_ ?_ _)); refine blk_far ?_ NB237_238.out _; (with_reducible repeat (first | refine kN_ ?_ _ | refine kD_ ?_ | refine kA_ ?_ _)); exact BK237.out⟩, ⟨by (with_reducible repeat (first | refine kN_ ?_ _ | refine kD_ ?_ | refine kA_ ?_ _)); refine blk_put (cs := #[.slice Ao21 x239000_1.length co21]) ?_ 0 _ rfl; (with_reducible repeat (first | refine kN_ ?_ _ | refine kD_ ?_ | refine kA_ ?_ _)); exact BK238.out⟩, ⟨by repeat (first | (with_reducible first | exact HI0.out | apply IsS77.alloc | apply IsS77.drewN | apply IsS77.drew | apply IsS77.set_1 | refine IsS77.far ?_ NB0_237.out _ | refine IsS77.far ?_ NB0_238.out _ | refine IsS77.far ?_ NB0_264.out _ | refine IsS77.far ?_ NB0_265.out _) | exact HI0.out)⟩, ⟨by repeat (first | (with_reducible first | exact HK.out | apply KeepBut.set_ | apply keep_drewN | apply keep_drew | apply keep_alloc | refine keep_far ?_ GW237.out _ | refine keep_far ?_ GW238.out _ | refine keep_far ?_ GW264.out _ | refine keep_far ?_ GW265.out _) | exact HK.out)⟩, ⟨by repeat (first | (with_reducible first | exact HB.out | apply bA_ | apply bN_ | apply bD_ | refine below_set ?_ (IsS77.ge HI0.out) | refine below_set ?_ GE237.out | refine below_set ?_ GE238.out | refine below_set ?_ GE264.out | refine below_set ?_ GE265.out) | exact HB.out)⟩⟩
              · rw [if_neg c19] at H
                exact absurd H (by simp)
            · rw [if_neg c18] at H
              exact absurd H (by simp)
          · rw [if_neg c15] at H
            exact absurd H (by simp)
        · rw [if_neg c14] at H
          exact absurd H (by simp)
      · rw [if_neg c10] at H
        have c10b0 : decide (0 < x6_1) = false := decide_eq_false c10
        clear c10
        replace H := Option.bind_eq_some_iff.mp H
        obtain ⟨⟨t266, t267⟩, A540, H⟩ := H
        replace H : (if t266 = true then ((spec_l20Rd_pick.f k1 s0_0 t267 4).bind fun bt268 => (if bt268.1 = 0 then (if x239000_1.length < 8796093022208 then (some ((x239000_1 ++ [(⟨0, 0⟩ : S39)]), bt268.2)) else (none)) else (if bt268.1 = 1 then (if x239000_1.length < 8796093022208 then (some ((x239000_1 ++ [(⟨100, 0⟩ : S39)]), bt268.2)) else (none)) else (if bt268.1 = 2 then (if x239000_1.length < 8796093022208 then (some ((x239000_1 ++ [(⟨99, (-1)⟩ : S39)]), bt268.2)) else (none)) else (spec_l20Map.l1 k1 s0_0 bt268.2 x239000_1))))) else (some (x239000_1, t267))) = some (r1, r2) := H
        have A54 := aS_ A540
        clear A540
        by_cases c55 : t266 = true
        · subst c55
          have H1 : ((spec_l20Rd_pick.f k1 s0_0 t267 4).bind fun bt268 => (if bt268.1 = 0 then (if x239000_1.length < 8796093022208 then (some ((x239000_1 ++ [(⟨0, 0⟩ : S39)]), bt268.2)) else (none)) else (if bt268.1 = 1 then (if x239000_1.length < 8796093022208 then (some ((x239000_1 ++ [(⟨100, 0⟩ : S39)]), bt268.2)) else (none)) else (if bt268.1 = 2 then (if x239000_1.length < 8796093022208 then (some ((x239000_1 ++ [(⟨99, (-1)⟩ : S39)]), bt268.2)) else (none)) else (spec_l20Map.l1 k1 s0_0 bt268.2 x239000_1))))) = some (r1, r2) := by rw [if_pos rfl] at H; exact H
          clear H
          have H := H1
          clear H1
          replace H := Option.bind_eq_some_iff.mp H
          obtain ⟨⟨t268, t269⟩, A560, H⟩ := H
          replace H : (if t268 = 0 then (if x239000_1.length < 8796093022208 then (some ((x239000_1 ++ [(⟨0, 0⟩ : S39)]), t269)) else (none)) else (if t268 = 1 then (if x239000_1.length < 8796093022208 then (some ((x239000_1 ++ [(⟨100, 0⟩ : S39)]), t269)) else (none)) else (if t268 = 2 then (if x239000_1.length < 8796093022208 then (some ((x239000_1 ++ [(⟨99, (-1)⟩ : S39)]), t269)) else (none)) else (spec_l20Map.l1 k1 s0_0 t269 x239000_1)))) = some (r1, r2) := H
          have A56 := aS_ A560
          clear A560
          by_cases c57 : t268 = 0
          · rw [if_pos c57] at H
            have c57b0 : (t268 == 0) = true := beq_iff_eq.mpr c57
            have c57b1 : (t268 != 0) = false := bne_eq_false_iff_eq.mpr c57
            clear c57
            by_cases c58 : x239000_1.length < 8796093022208
            · rw [if_pos c58] at H
              have LMc58 := aS_ c58
              clear c58
              obtain ⟨y270, hy270⟩ : ∃ y_ : List (S39), y_ = (x239000_1 ++ [(⟨0, 0⟩ : S39)]) := ⟨_, rfl⟩
              replace H : (some (y270, t269)) = some (r1, r2) := by first | (rw [hy270]; with_reducible exact H) | (have H2_ := (Option.bind_some _ _).symm.trans H; rw [hy270]; with_reducible exact H2_) | (have H2_ := (Option.bind_some _ _).symm.trans H; with_reducible exact H2_) | with_reducible exact H | (rw [hy270]; exact H) | exact H
              have Ny270 := aS_ hy270
              clear hy270
              simp only [Option.some.injEq, Prod.mk.injEq] at H
              obtain ⟨rfl, rfl⟩ := H
              go_wp2_with (first | ((with_reducible refine gate_callee (f := 63) rfl ?_); refine goesL_ (some 40) rfl rfl Try.func63 (by kernel_rfl) rfl #[.pointer (some ⟨g, 0, none⟩), .int .i64 a1] rfl (by (try simp only [List.map_toArray, List.map_cons, List.map_nil]); first | done | rfl | (simp only [List.length_drop, List.length_take]; rfl)) ?_; (with_reducible refine (spec_l20Rd_odd.calls k1 g s0_0 x1001_1 a1 true t267 w0 _ ?side1 ?side2 A54.out).mono ?_); (case side1 => repeat (first | (with_reducible first | exact HI0.out | apply IsS77.alloc | apply IsS77.drewN | apply IsS77.drew | apply IsS77.set_1 | refine IsS77.far ?_ NB0_237.out _ | refine IsS77.far ?_ NB0_238.out _) | exact HI0.out)); (case side2 => repeat (first | (with_reducible first | exact HB.out | apply bA_ | apply bN_ | apply bD_ | refine below_set ?_ (IsS77.ge HI0.out) | refine below_set ?_ GE237.out | refine below_set ?_ GE238.out) | exact HB.out)); rintro e w59 ⟨rfl, hi, hb, hk⟩; refine ⟨_, rfl, ?_⟩; have n0_ := aS_ (rM_ (Kd.R_keep (IsS77.apart (show IsS77 w0 _ g s0_0 x1001_1 from by repeat (first | (with_reducible first | exact HI0.out | apply IsS77.alloc | apply IsS77.drewN | apply IsS77.drew | apply IsS77.set_1 | refine IsS77.far ?_ NB0_237.out _ | refine IsS77.far ?_ NB0_238.out _) | exact HI0.out)) (by (with_reducible repeat (first | apply rA_ | apply rN_ | apply rD_)); exact HO_239000.out) (by decide)) hk (fun _ h => h.2)) (fun _ h => h.1)); have n1_ := aS_ (KeepBut.blk hk (g' := gb237) (o := .cells #[.slice none 0 0] 25 (0, 0)) (by (with_reducible repeat (first | refine kN_ ?_ _ | refine kD_ ?_ | refine kA_ ?_ _)); exact BK237.out) NB237_0.out (by simp)); have n2_ := aS_ (KeepBut.blk hk (g' := gb238) (o := .cells #[u239000] 25 (0, 0)) (by (with_reducible repeat (first | refine kN_ ?_ _ | refine kD_ ?_ | refine kA_ ?_ _)); exact BK238.out) NB238_0.out (by simp)); have n3_ := aS_ (KeepBut.trans (by repeat (first | (with_reducible first | exact HK.out | apply KeepBut.set_ | apply keep_drewN | apply keep_drew | apply keep_alloc | refine keep_far ?_ GW237.out _ | refine keep_far ?_ GW238.out _) | exact HK.out)) hk (.inl rfl)); have n4_ := aS_ (hb); have n5_ := aS_ (hi); clear HO_239000; clear BK237; clear BK238; clear HK; clear HB; clear HI0; have HO_239000 := n0_; have BK237 := n1_; have BK238 := n2_; have HK := n3_; have HB := n4_; have HI0 := n5_; clear n0_ n1_ n2_ n3_ n4_ n5_; (try clear hb); (try clear hb2); (try clear hk); (try clear hi)) | ((with_reducible refine gate_callee (f := 57) rfl ?_); refine goesL_ (some 42) rfl rfl Try.func57 (by kernel_rfl) rfl #[.pointer (some ⟨g, 0, none⟩), .int .i64 4] rfl (by (try simp only [List.map_toArray, List.map_cons, List.map_nil]); first | done | rfl | (simp only [List.length_drop, List.length_take]; rfl)) ?_; (with_reducible refine (spec_l20Rd_pick.calls k1 g s0_0 t267 4 t268 t269 w0 _ ?side1 ?side2 A56.out).mono ?_); (case side1 => repeat (first | (with_reducible first | exact HI0.out | apply IsS77.alloc | apply IsS77.drewN | apply IsS77.drew | apply IsS77.set_1 | refine IsS77.far ?_ NB0_237.out _ | refine IsS77.far ?_ NB0_238.out _) | exact HI0.out)); (case side2 => repeat (first | (with_reducible first | exact HB.out | apply bA_ | apply bN_ | apply bD_ | refine below_set ?_ (IsS77.ge HI0.out) | refine below_set ?_ GE237.out | refine below_set ?_ GE238.out) | exact HB.out)); rintro e w60 ⟨rfl, hi, hb, hk⟩; refine ⟨_, rfl, ?_⟩; have n0_ := aS_ (rM_ (Kd.R_keep (IsS77.apart (show IsS77 w0 _ g s0_0 t267 from by repeat (first | (with_reducible first | exact HI0.out | apply IsS77.alloc | apply IsS77.drewN | apply IsS77.drew | apply IsS77.set_1 | refine IsS77.far ?_ NB0_237.out _ | refine IsS77.far ?_ NB0_238.out _) | exact HI0.out)) (by (with_reducible repeat (first | apply rA_ | apply rN_ | apply rD_)); exact HO_239000.out) (by decide)) hk (fun _ h => h.2)) (fun _ h => h.1)); have n1_ := aS_ (KeepBut.blk hk (g' := gb237) (o := .cells #[.slice none 0 0] 25 (0, 0)) (by (with_reducible repeat (first | refine kN_ ?_ _ | refine kD_ ?_ | refine kA_ ?_ _)); exact BK237.out) NB237_0.out (by simp)); have n2_ := aS_ (KeepBut.blk hk (g' := gb238) (o := .cells #[u239000] 25 (0, 0)) (by (with_reducible repeat (first | refine kN_ ?_ _ | refine kD_ ?_ | refine kA_ ?_ _)); exact BK238.out) NB238_0.out (by simp)); have n3_ := aS_ (KeepBut.trans (by repeat (first | (with_reducible first | exact HK.out | apply KeepBut.set_ | apply keep_drewN | apply keep_drew | apply keep_alloc | refine keep_far ?_ GW237.out _ | refine keep_far ?_ GW238.out _) | exact HK.out)) hk (.inl rfl)); have n4_ := aS_ (hb); have n5_ := aS_ (hi); clear HO_239000; clear BK237; clear BK238; clear HK; clear HB; clear HI0; have HO_239000 := n0_; have BK237 := n1_; have BK238 := n2_; have HK := n3_; have HB := n4_; have HI0 := n5_; clear n0_ n1_ n2_ n3_ n4_ n5_; (try clear hb); (try clear hb2); (try clear hk); (try clear hi); have hnb61 := NB238_237.out; have hnc61 := NB237_238.out; have hnb62 := NB238_0.out; have hnc62 := NB0_238.out; have hcz63_0 : w60.cell? ⟨gb238, 0, none⟩ = some (u239000) := (blk_cell BK238.out 0).trans rfl; have hfz63_0 := blk_frozen BK238.out 0) | ((with_reducible refine gate_builtin (b := .append) (xs := #[.tmp 60, .tmp 62]) rfl ?_); at_builtin; refine Kd.R_append k39 w.heap.size rfl (.tmp 60) (.tmp 62) 23 39 (.agg #[(.int .i64 0), (.int .i64 0)]) 16 rfl Try.underlying23 info39 rfl (by decide) (by omega) u239000 x239000_1 (⟨0, 0⟩ : S39) [.int .i64 0, .int .i64 0] (fun _ => True) (fun _ => False) rfl rfl ?aP (fun _ hk => hk.elim) ?aF ?aO (Below.refl _ _) ?aS ?aL ?_; (case aP => exact k39_mkM _ _ _ (⟨0, 0⟩ : S39)); (case aF => exact (fun _ _ => trivial)); (case aO => exact (by (with_reducible repeat (first | apply rA_ | apply rN_ | apply rD_)); exact HO_239000.out)); (case aS => exact (keep_size (w := w) (g := g) (row := none) (by repeat (first | (with_reducible first | exact HK.out | apply KeepBut.set_ | apply keep_drewN | apply keep_drew | apply keep_alloc | refine keep_far ?_ GW237.out _ | refine keep_far ?_ GW238.out _) | exact HK.out)))); (case aL => have := LMc58.out; omega); intro v271 w64 ho hb hg hat; rw [← Ny270.out] at ho; have n0_ := aS_ (blk_grown (g := gb237) (o := .cells #[.slice none 0 0] 25 (0, 0)) (by (with_reducible repeat (first | refine kN_ ?_ _ | refine kD_ ?_ | refine kA_ ?_ _)); exact BK237.out) hg (Kd.R_ne HO_239000.out BK237.out (by decide))); have n1_ := aS_ (blk_grown (g := gb238) (o := .cells #[u239000] 25 (0, 0)) (by (with_reducible repeat (first | refine kN_ ?_ _ | refine kD_ ?_ | refine kA_ ?_ _)); exact BK238.out) hg (Kd.R_ne HO_239000.out BK238.out (by decide))); have n2_ := aS_ (IsS77.grown (by repeat (first | (with_reducible first | exact HI0.out | apply IsS77.alloc | apply IsS77.drewN | apply IsS77.drew | apply IsS77.set_1 | refine IsS77.far ?_ NB0_237.out _ | refine IsS77.far ?_ NB0_238.out _) | exact HI0.out)) hg (IsS77.own_ne HI0.out HO_239000.out (by decide))); have n3_ := aS_ (below_weaken (by repeat (first | (with_reducible first | exact HB.out | apply bA_ | apply bN_ | apply bD_ | refine below_set ?_ (IsS77.ge HI0.out) | refine below_set ?_ GE237.out | refine below_set ?_ GE238.out) | exact HB.out)) HL.out hb); have n4_ := aS_ (KeepBut.trans (by repeat (first | (with_reducible first | exact HK.out | apply KeepBut.set_ | apply keep_drewN | apply keep_drew | apply keep_alloc | refine keep_far ?_ GW237.out _ | refine keep_far ?_ GW238.out _) | exact HK.out)) (KeepBut.of_grown hg g) (Kd.R_base2 HO_239000.out)); have n5_ := aS_ (ho); clear BK237; clear BK238; clear HI0; clear HB; clear HK; clear HO_239000; have BK237 := n0_; have BK238 := n1_; have HI0 := n2_; have HB := n3_; have HK := n4_; have HO272 := n5_; clear n0_ n1_ n2_ n3_ n4_ n5_; clear ho hb hg hat; obtain ⟨Ao65, co65, eo65⟩ := Kd.R_slice HO272.out; subst eo65; have hcz66_0 : w64.cell? ⟨gb238, 0, none⟩ = some (u239000) := (blk_cell BK238.out 0).trans rfl; have hfz66_0 := blk_frozen BK238.out 0; have hnb67 := NB237_0.out; have hnc67 := NB0_237.out; have hcz68_0 : w64.cell? ⟨gb237, 0, none⟩ = some (.slice none 0 0) := (blk_cell BK237.out 0).trans rfl; have hfz68_0 := blk_frozen BK237.out 0))
              refine bodyPost_ret (results_cell_row rfl _ _ gb237 25 #[.slice Ao65 y270.length co65] (0, 0) _ rfl (by (with_reducible repeat (first | refine kN_ ?_ _ | refine kD_ ?_ | refine kA_ ?_ _)); refine blk_put (cs := #[.slice none 0 0]) ?_ 0 _ rfl; (with_reducible repeat (first | refine kN_ ?_ _ | refine kD_ ?_ | refine kA_ ?_ _)); refine blk_far ?_ NB237_238.out _; (with_reducible repeat (first | refine kN_ ?_ _ | refine kD_ ?_ | refine kA_ ?_ _)); exact BK237.out) Try.underlying25 rfl (by kernel_rfl)) rfl ?_
              exact ⟨_, by first | rfl | (simp [errW_none, errW_some] <;> rfl) | (simp [*, errW_none, errW_some] <;> rfl), by (with_reducible repeat (first | apply rA_ | apply rN_ | apply rD_)); exact rM_ (rF_ (p := ⟨gb237, 0, none⟩) (rF_ (p := ⟨gb238, 0, none⟩) (Kd.R_types (Kd.R_types HO272.out BK238.out (by decide)) BK237.out (by decide)) (fun _ hk => by first | exact hk.1.2 | trivial | simp [hk]) (.slice Ao65 y270.length co65)) (fun _ hk => by first | exact hk.2 | trivial | simp [hk]) (.slice Ao65 y270.length co65)) (fun _ hk => trivial), by repeat (first | (with_reducible first | exact HI0.out | apply IsS77.alloc | apply IsS77.drewN | apply IsS77.drew | apply IsS77.set_1 | refine IsS77.far ?_ NB0_237.out _ | refine IsS77.far ?_ NB0_238.out _) | exact HI0.out), by repeat (first | (with_reducible first | exact HB.out | apply bA_ | apply bN_ | apply bD_ | refine below_set ?_ (IsS77.ge HI0.out) | refine below_set ?_ GE237.out | refine below_set ?_ GE238.out) | exact HB.out), by repeat (first | (with_reducible first | exact HK.out | apply KeepBut.set_ | apply keep_drewN | apply keep_drew | apply keep_alloc | refine keep_far ?_ GW237.out _ | refine keep_far ?_ GW238.out _) | exact HK.out)⟩
            · rw [if_neg c58] at H
              exact absurd H (by simp)
          · rw [if_neg c57] at H
            have c57b0 : (t268 == 0) = false := beq_eq_false_iff_ne.mpr c57
            have c57b1 : (t268 != 0) = true := bne_iff_ne.mpr c57
            by_cases c69 : t268 = 1
            · rw [if_pos c69] at H
              have c69b0 : (t268 == 1) = true := beq_iff_eq.mpr c69
              have c69b1 : (t268 != 1) = false := bne_eq_false_iff_eq.mpr c69
              clear c69
              by_cases c70 : x239000_1.length < 8796093022208
              · rw [if_pos c70] at H
                have LMc70 := aS_ c70
                clear c70
                obtain ⟨y273, hy273⟩ : ∃ y_ : List (S39), y_ = (x239000_1 ++ [(⟨100, 0⟩ : S39)]) := ⟨_, rfl⟩
                replace H : (some (y273, t269)) = some (r1, r2) := by first | (rw [hy273]; with_reducible exact H) | (have H2_ := (Option.bind_some _ _).symm.trans H; rw [hy273]; with_reducible exact H2_) | (have H2_ := (Option.bind_some _ _).symm.trans H; with_reducible exact H2_) | with_reducible exact H | (rw [hy273]; exact H) | exact H
                have Ny273 := aS_ hy273
                clear hy273
                simp only [Option.some.injEq, Prod.mk.injEq] at H
                obtain ⟨rfl, rfl⟩ := H
                go_wp2_with (first | ((with_reducible refine gate_callee (f := 63) rfl ?_); refine goesL_ (some 40) rfl rfl Try.func63 (by kernel_rfl) rfl #[.pointer (some ⟨g, 0, none⟩), .int .i64 a1] rfl (by (try simp only [List.map_toArray, List.map_cons, List.map_nil]); first | done | rfl | (simp only [List.length_drop, List.length_take]; rfl)) ?_; (with_reducible refine (spec_l20Rd_odd.calls k1 g s0_0 x1001_1 a1 true t267 w0 _ ?side1 ?side2 A54.out).mono ?_); (case side1 => repeat (first | (with_reducible first | exact HI0.out | apply IsS77.alloc | apply IsS77.drewN | apply IsS77.drew | apply IsS77.set_1 | refine IsS77.far ?_ NB0_237.out _ | refine IsS77.far ?_ NB0_238.out _) | exact HI0.out)); (case side2 => repeat (first | (with_reducible first | exact HB.out | apply bA_ | apply bN_ | apply bD_ | refine below_set ?_ (IsS77.ge HI0.out) | refine below_set ?_ GE237.out | refine below_set ?_ GE238.out) | exact HB.out)); rintro e w71 ⟨rfl, hi, hb, hk⟩; refine ⟨_, rfl, ?_⟩; have n0_ := aS_ (rM_ (Kd.R_keep (IsS77.apart (show IsS77 w0 _ g s0_0 x1001_1 from by repeat (first | (with_reducible first | exact HI0.out | apply IsS77.alloc | apply IsS77.drewN | apply IsS77.drew | apply IsS77.set_1 | refine IsS77.far ?_ NB0_237.out _ | refine IsS77.far ?_ NB0_238.out _) | exact HI0.out)) (by (with_reducible repeat (first | apply rA_ | apply rN_ | apply rD_)); exact HO_239000.out) (by decide)) hk (fun _ h => h.2)) (fun _ h => h.1)); have n1_ := aS_ (KeepBut.blk hk (g' := gb237) (o := .cells #[.slice none 0 0] 25 (0, 0)) (by (with_reducible repeat (first | refine kN_ ?_ _ | refine kD_ ?_ | refine kA_ ?_ _)); exact BK237.out) NB237_0.out (by simp)); have n2_ := aS_ (KeepBut.blk hk (g' := gb238) (o := .cells #[u239000] 25 (0, 0)) (by (with_reducible repeat (first | refine kN_ ?_ _ | refine kD_ ?_ | refine kA_ ?_ _)); exact BK238.out) NB238_0.out (by simp)); have n3_ := aS_ (KeepBut.trans (by repeat (first | (with_reducible first | exact HK.out | apply KeepBut.set_ | apply keep_drewN | apply keep_drew | apply keep_alloc | refine keep_far ?_ GW237.out _ | refine keep_far ?_ GW238.out _) | exact HK.out)) hk (.inl rfl)); have n4_ := aS_ (hb); have n5_ := aS_ (hi); clear HO_239000; clear BK237; clear BK238; clear HK; clear HB; clear HI0; have HO_239000 := n0_; have BK237 := n1_; have BK238 := n2_; have HK := n3_; have HB := n4_; have HI0 := n5_; clear n0_ n1_ n2_ n3_ n4_ n5_; (try clear hb); (try clear hb2); (try clear hk); (try clear hi)) | ((with_reducible refine gate_callee (f := 57) rfl ?_); refine goesL_ (some 42) rfl rfl Try.func57 (by kernel_rfl) rfl #[.pointer (some ⟨g, 0, none⟩), .int .i64 4] rfl (by (try simp only [List.map_toArray, List.map_cons, List.map_nil]); first | done | rfl | (simp only [List.length_drop, List.length_take]; rfl)) ?_; (with_reducible refine (spec_l20Rd_pick.calls k1 g s0_0 t267 4 t268 t269 w0 _ ?side1 ?side2 A56.out).mono ?_); (case side1 => repeat (first | (with_reducible first | exact HI0.out | apply IsS77.alloc | apply IsS77.drewN | apply IsS77.drew | apply IsS77.set_1 | refine IsS77.far ?_ NB0_237.out _ | refine IsS77.far ?_ NB0_238.out _) | exact HI0.out)); (case side2 => repeat (first | (with_reducible first | exact HB.out | apply bA_ | apply bN_ | apply bD_ | refine below_set ?_ (IsS77.ge HI0.out) | refine below_set ?_ GE237.out | refine below_set ?_ GE238.out) | exact HB.out)); rintro e w72 ⟨rfl, hi, hb, hk⟩; refine ⟨_, rfl, ?_⟩; have n0_ := aS_ (rM_ (Kd.R_keep (IsS77.apart (show IsS77 w0 _ g s0_0 t267 from by repeat (first | (with_reducible first | exact HI0.out | apply IsS77.alloc | apply IsS77.drewN | apply IsS77.drew | apply IsS77.set_1 | refine IsS77.far ?_ NB0_237.out _ | refine IsS77.far ?_ NB0_238.out _) | exact HI0.out)) (by (with_reducible repeat (first | apply rA_ | apply rN_ | apply rD_)); exact HO_239000.out) (by decide)) hk (fun _ h => h.2)) (fun _ h => h.1)); have n1_ := aS_ (KeepBut.blk hk (g' := gb237) (o := .cells #[.slice none 0 0] 25 (0, 0)) (by (with_reducible repeat (first | refine kN_ ?_ _ | refine kD_ ?_ | refine kA_ ?_ _)); exact BK237.out) NB237_0.out (by simp)); have n2_ := aS_ (KeepBut.blk hk (g' := gb238) (o := .cells #[u239000] 25 (0, 0)) (by (with_reducible repeat (first | refine kN_ ?_ _ | refine kD_ ?_ | refine kA_ ?_ _)); exact BK238.out) NB238_0.out (by simp)); have n3_ := aS_ (KeepBut.trans (by repeat (first | (with_reducible first | exact HK.out | apply KeepBut.set_ | apply keep_drewN | apply keep_drew | apply keep_alloc | refine keep_far ?_ GW237.out _ | refine keep_far ?_ GW238.out _) | exact HK.out)) hk (.inl rfl)); have n4_ := aS_ (hb); have n5_ := aS_ (hi); clear HO_239000; clear BK237; clear BK238; clear HK; clear HB; clear HI0; have HO_239000 := n0_; have BK237 := n1_; have BK238 := n2_; have HK := n3_; have HB := n4_; have HI0 := n5_; clear n0_ n1_ n2_ n3_ n4_ n5_; (try clear hb); (try clear hb2); (try clear hk); (try clear hi); have hnb73 := NB238_237.out; have hnc73 := NB237_238.out; have hnb74 := NB238_0.out; have hnc74 := NB0_238.out; have hcz75_0 : w72.cell? ⟨gb238, 0, none⟩ = some (u239000) := (blk_cell BK238.out 0).trans rfl; have hfz75_0 := blk_frozen BK238.out 0) | ((with_reducible refine gate_builtin (b := .append) (xs := #[.tmp 68, .tmp 70]) rfl ?_); at_builtin; refine Kd.R_append k39 w.heap.size rfl (.tmp 68) (.tmp 70) 23 39 (.agg #[(.int .i64 0), (.int .i64 0)]) 16 rfl Try.underlying23 info39 rfl (by decide) (by omega) u239000 x239000_1 (⟨100, 0⟩ : S39) [.int .i64 100, .int .i64 0] (fun _ => True) (fun _ => False) rfl rfl ?aP (fun _ hk => hk.elim) ?aF ?aO (Below.refl _ _) ?aS ?aL ?_; (case aP => exact k39_mkM _ _ _ (⟨100, 0⟩ : S39)); (case aF => exact (fun _ _ => trivial)); (case aO => exact (by (with_reducible repeat (first | apply rA_ | apply rN_ | apply rD_)); exact HO_239000.out)); (case aS => exact (keep_size (w := w) (g := g) (row := none) (by repeat (first | (with_reducible first | exact HK.out | apply KeepBut.set_ | apply keep_drewN | apply keep_drew | apply keep_alloc | refine keep_far ?_ GW237.out _ | refine keep_far ?_ GW238.out _) | exact HK.out)))); (case aL => have := LMc70.out; omega); intro v274 w76 ho hb hg hat; rw [← Ny273.out] at ho; have n0_ := aS_ (blk_grown (g := gb237) (o := .cells #[.slice none 0 0] 25 (0, 0)) (by (with_reducible repeat (first | refine kN_ ?_ _ | refine kD_ ?_ | refine kA_ ?_ _)); exact BK237.out) hg (Kd.R_ne HO_239000.out BK237.out (by decide))); have n1_ := aS_ (blk_grown (g := gb238) (o := .cells #[u239000] 25 (0, 0)) (by (with_reducible repeat (first | refine kN_ ?_ _ | refine kD_ ?_ | refine kA_ ?_ _)); exact BK238.out) hg (Kd.R_ne HO_239000.out BK238.out (by decide))); have n2_ := aS_ (IsS77.grown (by repeat (first | (with_reducible first | exact HI0.out | apply IsS77.alloc | apply IsS77.drewN | apply IsS77.drew | apply IsS77.set_1 | refine IsS77.far ?_ NB0_237.out _ | refine IsS77.far ?_ NB0_238.out _) | exact HI0.out)) hg (IsS77.own_ne HI0.out HO_239000.out (by decide))); have n3_ := aS_ (below_weaken (by repeat (first | (with_reducible first | exact HB.out | apply bA_ | apply bN_ | apply bD_ | refine below_set ?_ (IsS77.ge HI0.out) | refine below_set ?_ GE237.out | refine below_set ?_ GE238.out) | exact HB.out)) HL.out hb); have n4_ := aS_ (KeepBut.trans (by repeat (first | (with_reducible first | exact HK.out | apply KeepBut.set_ | apply keep_drewN | apply keep_drew | apply keep_alloc | refine keep_far ?_ GW237.out _ | refine keep_far ?_ GW238.out _) | exact HK.out)) (KeepBut.of_grown hg g) (Kd.R_base2 HO_239000.out)); have n5_ := aS_ (ho); clear BK237; clear BK238; clear HI0; clear HB; clear HK; clear HO_239000; have BK237 := n0_; have BK238 := n1_; have HI0 := n2_; have HB := n3_; have HK := n4_; have HO275 := n5_; clear n0_ n1_ n2_ n3_ n4_ n5_; clear ho hb hg hat; obtain ⟨Ao77, co77, eo77⟩ := Kd.R_slice HO275.out; subst eo77; have hcz78_0 : w76.cell? ⟨gb238, 0, none⟩ = some (u239000) := (blk_cell BK238.out 0).trans rfl; have hfz78_0 := blk_frozen BK238.out 0; have hnb79 := NB237_0.out; have hnc79 := NB0_237.out; have hcz80_0 : w76.cell? ⟨gb237, 0, none⟩ = some (.slice none 0 0) := (blk_cell BK237.out 0).trans rfl; have hfz80_0 := blk_frozen BK237.out 0))
                refine bodyPost_ret (results_cell_row rfl _ _ gb237 25 #[.slice Ao77 y273.length co77] (0, 0) _ rfl (by (with_reducible repeat (first | refine kN_ ?_ _ | refine kD_ ?_ | refine kA_ ?_ _)); refine blk_put (cs := #[.slice none 0 0]) ?_ 0 _ rfl; (with_reducible repeat (first | refine kN_ ?_ _ | refine kD_ ?_ | refine kA_ ?_ _)); refine blk_far ?_ NB237_238.out _; (with_reducible repeat (first | refine kN_ ?_ _ | refine kD_ ?_ | refine kA_ ?_ _)); exact BK237.out) Try.underlying25 rfl (by kernel_rfl)) rfl ?_
                exact ⟨_, by first | rfl | (simp [errW_none, errW_some] <;> rfl) | (simp [*, errW_none, errW_some] <;> rfl), by (with_reducible repeat (first | apply rA_ | apply rN_ | apply rD_)); exact rM_ (rF_ (p := ⟨gb237, 0, none⟩) (rF_ (p := ⟨gb238, 0, none⟩) (Kd.R_types (Kd.R_types HO275.out BK238.out (by decide)) BK237.out (by decide)) (fun _ hk => by first | exact hk.1.2 | trivial | simp [hk]) (.slice Ao77 y273.length co77)) (fun _ hk => by first | exact hk.2 | trivial | simp [hk]) (.slice Ao77 y273.length co77)) (fun _ hk => trivial), by repeat (first | (with_reducible first | exact HI0.out | apply IsS77.alloc | apply IsS77.drewN | apply IsS77.drew | apply IsS77.set_1 | refine IsS77.far ?_ NB0_237.out _ | refine IsS77.far ?_ NB0_238.out _) | exact HI0.out), by repeat (first | (with_reducible first | exact HB.out | apply bA_ | apply bN_ | apply bD_ | refine below_set ?_ (IsS77.ge HI0.out) | refine below_set ?_ GE237.out | refine below_set ?_ GE238.out) | exact HB.out), by repeat (first | (with_reducible first | exact HK.out | apply KeepBut.set_ | apply keep_drewN | apply keep_drew | apply keep_alloc | refine keep_far ?_ GW237.out _ | refine keep_far ?_ GW238.out _) | exact HK.out)⟩
              · rw [if_neg c70] at H
                exact absurd H (by simp)
            · rw [if_neg c69] at H
              have c69b0 : (t268 == 1) = false := beq_eq_false_iff_ne.mpr c69
              have c69b1 : (t268 != 1) = true := bne_iff_ne.mpr c69
              by_cases c81 : t268 = 2
              · rw [if_pos c81] at H
                have c81b0 : (t268 == 2) = true := beq_iff_eq.mpr c81
                have c81b1 : (t268 != 2) = false := bne_eq_false_iff_eq.mpr c81
                clear c81
                by_cases c82 : x239000_1.length < 8796093022208
                · rw [if_pos c82] at H
                  have LMc82 := aS_ c82
                  clear c82
                  obtain ⟨y276, hy276⟩ : ∃ y_ : List (S39), y_ = (x239000_1 ++ [(⟨99, (-1)⟩ : S39)]) := ⟨_, rfl⟩
                  replace H : (some (y276, t269)) = some (r1, r2) := by first | (rw [hy276]; with_reducible exact H) | (have H2_ := (Option.bind_some _ _).symm.trans H; rw [hy276]; with_reducible exact H2_) | (have H2_ := (Option.bind_some _ _).symm.trans H; with_reducible exact H2_) | with_reducible exact H | (rw [hy276]; exact H) | exact H
                  have Ny276 := aS_ hy276
                  clear hy276
                  simp only [Option.some.injEq, Prod.mk.injEq] at H
                  obtain ⟨rfl, rfl⟩ := H
                  go_wp2_with (first | ((with_reducible refine gate_callee (f := 63) rfl ?_); refine goesL_ (some 40) rfl rfl Try.func63 (by kernel_rfl) rfl #[.pointer (some ⟨g, 0, none⟩), .int .i64 a1] rfl (by (try simp only [List.map_toArray, List.map_cons, List.map_nil]); first | done | rfl | (simp only [List.length_drop, List.length_take]; rfl)) ?_; (with_reducible refine (spec_l20Rd_odd.calls k1 g s0_0 x1001_1 a1 true t267 w0 _ ?side1 ?side2 A54.out).mono ?_); (case side1 => repeat (first | (with_reducible first | exact HI0.out | apply IsS77.alloc | apply IsS77.drewN | apply IsS77.drew | apply IsS77.set_1 | refine IsS77.far ?_ NB0_237.out _ | refine IsS77.far ?_ NB0_238.out _) | exact HI0.out)); (case side2 => repeat (first | (with_reducible first | exact HB.out | apply bA_ | apply bN_ | apply bD_ | refine below_set ?_ (IsS77.ge HI0.out) | refine below_set ?_ GE237.out | refine below_set ?_ GE238.out) | exact HB.out)); rintro e w83 ⟨rfl, hi, hb, hk⟩; refine ⟨_, rfl, ?_⟩; have n0_ := aS_ (rM_ (Kd.R_keep (IsS77.apart (show IsS77 w0 _ g s0_0 x1001_1 from by repeat (first | (with_reducible first | exact HI0.out | apply IsS77.alloc | apply IsS77.drewN | apply IsS77.drew | apply IsS77.set_1 | refine IsS77.far ?_ NB0_237.out _ | refine IsS77.far ?_ NB0_238.out _) | exact HI0.out)) (by (with_reducible repeat (first | apply rA_ | apply rN_ | apply rD_)); exact HO_239000.out) (by decide)) hk (fun _ h => h.2)) (fun _ h => h.1)); have n1_ := aS_ (KeepBut.blk hk (g' := gb237) (o := .cells #[.slice none 0 0] 25 (0, 0)) (by (with_reducible repeat (first | refine kN_ ?_ _ | refine kD_ ?_ | refine kA_ ?_ _)); exact BK237.out) NB237_0.out (by simp)); have n2_ := aS_ (KeepBut.blk hk (g' := gb238) (o := .cells #[u239000] 25 (0, 0)) (by (with_reducible repeat (first | refine kN_ ?_ _ | refine kD_ ?_ | refine kA_ ?_ _)); exact BK238.out) NB238_0.out (by simp)); have n3_ := aS_ (KeepBut.trans (by repeat (first | (with_reducible first | exact HK.out | apply KeepBut.set_ | apply keep_drewN | apply keep_drew | apply keep_alloc | refine keep_far ?_ GW237.out _ | refine keep_far ?_ GW238.out _) | exact HK.out)) hk (.inl rfl)); have n4_ := aS_ (hb); have n5_ := aS_ (hi); clear HO_239000; clear BK237; clear BK238; clear HK; clear HB; clear HI0; have HO_239000 := n0_; have BK237 := n1_; have BK238 := n2_; have HK := n3_; have HB := n4_; have HI0 := n5_; clear n0_ n1_ n2_ n3_ n4_ n5_; (try clear hb); (try clear hb2); (try clear hk); (try clear hi)) | ((with_reducible refine gate_callee (f := 57) rfl ?_); refine goesL_ (some 42) rfl rfl Try.func57 (by kernel_rfl) rfl #[.pointer (some ⟨g, 0, none⟩), .int .i64 4] rfl (by (try simp only [List.map_toArray, List.map_cons, List.map_nil]); first | done | rfl | (simp only [List.length_drop, List.length_take]; rfl)) ?_; (with_reducible refine (spec_l20Rd_pick.calls k1 g s0_0 t267 4 t268 t269 w0 _ ?side1 ?side2 A56.out).mono ?_); (case side1 => repeat (first | (with_reducible first | exact HI0.out | apply IsS77.alloc | apply IsS77.drewN | apply IsS77.drew | apply IsS77.set_1 | refine IsS77.far ?_ NB0_237.out _ | refine IsS77.far ?_ NB0_238.out _) | exact HI0.out)); (case side2 => repeat (first | (with_reducible first | exact HB.out | apply bA_ | apply bN_ | apply bD_ | refine below_set ?_ (IsS77.ge HI0.out) | refine below_set ?_ GE237.out | refine below_set ?_ GE238.out) | exact HB.out)); rintro e w84 ⟨rfl, hi, hb, hk⟩; refine ⟨_, rfl, ?_⟩; have n0_ := aS_ (rM_ (Kd.R_keep (IsS77.apart (show IsS77 w0 _ g s0_0 t267 from by repeat (first | (with_reducible first | exact HI0.out | apply IsS77.alloc | apply IsS77.drewN | apply IsS77.drew | apply IsS77.set_1 | refine IsS77.far ?_ NB0_237.out _ | refine IsS77.far ?_ NB0_238.out _) | exact HI0.out)) (by (with_reducible repeat (first | apply rA_ | apply rN_ | apply rD_)); exact HO_239000.out) (by decide)) hk (fun _ h => h.2)) (fun _ h => h.1)); have n1_ := aS_ (KeepBut.blk hk (g' := gb237) (o := .cells #[.slice none 0 0] 25 (0, 0)) (by (with_reducible repeat (first | refine kN_ ?_ _ | refine kD_ ?_ | refine kA_ ?_ _)); exact BK237.out) NB237_0.out (by simp)); have n2_ := aS_ (KeepBut.blk hk (g' := gb238) (o := .cells #[u239000] 25 (0, 0)) (by (with_reducible repeat (first | refine kN_ ?_ _ | refine kD_ ?_ | refine kA_ ?_ _)); exact BK238.out) NB238_0.out (by simp)); have n3_ := aS_ (KeepBut.trans (by repeat (first | (with_reducible first | exact HK.out | apply KeepBut.set_ | apply keep_drewN | apply keep_drew | apply keep_alloc | refine keep_far ?_ GW237.out _ | refine keep_far ?_ GW238.out _) | exact HK.out)) hk (.inl rfl)); have n4_ := aS_ (hb); have n5_ := aS_ (hi); clear HO_239000; clear BK237; clear BK238; clear HK; clear HB; clear HI0; have HO_239000 := n0_; have BK237 := n1_; have BK238 := n2_; have HK := n3_; have HB := n4_; have HI0 := n5_; clear n0_ n1_ n2_ n3_ n4_ n5_; (try clear hb); (try clear hb2); (try clear hk); (try clear hi); have hnb85 := NB238_237.out; have hnc85 := NB237_238.out; have hnb86 := NB238_0.out; have hnc86 := NB0_238.out; have hcz87_0 : w84.cell? ⟨gb238, 0, none⟩ = some (u239000) := (blk_cell BK238.out 0).trans rfl; have hfz87_0 := blk_frozen BK238.out 0) | ((with_reducible refine gate_builtin (b := .append) (xs := #[.tmp 76, .tmp 78]) rfl ?_); at_builtin; refine Kd.R_append k39 w.heap.size rfl (.tmp 76) (.tmp 78) 23 39 (.agg #[(.int .i64 0), (.int .i64 0)]) 16 rfl Try.underlying23 info39 rfl (by decide) (by omega) u239000 x239000_1 (⟨99, (-1)⟩ : S39) [.int .i64 99, .int .i64 (-1)] (fun _ => True) (fun _ => False) rfl rfl ?aP (fun _ hk => hk.elim) ?aF ?aO (Below.refl _ _) ?aS ?aL ?_; (case aP => exact k39_mkM _ _ _ (⟨99, (-1)⟩ : S39)); (case aF => exact (fun _ _ => trivial)); (case aO => exact (by (with_reducible repeat (first | apply rA_ | apply rN_ | apply rD_)); exact HO_239000.out)); (case aS => exact (keep_size (w := w) (g := g) (row := none) (by repeat (first | (with_reducible first | exact HK.out | apply KeepBut.set_ | apply keep_drewN | apply keep_drew | apply keep_alloc | refine keep_far ?_ GW237.out _ | refine keep_far ?_ GW238.out _) | exact HK.out)))); (case aL => have := LMc82.out; omega); intro v277 w88 ho hb hg hat; rw [← Ny276.out] at ho; have n0_ := aS_ (blk_grown (g := gb237) (o := .cells #[.slice none 0 0] 25 (0, 0)) (by (with_reducible repeat (first | refine kN_ ?_ _ | refine kD_ ?_ | refine kA_ ?_ _)); exact BK237.out) hg (Kd.R_ne HO_239000.out BK237.out (by decide))); have n1_ := aS_ (blk_grown (g := gb238) (o := .cells #[u239000] 25 (0, 0)) (by (with_reducible repeat (first | refine kN_ ?_ _ | refine kD_ ?_ | refine kA_ ?_ _)); exact BK238.out) hg (Kd.R_ne HO_239000.out BK238.out (by decide))); have n2_ := aS_ (IsS77.grown (by repeat (first | (with_reducible first | exact HI0.out | apply IsS77.alloc | apply IsS77.drewN | apply IsS77.drew | apply IsS77.set_1 | refine IsS77.far ?_ NB0_237.out _ | refine IsS77.far ?_ NB0_238.out _) | exact HI0.out)) hg (IsS77.own_ne HI0.out HO_239000.out (by decide))); have n3_ := aS_ (below_weaken (by repeat (first | (with_reducible first | exact HB.out | apply bA_ | apply bN_ | apply bD_ | refine below_set ?_ (IsS77.ge HI0.out) | refine below_set ?_ GE237.out | refine below_set ?_ GE238.out) | exact HB.out)) HL.out hb); have n4_ := aS_ (KeepBut.trans (by repeat (first | (with_reducible first | exact HK.out | apply KeepBut.set_ | apply keep_drewN | apply keep_drew | apply keep_alloc | refine keep_far ?_ GW237.out _ | refine keep_far ?_ GW238.out _) | exact HK.out)) (KeepBut.of_grown hg g) (Kd.R_base2 HO_239000.out)); have n5_ := aS_ (ho); clear BK237; clear BK238; clear HI0; clear HB; clear HK; clear HO_239000; have BK237 := n0_; have BK238 := n1_; have HI0 := n2_; have HB := n3_; have HK := n4_; have HO278 := n5_; clear n0_ n1_ n2_ n3_ n4_ n5_; clear ho hb hg hat; obtain ⟨Ao89, co89, eo89⟩ := Kd.R_slice HO278.out; subst eo89; have hcz90_0 : w88.cell? ⟨gb238, 0, none⟩ = some (u239000) := (blk_cell BK238.out 0).trans rfl; have hfz90_0 := blk_frozen BK238.out 0; have hnb91 := NB237_0.out; have hnc91 := NB0_237.out; have hcz92_0 : w88.cell? ⟨gb237, 0, none⟩ = some (.slice none 0 0) := (blk_cell BK237.out 0).trans rfl; have hfz92_0 := blk_frozen BK237.out 0))
                  refine bodyPost_ret (results_cell_row rfl _ _ gb237 25 #[.slice Ao89 y276.length co89] (0, 0) _ rfl (by (with_reducible repeat (first | refine kN_ ?_ _ | refine kD_ ?_ | refine kA_ ?_ _)); refine blk_put (cs := #[.slice none 0 0]) ?_ 0 _ rfl; (with_reducible repeat (first | refine kN_ ?_ _ | refine kD_ ?_ | refine kA_ ?_ _)); refine blk_far ?_ NB237_238.out _; (with_reducible repeat (first | refine kN_ ?_ _ | refine kD_ ?_ | refine kA_ ?_ _)); exact BK237.out) Try.underlying25 rfl (by kernel_rfl)) rfl ?_
                  exact ⟨_, by first | rfl | (simp [errW_none, errW_some] <;> rfl) | (simp [*, errW_none, errW_some] <;> rfl), by (with_reducible repeat (first | apply rA_ | apply rN_ | apply rD_)); exact rM_ (rF_ (p := ⟨gb237, 0, none⟩) (rF_ (p := ⟨gb238, 0, none⟩) (Kd.R_types (Kd.R_types HO278.out BK238.out (by decide)) BK237.out (by decide)) (fun _ hk => by first | exact hk.1.2 | trivial | simp [hk]) (.slice Ao89 y276.length co89)) (fun _ hk => by first | exact hk.2 | trivial | simp [hk]) (.slice Ao89 y276.length co89)) (fun _ hk => trivial), by repeat (first | (with_reducible first | exact HI0.out | apply IsS77.alloc | apply IsS77.drewN | apply IsS77.drew | apply IsS77.set_1 | refine IsS77.far ?_ NB0_237.out _ | refine IsS77.far ?_ NB0_238.out _) | exact HI0.out), by repeat (first | (with_reducible first | exact HB.out | apply bA_ | apply bN_ | apply bD_ | refine below_set ?_ (IsS77.ge HI0.out) | refine below_set ?_ GE237.out | refine below_set ?_ GE238.out) | exact HB.out), by repeat (first | (with_reducible first | exact HK.out | apply KeepBut.set_ | apply keep_drewN | apply keep_drew | apply keep_alloc | refine keep_far ?_ GW237.out _ | refine keep_far ?_ GW238.out _) | exact HK.out)⟩
                · rw [if_neg c82] at H
                  exact absurd H (by simp)
              · rw [if_neg c81] at H
                have c81b0 : (t268 == 2) = false := beq_eq_false_iff_ne.mpr c81
                have c81b1 : (t268 != 2) = true := bne_iff_ne.mpr c81
                have H' := aS_ H
                clear H
                go_wp2_with (first | ((with_reducible refine gate_callee (f := 63) rfl ?_); refine goesL_ (some 40) rfl rfl Try.func63 (by kernel_rfl) rfl #[.pointer (some ⟨g, 0, none⟩), .int .i64 a1] rfl (by (try simp only [List.map_toArray, List.map_cons, List.map_nil]); first | done | rfl | (simp only [List.length_drop, List.length_take]; rfl)) ?_; (with_reducible refine (spec_l20Rd_odd.calls k1 g s0_0 x1001_1 a1 true t267 w0 _ ?side1 ?side2 A54.out).mono ?_); (case side1 => repeat (first | (with_reducible first | exact HI0.out | apply IsS77.alloc | apply IsS77.drewN | apply IsS77.drew | apply IsS77.set_1 | refine IsS77.far ?_ NB0_237.out _ | refine IsS77.far ?_ NB0_238.out _) | exact HI0.out)); (case side2 => repeat (first | (with_reducible first | exact HB.out | apply bA_ | apply bN_ | apply bD_ | refine below_set ?_ (IsS77.ge HI0.out) | refine below_set ?_ GE237.out | refine below_set ?_ GE238.out) | exact HB.out)); rintro e w93 ⟨rfl, hi, hb, hk⟩; refine ⟨_, rfl, ?_⟩; have n0_ := aS_ (rM_ (Kd.R_keep (IsS77.apart (show IsS77 w0 _ g s0_0 x1001_1 from by repeat (first | (with_reducible first | exact HI0.out | apply IsS77.alloc | apply IsS77.drewN | apply IsS77.drew | apply IsS77.set_1 | refine IsS77.far ?_ NB0_237.out _ | refine IsS77.far ?_ NB0_238.out _) | exact HI0.out)) (by (with_reducible repeat (first | apply rA_ | apply rN_ | apply rD_)); exact HO_239000.out) (by decide)) hk (fun _ h => h.2)) (fun _ h => h.1)); have n1_ := aS_ (KeepBut.blk hk (g' := gb237) (o := .cells #[.slice none 0 0] 25 (0, 0)) (by (with_reducible repeat (first | refine kN_ ?_ _ | refine kD_ ?_ | refine kA_ ?_ _)); exact BK237.out) NB237_0.out (by simp)); have n2_ := aS_ (KeepBut.blk hk (g' := gb238) (o := .cells #[u239000] 25 (0, 0)) (by (with_reducible repeat (first | refine kN_ ?_ _ | refine kD_ ?_ | refine kA_ ?_ _)); exact BK238.out) NB238_0.out (by simp)); have n3_ := aS_ (KeepBut.trans (by repeat (first | (with_reducible first | exact HK.out | apply KeepBut.set_ | apply keep_drewN | apply keep_drew | apply keep_alloc | refine keep_far ?_ GW237.out _ | refine keep_far ?_ GW238.out _) | exact HK.out)) hk (.inl rfl)); have n4_ := aS_ (hb); have n5_ := aS_ (hi); clear HO_239000; clear BK237; clear BK238; clear HK; clear HB; clear HI0; have HO_239000 := n0_; have BK237 := n1_; have BK238 := n2_; have HK := n3_; have HB := n4_; have HI0 := n5_; clear n0_ n1_ n2_ n3_ n4_ n5_; (try clear hb); (try clear hb2); (try clear hk); (try clear hi)) | ((with_reducible refine gate_callee (f := 57) rfl ?_); refine goesL_ (some 42) rfl rfl Try.func57 (by kernel_rfl) rfl #[.pointer (some ⟨g, 0, none⟩), .int .i64 4] rfl (by (try simp only [List.map_toArray, List.map_cons, List.map_nil]); first | done | rfl | (simp only [List.length_drop, List.length_take]; rfl)) ?_; (with_reducible refine (spec_l20Rd_pick.calls k1 g s0_0 t267 4 t268 t269 w0 _ ?side1 ?side2 A56.out).mono ?_); (case side1 => repeat (first | (with_reducible first | exact HI0.out | apply IsS77.alloc | apply IsS77.drewN | apply IsS77.drew | apply IsS77.set_1 | refine IsS77.far ?_ NB0_237.out _ | refine IsS77.far ?_ NB0_238.out _) | exact HI0.out)); (case side2 => repeat (first | (with_reducible first | exact HB.out | apply bA_ | apply bN_ | apply bD_ | refine below_set ?_ (IsS77.ge HI0.out) | refine below_set ?_ GE237.out | refine below_set ?_ GE238.out) | exact HB.out)); rintro e w94 ⟨rfl, hi, hb, hk⟩; refine ⟨_, rfl, ?_⟩; have n0_ := aS_ (rM_ (Kd.R_keep (IsS77.apart (show IsS77 w0 _ g s0_0 t267 from by repeat (first | (with_reducible first | exact HI0.out | apply IsS77.alloc | apply IsS77.drewN | apply IsS77.drew | apply IsS77.set_1 | refine IsS77.far ?_ NB0_237.out _ | refine IsS77.far ?_ NB0_238.out _) | exact HI0.out)) (by (with_reducible repeat (first | apply rA_ | apply rN_ | apply rD_)); exact HO_239000.out) (by decide)) hk (fun _ h => h.2)) (fun _ h => h.1)); have n1_ := aS_ (KeepBut.blk hk (g' := gb237) (o := .cells #[.slice none 0 0] 25 (0, 0)) (by (with_reducible repeat (first | refine kN_ ?_ _ | refine kD_ ?_ | refine kA_ ?_ _)); exact BK237.out) NB237_0.out (by simp)); have n2_ := aS_ (KeepBut.blk hk (g' := gb238) (o := .cells #[u239000] 25 (0, 0)) (by (with_reducible repeat (first | refine kN_ ?_ _ | refine kD_ ?_ | refine kA_ ?_ _)); exact BK238.out) NB238_0.out (by simp)); have n3_ := aS_ (KeepBut.trans (by repeat (first | (with_reducible first | exact HK.out | apply KeepBut.set_ | apply keep_drewN | apply keep_drew | apply keep_alloc | refine keep_far ?_ GW237.out _ | refine keep_far ?_ GW238.out _) | exact HK.out)) hk (.inl rfl)); have n4_ := aS_ (hb); have n5_ := aS_ (hi); clear HO_239000; clear BK237; clear BK238; clear HK; clear HB; clear HI0; have HO_239000 := n0_; have BK237 := n1_; have BK238 := n2_; have HK := n3_; have HB := n4_; have HI0 := n5_; clear n0_ n1_ n2_ n3_ n4_ n5_; (try clear hb); (try clear hb2); (try clear hk); (try clear hi)))
                go_loopg [] k1 (fun kq w' => ∃ (x239000_2 : List (S39)) (u239000 : Value), Aside0 (spec_l20Map.l1 kq s0_0 t269 x239000_2 = some (r1, r2)) ∧ Aside0 (kq ≤ k1) ∧ Aside0 (Kd.R k39 39 w' w.heap.size (fun _ => True) u239000 x239000_2) ∧ Aside0 (w'.heap[gb237]? = some (.cells #[(.slice none 0 0)] 25 (0, 0))) ∧ Aside0 (w'.heap[gb238]? = some (.cells #[u239000] 25 (0, 0))) ∧ Aside0 (IsS77 w0 w' g s0_0 t269) ∧ Aside0 (KeepBut w w' g none) ∧ Aside0 (Below w0.heap.size w0 w'))
                case atStart => exact ⟨(x239000_1), (u239000), H', ⟨Nat.le_refl _⟩, ⟨by (with_reducible repeat (first | apply rA_ | apply rN_ | apply rD_)); exact HO_239000.out⟩, ⟨by (with_reducible repeat (first | refine kN_ ?_ _ | refine kD_ ?_ | refine kA_ ?_ _)); exact BK237.out⟩, ⟨by (with_reducible repeat (first | refine kN_ ?_ _ | refine kD_ ?_ | refine kA_ ?_ _)); exact BK238.out⟩, ⟨by repeat (first | (with_reducible first | exact HI0.out | apply IsS77.alloc | apply IsS77.drewN | apply IsS77.drew | apply IsS77.set_1 | refine IsS77.far ?_ NB0_237.out _ | refine IsS77.far ?_ NB0_238.out _) | exact HI0.out)⟩, ⟨by repeat (first | (with_reducible first | exact HK.out | apply KeepBut.set_ | apply keep_drewN | apply keep_drew | apply keep_alloc | refine keep_far ?_ GW237.out _ | refine keep_far ?_ GW238.out _) | exact HK.out)⟩, ⟨by repeat (first | (with_reducible first | exact HB.out | apply bA_ | apply bN_ | apply bD_ | refine below_set ?_ (IsS77.ge HI0.out) | refine below_set ?_ GE237.out | refine below_set ?_ GE238.out) | exact HB.out)⟩⟩
                case round =>
                  clear H'
                  try clear c1
                  try clear p2
                  try clear c3
                  try clear c4
                  try clear c5
                  try clear c6
                  try clear p6
                  try clear c7
                  try clear c8
                  try clear c9
                  try clear c10
                  try clear c10b0
                  try clear c14
                  try clear c15
                  try clear c18
                  try clear c19
                  try clear c36
                  try clear c44
                  try clear c45
                  try clear c46
                  try clear c47
                  try clear c50
                  try clear c51
                  try clear c52
                  try clear c55
                  try clear c57
                  try clear c57b0
                  try clear c57b1
                  try clear c58
                  try clear c61
                  try clear c62
                  try clear c63
                  try clear p64
                  try clear c67
                  try clear c69
                  try clear c69b0
                  try clear c69b1
                  try clear c70
                  try clear c73
                  try clear c74
                  try clear c79
                  try clear c81
                  try clear c81b0
                  try clear c81b1
                  try clear c82
                  try clear c85
                  try clear c86
                  try clear c91
                  try clear hcz48_0
                  try clear hcz53_0
                  try clear hcz63_0
                  try clear hcz66_0
                  try clear hcz68_0
                  try clear hcz75_0
                  try clear hcz78_0
                  try clear hcz80_0
                  try clear hcz87_0
                  try clear hcz90_0
                  try clear hcz92_0
                  try clear hfz48_0
                  try clear hfz53_0
                  try clear hfz63_0
                  try clear hfz66_0
                  try clear hfz68_0
                  try clear hfz75_0
                  try clear hfz78_0
                  try clear hfz80_0
                  try clear hfz87_0
                  try clear hfz90_0
                  try clear hfz92_0
                  obtain ⟨x239000_2, u239000, HA, HK2, HO_239000, BK237, BK238, HI0, HK, HB⟩ := hrel
                  cases gk with
                  | zero => exact absurd HA.out (by simp [spec_l20Map.l1])
                  | succ k2 =>
                    have H := HA.out
                    clear HA
                    simp only [spec_l20Map.l1] at H
                    by_cases c95 : (x239000_2.length : Int) ≤ 8
                    · rw [if_pos c95] at H
                      have c95b0 : decide ((x239000_2.length : Int) ≤ 8) = true := decide_eq_true c95
                      have c95b1 : decide (x239000_2.length ≤ 8) = true := decide_eq_true (by omega)
                      clear c95
                      by_cases c96 : x239000_2.length < 8796093022208
                      · rw [if_pos c96] at H
                        have LMc96 := aS_ c96
                        clear c96
                        obtain ⟨y279, hy279⟩ : ∃ y_ : List (S39), y_ = (x239000_2 ++ [(⟨wrap64 (90 + (x239000_2.length : Int)), 0⟩ : S39)]) := ⟨_, rfl⟩
                        replace H : (spec_l20Map.l1 k2 s0_0 t269 y279) = some (r1, r2) := by first | (rw [hy279]; with_reducible exact H) | (have H2_ := (Option.bind_some _ _).symm.trans H; rw [hy279]; with_reducible exact H2_) | (have H2_ := (Option.bind_some _ _).symm.trans H; with_reducible exact H2_) | with_reducible exact H | (rw [hy279]; exact H) | exact H
                        have Ny279 := aS_ hy279
                        clear hy279
                        have H' := aS_ H
                        clear H
                        have hnb97 := NB238_237.out
                        have hnc97 := NB237_238.out
                        have hnb98 := NB238_0.out
                        have hnc98 := NB0_238.out
                        have hcz99_0 : wr.cell? ⟨gb238, 0, none⟩ = some (u239000) := (blk_cell BK238.out 0).trans rfl
                        have hfz99_0 := blk_frozen BK238.out 0
                        obtain ⟨Ao100, co100, eo100⟩ := Kd.R_slice HO_239000.out
                        subst eo100
                        go_wp2_with (first | ((with_reducible refine gate_builtin (b := .append) (xs := #[.tmp 48, .tmp 54]) rfl ?_); at_builtin; refine Kd.R_append k39 w.heap.size rfl (.tmp 48) (.tmp 54) 23 39 (.agg #[(.int .i64 0), (.int .i64 0)]) 16 rfl Try.underlying23 info39 rfl (by decide) (by omega) (.slice Ao100 x239000_2.length co100) x239000_2 (⟨wrap64 (90 + (x239000_2.length : Int)), 0⟩ : S39) [.int .i64 (wrap64 (90 + (x239000_2.length : Int))), .int .i64 0] (fun _ => True) (fun _ => False) rfl rfl ?aP (fun _ hk => hk.elim) ?aF ?aO (Below.refl _ _) ?aS ?aL ?_; (case aP => exact k39_mkM _ _ _ (⟨wrap64 (90 + (x239000_2.length : Int)), 0⟩ : S39)); (case aF => exact (fun _ _ => trivial)); (case aO => exact (by (with_reducible repeat (first | apply rA_ | apply rN_ | apply rD_)); exact HO_239000.out)); (case aS => exact (keep_size (w := w) (g := g) (row := none) (by repeat (first | (with_reducible first | exact HK.out | apply KeepBut.set_ | apply keep_drewN | apply keep_drew | apply keep_alloc | refine keep_far ?_ GW237.out _ | refine keep_far ?_ GW238.out _) | exact HK.out)))); (case aL => have := LMc96.out; omega); intro v280 w101 ho hb hg hat; rw [← Ny279.out] at ho; have n0_ := aS_ (blk_grown (g := gb237) (o := .cells #[.slice none 0 0] 25 (0, 0)) (by (with_reducible repeat (first | refine kN_ ?_ _ | refine kD_ ?_ | refine kA_ ?_ _)); exact BK237.out) hg (Kd.R_ne HO_239000.out BK237.out (by decide))); have n1_ := aS_ (blk_grown (g := gb238) (o := .cells #[.slice Ao100 x239000_2.length co100] 25 (0, 0)) (by (with_reducible repeat (first | refine kN_ ?_ _ | refine kD_ ?_ | refine kA_ ?_ _)); exact BK238.out) hg (Kd.R_ne HO_239000.out BK238.out (by decide))); have n2_ := aS_ (IsS77.grown (by repeat (first | (with_reducible first | exact HI0.out | apply IsS77.alloc | apply IsS77.drewN | apply IsS77.drew | apply IsS77.set_1 | refine IsS77.far ?_ NB0_237.out _ | refine IsS77.far ?_ NB0_238.out _) | exact HI0.out)) hg (IsS77.own_ne HI0.out HO_239000.out (by decide))); have n3_ := aS_ (below_weaken (by repeat (first | (with_reducible first | exact HB.out | apply bA_ | apply bN_ | apply bD_ | refine below_set ?_ (IsS77.ge HI0.out) | refine below_set ?_ GE237.out | refine below_set ?_ GE238.out) | exact HB.out)) HL.out hb); have n4_ := aS_ (KeepBut.trans (by repeat (first | (with_reducible first | exact HK.out | apply KeepBut.set_ | apply keep_drewN | apply keep_drew | apply keep_alloc | refine keep_far ?_ GW237.out _ | refine keep_far ?_ GW238.out _) | exact HK.out)) (KeepBut.of_grown hg g) (Kd.R_base2 HO_239000.out)); have n5_ := aS_ (ho); clear BK237; clear BK238; clear HI0; clear HB; clear HK; clear HO_239000; have BK237 := n0_; have BK238 := n1_; have HI0 := n2_; have HB := n3_; have HK := n4_; have HO281 := n5_; clear n0_ n1_ n2_ n3_ n4_ n5_; clear ho hb hg hat; obtain ⟨Ao102, co102, eo102⟩ := Kd.R_slice HO281.out; subst eo102; have hcz103_0 : w101.cell? ⟨gb238, 0, none⟩ = some (.slice Ao100 x239000_2.length co100) := (blk_cell BK238.out 0).trans rfl; have hfz103_0 := blk_frozen BK238.out 0))
                        go_roundg k2
                        case measure => have := HK1.out; have := HK2.out; omega
                        case rel => exact ⟨(y279), (.slice Ao102 y279.length co102), H', ⟨by have := HK1.out; have := HK2.out; omega⟩, ⟨by (with_reducible repeat (first | apply rA_ | apply rN_ | apply rD_)); exact rM_ (rF_ (p := ⟨gb238, 0, none⟩) (Kd.R_types HO281.out BK238.out (by decide)) (fun _ hk => by first | exact hk.2 | trivial | simp [hk]) (.slice Ao102 y279.length co102)) (fun _ hk => trivial)⟩, ⟨by (with_reducible repeat (first | refine kN_ ?_ _ | refine kD_ ?_ | refine kA_ ?_ _)); refine blk_far ?_ NB237_238.out _; (with_reducible repeat (first | refine kN_ ?_ _ | refine kD_ ?_ | refine kA_ ?_ _)); exact BK237.out⟩, ⟨by (with_reducible repeat (first | refine kN_ ?_ _ | refine kD_ ?_ | refine kA_ ?_ _)); refine blk_put (cs := #[.slice Ao100 x239000_2.length co100]) ?_ 0 _ rfl; (with_reducible repeat (first | refine kN_ ?_ _ | refine kD_ ?_ | refine kA_ ?_ _)); exact BK238.out⟩, ⟨by repeat (first | (with_reducible first | exact HI0.out | apply IsS77.alloc | apply IsS77.drewN | apply IsS77.drew | apply IsS77.set_1 | refine IsS77.far ?_ NB0_237.out _ | refine IsS77.far ?_ NB0_238.out _) | exact HI0.out)⟩, ⟨by repeat (first | (with_reducible first | exact HK.out | apply KeepBut.set_ | apply keep_drewN | apply keep_drew | apply keep_alloc | refine keep_far ?_ GW237.out _ | refine keep_far ?_ GW238.out _) | exact HK.out)⟩, ⟨by repeat (first | (with_reducible first | exact HB.out | apply bA_ | apply bN_ | apply bD_ | refine below_set ?_ (IsS77.ge HI0.out) | refine below_set ?_ GE237.out | refine below_set ?_ GE238.out) | exact HB.out)⟩⟩
                      · rw [if_neg c96] at H
                        exact absurd H (by simp)
                    · rw [if_neg c95] at H
                      have c95b0 : decide ((x239000_2.length : Int) ≤ 8) = false := decide_eq_false c95
                      have c95b1 : decide (x239000_2.length ≤ 8) = false := decide_eq_false (by omega)
                      clear c95
                      simp only [Option.some.injEq, Prod.mk.injEq] at H
                      obtain ⟨rfl, rfl⟩ := H
                      have hnb104 := NB238_237.out
                      have hnc104 := NB237_238.out
                      have hnb105 := NB238_0.out
                      have hnc105 := NB0_238.out
                      have hcz106_0 : wr.cell? ⟨gb238, 0, none⟩ = some (u239000) := (blk_cell BK238.out 0).trans rfl
                      have hfz106_0 := blk_frozen BK238.out 0
                      obtain ⟨Ao107, co107, eo107⟩ := Kd.R_slice HO_239000.out
                      subst eo107
                      have hnb108 := NB237_0.out
                      have hnc108 := NB0_237.out
                      have hcz109_0 : wr.cell? ⟨gb237, 0, none⟩ = some (.slice none 0 0) := (blk_cell BK237.out 0).trans rfl
                      have hfz109_0 := blk_frozen BK237.out 0
                      go_wp2
                      refine bodyPost_ret (results_cell_row rfl _ _ gb237 25 #[.slice Ao107 x239000_2.length co107] (0, 0) _ rfl (by (with_reducible repeat (first | refine kN_ ?_ _ | refine kD_ ?_ | refine kA_ ?_ _)); refine blk_put (cs := #[.slice none 0 0]) ?_ 0 _ rfl; (with_reducible repeat (first | refine kN_ ?_ _ | refine kD_ ?_ | refine kA_ ?_ _)); exact BK237.out) Try.underlying25 rfl (by kernel_rfl)) rfl ?_
                      exact ⟨_, by first | rfl | (simp [errW_none, errW_some] <;> rfl) | (simp [*, errW_none, errW_some] <;> rfl), by (with_reducible repeat (first | apply rA_ | apply rN_ | apply rD_)); exact rM_ (rF_ (p := ⟨gb237, 0, none⟩) (Kd.R_types HO_239000.out BK237.out (by decide)) (fun _ hk => by first | exact hk.2 | trivial | simp [hk]) (.slice Ao107 x239000_2.length co107)) (fun _ hk => trivial), by repeat (first | (with_reducible first | exact HI0.out | apply IsS77.alloc | apply IsS77.drewN | apply IsS77.drew | apply IsS77.set_1 | refine IsS77.far ?_ NB0_237.out _ | refine IsS77.far ?_ NB0_238.out _) | exact HI0.out), by repeat (first | (with_reducible first | exact HB.out | apply bA_ | apply bN_ | apply bD_ | refine below_set ?_ (IsS77.ge HI0.out) | refine below_set ?_ GE237.out | refine below_set ?_ GE238.out) | exact HB.out), by repeat (first | (with_reducible first | exact HK.out | apply KeepBut.set_ | apply keep_drewN | apply keep_drew | apply keep_alloc | refine keep_far ?_ GW237.out _ | refine keep_far ?_ GW238.out _) | exact HK.out)⟩
        · replace c55 := Bool.eq_false_iff.mpr c55
          subst c55
          have H1 : (some (x239000_1, t267)) = some (r1, r2) := by rw [if_neg (show ¬ (false = true) by decide)] at H; exact H
          clear H
          have H := H1
          clear H1
          simp only [Option.some.injEq, Prod.mk.injEq] at H
          obtain ⟨rfl, rfl⟩ := H
          go_wp2_with (first | ((with_reducible refine gate_callee (f := 63) rfl ?_); refine goesL_ (some 40) rfl rfl Try.func63 (by kernel_rfl) rfl #[.pointer (some ⟨g, 0, none⟩), .int .i64 a1] rfl (by (try simp only [List.map_toArray, List.map_cons, List.map_nil]); first | done | rfl | (simp only [List.length_drop, List.length_take]; rfl)) ?_; (with_reducible refine (spec_l20Rd_odd.calls k1 g s0_0 x1001_1 a1 false t267 w0 _ ?side1 ?side2 A54.out).mono ?_); (case side1 => repeat (first | (with_reducible first | exact HI0.out | apply IsS77.alloc | apply IsS77.drewN | apply IsS77.drew | apply IsS77.set_1 | refine IsS77.far ?_ NB0_237.out _ | refine IsS77.far ?_ NB0_238.out _) | exact HI0.out)); (case side2 => repeat (first | (with_reducible first | exact HB.out | apply bA_ | apply bN_ | apply bD_ | refine below_set ?_ (IsS77.ge HI0.out) | refine below_set ?_ GE237.out | refine below_set ?_ GE238.out) | exact HB.out)); rintro e w110 ⟨rfl, hi, hb, hk⟩; refine ⟨_, rfl, ?_⟩; have n0_ := aS_ (rM_ (Kd.R_keep (IsS77.apart (show IsS77 w0 _ g s0_0 x1001_1 from by repeat (first | (with_reducible first | exact HI0.out | apply IsS77.alloc | apply IsS77.drewN | apply IsS77.drew | apply IsS77.set_1 | refine IsS77.far ?_ NB0_237.out _ | refine IsS77.far ?_ NB0_238.out _) | exact HI0.out)) (by (with_reducible repeat (first | apply rA_ | apply rN_ | apply rD_)); exact HO_239000.out) (by decide)) hk (fun _ h => h.2)) (fun _ h => h.1)); have n1_ := aS_ (KeepBut.blk hk (g' := gb237) (o := .cells #[.slice none 0 0] 25 (0, 0)) (by (with_reducible repeat (first | refine kN_ ?_ _ | refine kD_ ?_ | refine kA_ ?_ _)); exact BK237.out) NB237_0.out (by simp)); have n2_ := aS_ (KeepBut.blk hk (g' := gb238) (o := .cells #[u239000] 25 (0, 0)) (by (with_reducible repeat (first | refine kN_ ?_ _ | refine kD_ ?_ | refine kA_ ?_ _)); exact BK238.out) NB238_0.out (by simp)); have n3_ := aS_ (KeepBut.trans (by repeat (first | (with_reducible first | exact HK.out | apply KeepBut.set_ | apply keep_drewN | apply keep_drew | apply keep_alloc | refine keep_far ?_ GW237.out _ | refine keep_far ?_ GW238.out _) | exact HK.out)) hk (.inl rfl)); have n4_ := aS_ (hb); have n5_ := aS_ (hi); clear HO_239000; clear BK237; clear BK238; clear HK; clear HB; clear HI0; have HO_239000 := n0_; have BK237 := n1_; have BK238 := n2_; have HK := n3_; have HB := n4_; have HI0 := n5_; clear n0_ n1_ n2_ n3_ n4_ n5_; (try clear hb); (try clear hb2); (try clear hk); (try clear hi); have hnb111 := NB238_237.out; have hnc111 := NB237_238.out; have hnb112 := NB238_0.out; have hnc112 := NB0_238.out; have hcz113_0 : w110.cell? ⟨gb238, 0, none⟩ = some (u239000) := (blk_cell BK238.out 0).trans rfl; have hfz113_0 := blk_frozen BK238.out 0; obtain ⟨Ao114, co114, eo114⟩ := Kd.R_slice HO_239000.out; subst eo114; have hnb115 := NB237_0.out; have hnc115 := NB0_237.out; have hcz116_0 : w110.cell? ⟨gb237, 0, none⟩ = some (.slice none 0 0) := (blk_cell BK237.out 0).trans rfl; have hfz116_0 := blk_frozen BK237.out 0))
          refine bodyPost_ret (results_cell_row rfl _ _ gb237 25 #[.slice Ao114 x239000_1.length co114] (0, 0) _ rfl (by (with_reducible repeat (first | refine kN_ ?_ _ | refine kD_ ?_ | refine kA_ ?_ _)); refine blk_put (cs := #[.slice none 0 0]) ?_ 0 _ rfl; (with_reducible repeat (first | refine kN_ ?_ _ | refine kD_ ?_ | refine kA_ ?_ _)); exact BK237.out) Try.underlying25 rfl (by kernel_rfl)) rfl ?_
          exact ⟨_, by first | rfl | (simp [errW_none, errW_some] <;> rfl) | (simp [*, errW_none, errW_some] <;> rfl), by (with_reducible repeat (first | apply rA_ | apply rN_ | apply rD_)); exact rM_ (rF_ (p := ⟨gb237, 0, none⟩) (Kd.R_types HO_239000.out BK237.out (by decide)) (fun _ hk => by first | exact hk.2 | trivial | simp [hk]) (.slice Ao114 x239000_1.length co114)) (fun _ hk => trivial), by repeat (first | (with_reducible first | exact HI0.out | apply IsS77.alloc | apply IsS77.drewN | apply IsS77.drew | apply IsS77.set_1 | refine IsS77.far ?_ NB0_237.out _ | refine IsS77.far ?_ NB0_238.out _) | exact HI0.out), by repeat (first | (with_reducible first | exact HB.out | apply bA_ | apply bN_ | apply bD_ | refine below_set ?_ (IsS77.ge HI0.out) | refine below_set ?_ GE237.out | refine below_set ?_ GE238.out) | exact HB.out), by repeat (first | (with_reducible first | exact HK.out | apply KeepBut.set_ | apply keep_drewN | apply keep_drew | apply keep_alloc | refine keep_far ?_ GW237.out _ | refine keep_far ?_ GW238.out _) | exact HK.out)⟩

end Go.Proofs.Ytabihpjgkkmnjaa.GFnMapPut
