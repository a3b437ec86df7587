/- The functions that the law reaches, as plain Lean functions, and that the machine comes to their answers: laid by a program of this session. Conditions: none. -/
import Derived.Test.YtenehkjbopdapaaGFnArnNewx0
import Derived.Test.YtenehkjbopdapaaGFnArnNewx3
import Derived.Test.YtenehkjbopdapaaGFnArnNewx4
import Derived.Test.YtenehkjbopdapaaTAPMap
import Derived.Test.YtenehkjbopdapaaTAPCat
namespace Go.Proofs.Ytenehkjbopdapaa.GFnArnNew
open Go.RowKit Go.Proofs.YtenehkjbopdapaaW.PrintWords Go.Proofs.YtenehkjbopdapaaW.PrintLast Go.Proofs.YtenehkjbopdapaaW.PrintMore
attribute [local go_sem] max2_int min2_int max_two min_two max_three min_three max_four min_four   -- for this text's walks alone
set_option linter.unusedVariables false
set_option linter.unusedSimpArgs false

theorem hasE_l0 (xs : List Int) (x : Int) : ∀ (k i : Nat) (r : Bool), i < 9223372036854775808 → spec_l2Has.l0 k xs x (i : Int) = some r → decide (x ∈ xs.drop i) = r
  | 0, _, _, _, h => by simp [spec_l2Has.l0] at h
  | k + 1, i, r, hi, h => by
    simp only [spec_l2Has.l0] at h
    by_cases hl : (i : Int) < xs.length
    · have hl' : i < xs.length := by omega
      rw [if_pos hl, if_pos (by omega)] at h
      have e : rd xs (i : Int) = xs[i] := by simp [rd, hl']
      rw [List.drop_eq_getElem_cons hl']
      by_cases he : rd xs (i : Int) = x
      · rw [if_pos he] at h
        injection h with h
        subst h
        exact decide_eq_true (by rw [← he, e]; exact List.mem_cons_self)
      · rw [if_neg he] at h
        by_cases hw : i + 1 < 9223372036854775808
        · rw [show wrap64 ((i : Int) + 1) = ((i + 1 : Nat) : Int) by unfold wrap64; omega] at h
          rw [← hasE_l0 xs x k (i + 1) r hw h]
          refine decide_eq_decide.2 ⟨fun hm => ?_, fun hm => List.mem_cons_of_mem _ hm⟩
          rcases List.mem_cons.1 hm with hm | hm
          · exact absurd (by rw [e]; exact hm.symm) he
          · exact hm
        · have hneg : wrap64 ((i : Int) + 1) < 0 := by unfold wrap64; omega
          cases k with
          | zero => simp [spec_l2Has.l0] at h
          | succ k =>
            simp only [spec_l2Has.l0] at h
            rw [if_pos (by omega), if_neg (by omega)] at h
            cases h
    · rw [if_neg hl] at h
      injection h with h
      subst h
      rw [List.drop_eq_nil_of_le (by omega)]
      exact decide_eq_false (by simp)
theorem hasE_ {k : Nat} {xs : List Int} {x : Int} {r : Bool} (h : spec_l2Has.f k xs x = some r) : decide (x ∈ xs) = r := by
  have := hasE_l0 xs x k 0 r (by omega) h
  rwa [List.drop_zero] at this
def hasW_ (k : Nat) (xs : List Int) (x : Int) : Option Bool := if (Lit.int .i64 x).wf = true then spec_l2Has.f k xs x else none
theorem hasW_mono : ∀ xs x k, LeO (hasW_ k xs x) (hasW_ (k + 1) xs x) := by
  intro xs x k
  unfold hasW_
  split
  · exact spec_l2Has.mono _ _ _
  · exact LeO.none _
theorem hasW_wf {k : Nat} {xs : List Int} {x : Int} {r : Bool} (h : hasW_ k xs x = some r) : (Lit.int .i64 x).wf = true := by
  unfold hasW_ at h
  split at h
  · assumption
  · cases h
theorem hasW_has {k : Nat} {xs : List Int} {x : Int} {r : Bool} (h : hasW_ k xs x = some r) : decide (x ∈ xs) = r := by
  unfold hasW_ at h
  split at h
  · exact hasE_ h
  · cases h
/-! ### impl_ArnOk: function 10 -/
mutual
def impl_ArnOk.j0 : Nat → List Int → List Int → List Int → Bool → List (S62) → Int → Int → Int → Option (Bool)
  | 0, _, _, _, _, _, _, _, _ => none
  | k + 1, x3, x4, x5, x37, x141000, x141001, x141002, x141003 => if x37 = true then (some false) else ((some (([] : List Int) : List Int)).bind fun y157 => (if y157.length + x3.length < 17592186044416 then ((some (y157 ++ x3 : List Int)).bind fun y160 => (if y160.length + x4.length < 17592186044416 then ((some (y160 ++ x4 : List Int)).bind fun y163 => (if y163.length + x5.length < 17592186044416 then ((some (y163 ++ x5 : List Int)).bind fun y166 => (impl_ArnOk.l0 k x3 x4 x5 (([] : List Int)) y166 (y166.length : Int) 0 x141000 x141001 x141002 x141003)) else (none))) else (none))) else (none)))
def impl_ArnOk.l0 : Nat → List Int → List Int → List Int → List Int → List Int → Int → Int → List (S62) → Int → Int → Int → Option (Bool)
  | 0, _, _, _, _, _, _, _, _, _, _, _ => none
  | k + 1, x3, x4, x5, x6, x43, x44, x45, x141000, x141001, x141002, x141003 => if x45 < x44 then (if 0 ≤ x45 then (if x45 < (x43.length : Int) then ((hasW_ k x6 (rd x43 x45)).bind fun t170 => (if t170 = true then (some false) else (if 0 ≤ (rd x43 x45) then (if (rd x43 x45) < (x141000.length : Int) then (if ((rd_T62 x141000 (rd x43 x45)).f4 = true) then (if x6.length < 17592186044416 then (impl_ArnOk.l0 k x3 x4 x5 (x6 ++ [rd x43 x45]) x43 x44 (wrap64 (x45 + 1)) x141000 x141001 x141002 x141003) else (none)) else (some false)) else (none)) else (none)))) else (none)) else (none)) else (impl_ArnOk.l1 k x3 x4 x5 1 x141000 x141001 x141002 x141003)
def impl_ArnOk.l1 : Nat → List Int → List Int → List Int → Int → List (S62) → Int → Int → Int → Option (Bool)
  | 0, _, _, _, _, _, _, _, _ => none
  | k + 1, x3, x4, x5, x9, x141000, x141001, x141002, x141003 => if x9 < (x3.length : Int) then (if 0 ≤ (wrap64 (x9 - 1)) then (if (wrap64 (x9 - 1)) < (x3.length : Int) then (if 0 ≤ (rd x3 (wrap64 (x9 - 1))) then (if (rd x3 (wrap64 (x9 - 1))) < (x141000.length : Int) then (if 0 ≤ x9 then (if 0 ≤ (rd x3 x9) then (if (rd x3 x9) < (x141000.length : Int) then (if ((rd_T62 x141000 (rd x3 (wrap64 (x9 - 1)))).f0) ≥ ((rd_T62 x141000 (rd x3 x9)).f0) then (some false) else (impl_ArnOk.l1 k x3 x4 x5 (wrap64 (x9 + 1)) x141000 x141001 x141002 x141003)) else (none)) else (none)) else (none)) else (none)) else (none)) else (none)) else (none)) else ((some (([] : List Int) : List Int)).bind fun y179 => (if y179.length + x4.length < 17592186044416 then ((some (y179 ++ x4 : List Int)).bind fun y182 => (if y182.length + x5.length < 17592186044416 then ((some (y182 ++ x5 : List Int)).bind fun y185 => (impl_ArnOk.l2 k x5 y185 (y185.length : Int) 0 x141000 x141001 x141002 x141003)) else (none))) else (none)))
def impl_ArnOk.l2 : Nat → List Int → List Int → Int → Int → List (S62) → Int → Int → Int → Option (Bool)
  | 0, _, _, _, _, _, _, _, _ => none
  | k + 1, x5, x93, x94, x95, x141000, x141001, x141002, x141003 => if x95 < x94 then (if 0 ≤ x95 then (if x95 < (x93.length : Int) then (if 0 ≤ (rd x93 x95) then (if (rd x93 x95) < (x141000.length : Int) then ((impl_WrdMark.f ((rd_T62 x141000 (rd x93 x95)).f2)).bind fun t190 => (if t190 = true then (some false) else (impl_ArnOk.l2 k x5 x93 x94 (wrap64 (x95 + 1)) x141000 x141001 x141002 x141003))) else (none)) else (none)) else (none)) else (none)) else (if 0 ≤ (wrap64 ((x5.length : Int) - 1)) then (if (wrap64 ((x5.length : Int) - 1)) < (x5.length : Int) then (if (rd x5 (wrap64 ((x5.length : Int) - 1))) = x141003 then (some true) else (if (x5.length : Int) > 1 then (if 0 ≤ (wrap64 ((x5.length : Int) - 2)) then (if (wrap64 ((x5.length : Int) - 2)) < (x5.length : Int) then (some ((rd x5 (wrap64 ((x5.length : Int) - 2))) == x141003)) else (none)) else (none)) else (some false))) else (none)) else (none))
end
def impl_ArnOk.f (k : Nat) (l0_0 : List (S62)) (a0_1 : Int) (a0_2 : Int) (a0_3 : Int) : Option (Bool) := (impl_ArnArena_shaped.f k l0_0 a0_1 a0_2 a0_3).bind fun t141 => (if t141 = true then ((impl_ArnChain.f k l0_0 a0_1 a0_2 a0_3).bind fun t142 => ((impl_ArnStacked.f k l0_0 a0_1 a0_2 a0_3).bind fun t145 => ((impl_ArnQueued.f k l0_0 a0_1 a0_2 a0_3).bind fun t148 => ((impl_ArnArena_ends.f l0_0 a0_1 a0_2 a0_3 t142).bind fun t151 => (if t151 = true then ((impl_ArnArena_ends.f l0_0 a0_1 a0_2 a0_3 t145).bind fun t152 => (if t152 = true then ((impl_ArnArena_ends.f l0_0 a0_1 a0_2 a0_3 t148).bind fun t153 => (impl_ArnOk.j0 k t142 t145 t148 (!t153) l0_0 a0_1 a0_2 a0_3)) else (impl_ArnOk.j0 k t142 t145 t148 true l0_0 a0_1 a0_2 a0_3))) else (impl_ArnOk.j0 k t142 t145 t148 true l0_0 a0_1 a0_2 a0_3)))))) else (some false))
theorem impl_ArnOk.mono_l : ∀ k, (∀ y0 y1 y2 y3 y4 y5 y6 y7, LeO (impl_ArnOk.j0 k y0 y1 y2 y3 y4 y5 y6 y7) (impl_ArnOk.j0 (k + 1) y0 y1 y2 y3 y4 y5 y6 y7)) ∧ (∀ y0 y1 y2 y3 y4 y5 y6 y7 y8 y9 y10, LeO (impl_ArnOk.l0 k y0 y1 y2 y3 y4 y5 y6 y7 y8 y9 y10) (impl_ArnOk.l0 (k + 1) y0 y1 y2 y3 y4 y5 y6 y7 y8 y9 y10)) ∧ (∀ y0 y1 y2 y3 y4 y5 y6 y7, LeO (impl_ArnOk.l1 k y0 y1 y2 y3 y4 y5 y6 y7) (impl_ArnOk.l1 (k + 1) y0 y1 y2 y3 y4 y5 y6 y7)) ∧ (∀ y0 y1 y2 y3 y4 y5 y6 y7, LeO (impl_ArnOk.l2 k y0 y1 y2 y3 y4 y5 y6 y7) (impl_ArnOk.l2 (k + 1) y0 y1 y2 y3 y4 y5 y6 y7))
  | 0 => ⟨fun _ _ _ _ _ _ _ _ r h => by simp [impl_ArnOk.j0] at h, fun _ _ _ _ _ _ _ _ _ _ _ r h => by simp [impl_ArnOk.l0] at h, fun _ _ _ _ _ _ _ _ r h => by simp [impl_ArnOk.l1] at h, fun _ _ _ _ _ _ _ _ r h => by simp [impl_ArnOk.l2] at h⟩
  | k + 1 => by
    obtain ⟨ih0, ih1, ih2, ih3⟩ := impl_ArnOk.mono_l k
    refine ⟨?_, ?_, ?_, ?_⟩
    · intro y0 y1 y2 y3 y4 y5 y6 y7
      unfold impl_ArnOk.j0
      repeat' first
      | (with_reducible exact ih0 _ _ _ _ _ _ _ _)
      | (with_reducible exact ih1 _ _ _ _ _ _ _ _ _ _ _)
      | (with_reducible exact ih2 _ _ _ _ _ _ _ _)
      | (with_reducible exact ih3 _ _ _ _ _ _ _ _)
      | (with_reducible exact impl_ArnArena_shaped.mono _ _ _ _ _)
      | (with_reducible exact impl_ArnChain.mono _ _ _ _ _)
      | (with_reducible exact impl_ArnQueued.mono _ _ _ _ _)
      | (with_reducible exact impl_ArnStacked.mono _ _ _ _ _)
      | (with_reducible exact hasW_mono _ _ _)
      | (with_reducible exact LeO.refl _)
      | (with_reducible exact LeO.none _)
      | (with_reducible refine LeO.ite ?_ ?_)
      | (with_reducible refine LeO.bind ?_ (fun _ => ?_))
      | exact ih0 _ _ _ _ _ _ _ _
      | exact ih1 _ _ _ _ _ _ _ _ _ _ _
      | exact ih2 _ _ _ _ _ _ _ _
      | exact ih3 _ _ _ _ _ _ _ _
      | exact impl_ArnArena_shaped.mono _ _ _ _ _
      | exact impl_ArnChain.mono _ _ _ _ _
      | exact impl_ArnQueued.mono _ _ _ _ _
      | exact impl_ArnStacked.mono _ _ _ _ _
      | exact hasW_mono _ _ _
      | exact LeO.none _
      | refine LeO.ite ?_ ?_
      | refine LeO.bind ?_ (fun _ => ?_)
    · intro y0 y1 y2 y3 y4 y5 y6 y7 y8 y9 y10
      unfold impl_ArnOk.l0
      repeat' first
      | (with_reducible exact ih0 _ _ _ _ _ _ _ _)
      | (with_reducible exact ih1 _ _ _ _ _ _ _ _ _ _ _)
      | (with_reducible exact ih2 _ _ _ _ _ _ _ _)
      | (with_reducible exact ih3 _ _ _ _ _ _ _ _)
      | (with_reducible exact impl_ArnArena_shaped.mono _ _ _ _ _)
      | (with_reducible exact impl_ArnChain.mono _ _ _ _ _)
      | (with_reducible exact impl_ArnQueued.mono _ _ _ _ _)
      | (with_reducible exact impl_ArnStacked.mono _ _ _ _ _)
      | (with_reducible exact hasW_mono _ _ _)
      | (with_reducible exact LeO.refl _)
      | (with_reducible exact LeO.none _)
      | (with_reducible refine LeO.ite ?_ ?_)
      | (with_reducible refine LeO.bind ?_ (fun _ => ?_))
      | exact ih0 _ _ _ _ _ _ _ _
      | exact ih1 _ _ _ _ _ _ _ _ _ _ _
      | exact ih2 _ _ _ _ _ _ _ _
      | exact ih3 _ _ _ _ _ _ _ _
      | exact impl_ArnArena_shaped.mono _ _ _ _ _
      | exact impl_ArnChain.mono _ _ _ _ _
      | exact impl_ArnQueued.mono _ _ _ _ _
      | exact impl_ArnStacked.mono _ _ _ _ _
      | exact hasW_mono _ _ _
      | exact LeO.none _
      | refine LeO.ite ?_ ?_
      | refine LeO.bind ?_ (fun _ => ?_)
    · intro y0 y1 y2 y3 y4 y5 y6 y7
      unfold impl_ArnOk.l1
      repeat' first
      | (with_reducible exact ih0 _ _ _ _ _ _ _ _)
      | (with_reducible exact ih1 _ _ _ _ _ _ _ _ _ _ _)
      | (with_reducible exact ih2 _ _ _ _ _ _ _ _)
      | (with_reducible exact ih3 _ _ _ _ _ _ _ _)
      | (with_reducible exact impl_ArnArena_shaped.mono _ _ _ _ _)
      | (with_reducible exact impl_ArnChain.mono _ _ _ _ _)
      | (with_reducible exact impl_ArnQueued.mono _ _ _ _ _)
      | (with_reducible exact impl_ArnStacked.mono _ _ _ _ _)
      | (with_reducible exact hasW_mono _ _ _)
      | (with_reducible exact LeO.refl _)
      | (with_reducible exact LeO.none _)
      | (with_reducible refine LeO.ite ?_ ?_)
      | (with_reducible refine LeO.bind ?_ (fun _ => ?_))
      | exact ih0 _ _ _ _ _ _ _ _
      | exact ih1 _ _ _ _ _ _ _ _ _ _ _
      | exact ih2 _ _ _ _ _ _ _ _
      | exact ih3 _ _ _ _ _ _ _ _
      | exact impl_ArnArena_shaped.mono _ _ _ _ _
      | exact impl_ArnChain.mono _ _ _ _ _
      | exact impl_ArnQueued.mono _ _ _ _ _
      | exact impl_ArnStacked.mono _ _ _ _ _
      | exact hasW_mono _ _ _
      | exact LeO.none _
      | refine LeO.ite ?_ ?_
      | refine LeO.bind ?_ (fun _ => ?_)
    · intro y0 y1 y2 y3 y4 y5 y6 y7
      unfold impl_ArnOk.l2
      repeat' first
      | (with_reducible exact ih0 _ _ _ _ _ _ _ _)
      | (with_reducible exact ih1 _ _ _ _ _ _ _ _ _ _ _)
      | (with_reducible exact ih2 _ _ _ _ _ _ _ _)
      | (with_reducible exact ih3 _ _ _ _ _ _ _ _)
      | (with_reducible exact impl_ArnArena_shaped.mono _ _ _ _ _)
      | (with_reducible exact impl_ArnChain.mono _ _ _ _ _)
      | (with_reducible exact impl_ArnQueued.mono _ _ _ _ _)
      | (with_reducible exact impl_ArnStacked.mono _ _ _ _ _)
      | (with_reducible exact hasW_mono _ _ _)
      | (with_reducible exact LeO.refl _)
      | (with_reducible exact LeO.none _)
      | (with_reducible refine LeO.ite ?_ ?_)
      | (with_reducible refine LeO.bind ?_ (fun _ => ?_))
      | exact ih0 _ _ _ _ _ _ _ _
      | exact ih1 _ _ _ _ _ _ _ _ _ _ _
      | exact ih2 _ _ _ _ _ _ _ _
      | exact ih3 _ _ _ _ _ _ _ _
      | exact impl_ArnArena_shaped.mono _ _ _ _ _
      | exact impl_ArnChain.mono _ _ _ _ _
      | exact impl_ArnQueued.mono _ _ _ _ _
      | exact impl_ArnStacked.mono _ _ _ _ _
      | exact hasW_mono _ _ _
      | exact LeO.none _
      | refine LeO.ite ?_ ?_
      | refine LeO.bind ?_ (fun _ => ?_)
theorem impl_ArnOk.mono : ∀ a0 a1 a2 a3 k, LeO (impl_ArnOk.f k a0 a1 a2 a3) (impl_ArnOk.f (k + 1) a0 a1 a2 a3) := by
  intro a0 a1 a2 a3 k
  obtain ⟨ih0, ih1, ih2, ih3⟩ := impl_ArnOk.mono_l k
  unfold impl_ArnOk.f
  repeat' first
      | (with_reducible exact ih0 _ _ _ _ _ _ _ _)
      | (with_reducible exact ih1 _ _ _ _ _ _ _ _ _ _ _)
      | (with_reducible exact ih2 _ _ _ _ _ _ _ _)
      | (with_reducible exact ih3 _ _ _ _ _ _ _ _)
      | (with_reducible exact impl_ArnArena_shaped.mono _ _ _ _ _)
      | (with_reducible exact impl_ArnChain.mono _ _ _ _ _)
      | (with_reducible exact impl_ArnQueued.mono _ _ _ _ _)
      | (with_reducible exact impl_ArnStacked.mono _ _ _ _ _)
      | (with_reducible exact hasW_mono _ _ _)
      | (with_reducible exact LeO.refl _)
      | (with_reducible exact LeO.none _)
      | (with_reducible refine LeO.ite ?_ ?_)
      | (with_reducible refine LeO.bind ?_ (fun _ => ?_))
      | exact ih0 _ _ _ _ _ _ _ _
      | exact ih1 _ _ _ _ _ _ _ _ _ _ _
      | exact ih2 _ _ _ _ _ _ _ _
      | exact ih3 _ _ _ _ _ _ _ _
      | exact impl_ArnArena_shaped.mono _ _ _ _ _
      | exact impl_ArnChain.mono _ _ _ _ _
      | exact impl_ArnQueued.mono _ _ _ _ _
      | exact impl_ArnStacked.mono _ _ _ _ _
      | exact hasW_mono _ _ _
      | exact LeO.none _
      | refine LeO.ite ?_ ?_
      | refine LeO.bind ?_ (fun _ => ?_)
def impl_ArnOk.T3 : Bool × List (List Nat × List Nat) := (true, [([], []), ([0], [0]), ([], []), ([2, 1], [2]), ([], []), ([4, 3], [4]), ([1, 5, 0, 1], [1]), ([3, 6, 0, 1, 2, 3, 6], [3]), ([5, 7, 0, 1, 2, 3, 4, 5, 6, 7], [5])])
def impl_ArnOk.B3 : List Nat := [0, 1, 0, 7, 0, 31, 63, 127, 255]
theorem impl_ArnOk.tab3 : rtab .any (opsOf Try.f10 3) = impl_ArnOk.T3 := by kernel_rfl
theorem impl_ArnOk.bits3 : waitsOk impl_ArnOk.T3.2 impl_ArnOk.B3 = true := by kernel_rfl
def impl_ArnOk.T17 : Bool × List (List Nat × List Nat) := (true, [([], []), ([0], [0]), ([], []), ([], []), ([3], [3]), ([2, 4], [2, 4]), ([5], [5]), ([1, 6], [1, 6]), ([7], [7]), ([8], [8]), ([], []), ([10], [10]), ([], []), ([], []), ([12, 13], [12, 13]), ([14], [14]), ([11, 15], [11, 15]), ([16], [16]), ([17], [17]), ([9, 18], [9, 18])])
def impl_ArnOk.B17 : List Nat := [0, 1, 0, 0, 8, 28, 60, 127, 255, 511, 0, 1024, 0, 0, 12288, 28672, 64512, 130048, 261120, 524287]
theorem impl_ArnOk.tab17 : rtab .any (opsOf Try.f10 17) = impl_ArnOk.T17 := by kernel_rfl
theorem impl_ArnOk.bits17 : waitsOk impl_ArnOk.T17.2 impl_ArnOk.B17 = true := by kernel_rfl
def impl_ArnOk.T26 : Bool × List (List Nat × List Nat) := (true, [([], []), ([], []), ([1], [1]), ([0, 2], [0, 2]), ([3], [3]), ([], []), ([5], [5]), ([4, 6], [4, 6]), ([7], [7]), ([8], [8]), ([9, 8], [8, 9]), ([10, 8, 8], [8, 10]), ([11], [11]), ([11], [11]), ([13, 11], [11, 13]), ([12, 14, 11], [11, 12, 14]), ([15, 11], [11, 15]), ([11], [11]), ([17, 11], [11, 17]), ([16, 18, 11], [11, 16, 18]), ([11, 19, 8], [8, 11, 19]), ([8, 20], [8, 20]), ([21, 11, 0, 1, 2, 3, 4, 5, 6, 7, 8, 9, 10, 11, 12, 13, 14, 15, 16, 17, 18, 19, 20, 21], [21])])
def impl_ArnOk.B26 : List Nat := [0, 0, 2, 7, 15, 0, 32, 127, 255, 511, 1023, 2047, 4095, 4095, 12287, 32767, 65535, 4095, 135167, 524287, 1048575, 2097151, 4194303]
theorem impl_ArnOk.tab26 : rtab .any (opsOf Try.f10 26) = impl_ArnOk.T26 := by kernel_rfl
theorem impl_ArnOk.bits26 : waitsOk impl_ArnOk.T26.2 impl_ArnOk.B26 = true := by kernel_rfl
set_option maxHeartbeats 8000000 in
set_option maxRecDepth 100000 in
theorem impl_ArnOk.calls (k : Nat) (A0_0 : Option Addr) (c0_0 : Nat) (l0_0 : List (S62)) (a0_1 : Int) (a0_2 : Int) (a0_3 : Int) (r : Bool) (w : World) (hr0_0 : Kd.C k62 w A0_0 l0_0.length l0_0) (hc0_0 : l0_0.length ≤ c0_0) (h : impl_ArnOk.f k l0_0 a0_1 a0_2 a0_3 = some r) :
    Calls Try.prog 10 #[.agg #[.slice A0_0 l0_0.length c0_0, .int .i64 a0_1, .int .i64 a0_2, .int .i64 a0_3]] w fun e w' => e = .returned (.bool r) ∧ Below w.heap.size w w' := by
  have hu29 := Try.underlying29
  have HR0_0 := Aside0.mk hr0_0
  have HC0_0 := Aside0.mk hc0_0
  clear hr0_0 hc0_0
  have HB := Aside0.mk (Below.refl w.heap.size w)
  have H : ((impl_ArnArena_shaped.f k l0_0 a0_1 a0_2 a0_3).bind fun t141 => (if t141 = true then ((impl_ArnChain.f k l0_0 a0_1 a0_2 a0_3).bind fun t142 => ((impl_ArnStacked.f k l0_0 a0_1 a0_2 a0_3).bind fun t145 => ((impl_ArnQueued.f k l0_0 a0_1 a0_2 a0_3).bind fun t148 => ((impl_ArnArena_ends.f l0_0 a0_1 a0_2 a0_3 t142).bind fun t151 => (if t151 = true then ((impl_ArnArena_ends.f l0_0 a0_1 a0_2 a0_3 t145).bind fun t152 => (if t152 = true then ((impl_ArnArena_ends.f l0_0 a0_1 a0_2 a0_3 t148).bind fun t153 => (impl_ArnOk.j0 k t142 t145 t148 (!t153) l0_0 a0_1 a0_2 a0_3)) else (impl_ArnOk.j0 k t142 t145 t148 true l0_0 a0_1 a0_2 a0_3))) else (impl_ArnOk.j0 k t142 t145 t148 true l0_0 a0_1 a0_2 a0_3)))))) else (some false))) = some r := h
  clear h
  replace H := Option.bind_eq_some_iff.mp H
  obtain ⟨t141, A20, H⟩ := H
  replace H : (if t141 = true then ((impl_ArnChain.f k l0_0 a0_1 a0_2 a0_3).bind fun t142 => ((impl_ArnStacked.f k l0_0 a0_1 a0_2 a0_3).bind fun t145 => ((impl_ArnQueued.f k l0_0 a0_1 a0_2 a0_3).bind fun t148 => ((impl_ArnArena_ends.f l0_0 a0_1 a0_2 a0_3 t142).bind fun t151 => (if t151 = true then ((impl_ArnArena_ends.f l0_0 a0_1 a0_2 a0_3 t145).bind fun t152 => (if t152 = true then ((impl_ArnArena_ends.f l0_0 a0_1 a0_2 a0_3 t148).bind fun t153 => (impl_ArnOk.j0 k t142 t145 t148 (!t153) l0_0 a0_1 a0_2 a0_3)) else (impl_ArnOk.j0 k t142 t145 t148 true l0_0 a0_1 a0_2 a0_3))) else (impl_ArnOk.j0 k t142 t145 t148 true l0_0 a0_1 a0_2 a0_3)))))) else (some false)) = some r := H
  have A2 := Aside0.mk A20
  clear A20
  by_cases c3 : t141 = true
  · subst c3
    have H1 : ((impl_ArnChain.f k l0_0 a0_1 a0_2 a0_3).bind fun t142 => ((impl_ArnStacked.f k l0_0 a0_1 a0_2 a0_3).bind fun t145 => ((impl_ArnQueued.f k l0_0 a0_1 a0_2 a0_3).bind fun t148 => ((impl_ArnArena_ends.f l0_0 a0_1 a0_2 a0_3 t142).bind fun t151 => (if t151 = true then ((impl_ArnArena_ends.f l0_0 a0_1 a0_2 a0_3 t145).bind fun t152 => (if t152 = true then ((impl_ArnArena_ends.f l0_0 a0_1 a0_2 a0_3 t148).bind fun t153 => (impl_ArnOk.j0 k t142 t145 t148 (!t153) l0_0 a0_1 a0_2 a0_3)) else (impl_ArnOk.j0 k t142 t145 t148 true l0_0 a0_1 a0_2 a0_3))) else (impl_ArnOk.j0 k t142 t145 t148 true l0_0 a0_1 a0_2 a0_3)))))) = some r := by rw [if_pos rfl] at H; exact H
    clear H
    have H := H1
    clear H1
    replace H := Option.bind_eq_some_iff.mp H
    obtain ⟨t142, A40, H⟩ := H
    replace H : ((impl_ArnStacked.f k l0_0 a0_1 a0_2 a0_3).bind fun t145 => ((impl_ArnQueued.f k l0_0 a0_1 a0_2 a0_3).bind fun t148 => ((impl_ArnArena_ends.f l0_0 a0_1 a0_2 a0_3 t142).bind fun t151 => (if t151 = true then ((impl_ArnArena_ends.f l0_0 a0_1 a0_2 a0_3 t145).bind fun t152 => (if t152 = true then ((impl_ArnArena_ends.f l0_0 a0_1 a0_2 a0_3 t148).bind fun t153 => (impl_ArnOk.j0 k t142 t145 t148 (!t153) l0_0 a0_1 a0_2 a0_3)) else (impl_ArnOk.j0 k t142 t145 t148 true l0_0 a0_1 a0_2 a0_3))) else (impl_ArnOk.j0 k t142 t145 t148 true l0_0 a0_1 a0_2 a0_3))))) = some r := H
    have A4 := Aside0.mk A40
    clear A40
    replace H := Option.bind_eq_some_iff.mp H
    obtain ⟨t145, A50, H⟩ := H
    replace H : ((impl_ArnQueued.f k l0_0 a0_1 a0_2 a0_3).bind fun t148 => ((impl_ArnArena_ends.f l0_0 a0_1 a0_2 a0_3 t142).bind fun t151 => (if t151 = true then ((impl_ArnArena_ends.f l0_0 a0_1 a0_2 a0_3 t145).bind fun t152 => (if t152 = true then ((impl_ArnArena_ends.f l0_0 a0_1 a0_2 a0_3 t148).bind fun t153 => (impl_ArnOk.j0 k t142 t145 t148 (!t153) l0_0 a0_1 a0_2 a0_3)) else (impl_ArnOk.j0 k t142 t145 t148 true l0_0 a0_1 a0_2 a0_3))) else (impl_ArnOk.j0 k t142 t145 t148 true l0_0 a0_1 a0_2 a0_3)))) = some r := H
    have A5 := Aside0.mk A50
    clear A50
    replace H := Option.bind_eq_some_iff.mp H
    obtain ⟨t148, A60, H⟩ := H
    replace H : ((impl_ArnArena_ends.f l0_0 a0_1 a0_2 a0_3 t142).bind fun t151 => (if t151 = true then ((impl_ArnArena_ends.f l0_0 a0_1 a0_2 a0_3 t145).bind fun t152 => (if t152 = true then ((impl_ArnArena_ends.f l0_0 a0_1 a0_2 a0_3 t148).bind fun t153 => (impl_ArnOk.j0 k t142 t145 t148 (!t153) l0_0 a0_1 a0_2 a0_3)) else (impl_ArnOk.j0 k t142 t145 t148 true l0_0 a0_1 a0_2 a0_3))) else (impl_ArnOk.j0 k t142 t145 t148 true l0_0 a0_1 a0_2 a0_3))) = some r := H
    have A6 := Aside0.mk A60
    clear A60
    have HC7 := Aside0.mk H
    clear H
    go_enter Try.func10, Try.ntmps10
    try go_wp2_with (first | ((with_reducible refine gate_dst (N := 1) rfl ?_); refine box_event ?hg (N := 1) ?hd (cs := #[.slice A0_0 l0_0.length c0_0, .int .i64 a0_1, .int .i64 a0_2, .int .i64 a0_3]) (t := 29) ?hr ?_; (case hd => rfl); (case hg => rfl); (case hr => first | (go_simp; done) | (go_simp; rfl)); intro gb140 hg w8 hbox hb; have n0_ := Aside0.mk (below_step (by repeat (first | (with_reducible first | exact HB.out | apply below_alloc | apply pw_below_drewN | apply below_drew1) | exact HB.out)) hb); have n1_ := Aside0.mk (hbox); have n2_ := Aside0.mk ((by rw [hg]; exact (below_size (by repeat (first | (with_reducible first | exact HB.out | apply below_alloc | apply pw_below_drewN | apply below_drew1) | exact HB.out))) : w.heap.size ≤ gb140)); have n3_ := Aside0.mk ((by rw [hg]; exact (below_size (by repeat (first | (with_reducible first | exact HB.out | apply below_alloc | apply pw_below_drewN | apply below_drew1) | exact HB.out))) : w.heap.size ≤ gb140)); clear HB; have HB := n0_; have BK140 := n1_; have GW140 := n2_; have GE140 := n3_; clear n0_ n1_ n2_ n3_; clear hb hbox hg; have hcz9_0 : w8.cell? ⟨gb140, 0, none⟩ = some (.slice A0_0 l0_0.length c0_0) := (blk_cell BK140.out 0).trans rfl; have hcz9_1 : w8.cell? ⟨gb140, 1, none⟩ = some (.int .i64 a0_1) := (blk_cell BK140.out 1).trans rfl; have hcz9_2 : w8.cell? ⟨gb140, 2, none⟩ = some (.int .i64 a0_2) := (blk_cell BK140.out 2).trans rfl; have hcz9_3 : w8.cell? ⟨gb140, 3, none⟩ = some (.int .i64 a0_3) := (blk_cell BK140.out 3).trans rfl; have hfz9_0 := blk_frozen BK140.out 0; have hfz9_1 := blk_frozen BK140.out 1; have hfz9_2 := blk_frozen BK140.out 2; have hfz9_3 := blk_frozen BK140.out 3) | ((with_reducible refine gate_callee (f := 46) rfl ?_); refine goesL_ (some 14) rfl rfl Try.func46 (by kernel_rfl) rfl #[.agg #[.slice A0_0 l0_0.length c0_0, .int .i64 a0_1, .int .i64 a0_2, .int .i64 a0_3]] rfl (by (try simp only [List.map_toArray, List.map_cons, List.map_nil]); first | done | rfl | (simp only [List.length_drop, List.length_take]; rfl)) ?_; (with_reducible refine (impl_ArnArena_shaped.calls k _ _ l0_0 a0_1 a0_2 a0_3 true _ ?side1 ?side2 A2.out).mono ?_); (case side1 => repeat (first | exact (Kd.C_below HR0_0.out HB.out) | (with_reducible refine Kd.C_alloc ?_ _) | (with_reducible refine Kd.C_drewN ?_ _) | (with_reducible refine Kd.C_drew ?_))); (case side2 => exact HC0_0.out); rintro e w10 ⟨rfl, hb⟩; refine ⟨_, rfl, ?_⟩; have n0_ := Aside0.mk (blk_below (g := gb140) (o := .cells #[.slice A0_0 l0_0.length c0_0, .int .i64 a0_1, .int .i64 a0_2, .int .i64 a0_3] 29 (0, 0)) (by (with_reducible repeat (first | refine blk_drewN ?_ _ | refine blk_drew ?_ | refine blk_alloc ?_ _)); exact BK140.out) hb); have n1_ := Aside0.mk (below_step (by repeat (first | (with_reducible first | exact HB.out | apply below_alloc | apply pw_below_drewN | apply below_drew1 | refine below_set ?_ GE140.out) | exact HB.out)) hb); clear BK140; clear HB; have BK140 := n0_; have HB := n1_; clear n0_ n1_; (try clear hb); (try clear hb2); (try clear hk); (try clear hi)))
    have n0_ := Aside0.mk (blk_drew BK140.out)
    have n1_ := Aside0.mk (below_drew1 HB.out)
    clear BK140
    clear HB
    have BK140 := n0_
    have HB := n1_
    clear n0_ n1_
    refine start_ (n := 9) (S := fun w' => w'.cell? ⟨gb140, 0, none⟩ = some (.slice A0_0 l0_0.length c0_0) ∧ w'.cell? ⟨gb140, 1, none⟩ = some (.int .i64 a0_1) ∧ w'.cell? ⟨gb140, 2, none⟩ = some (.int .i64 a0_2) ∧ w'.cell? ⟨gb140, 3, none⟩ = some (.int .i64 a0_3)) (ds := []) #[false, false, false, false, false, false, false, false, false] (by kernel_rfl) rfl rfl ⟨(blk_cell BK140.out 0).trans rfl, (blk_cell BK140.out 1).trans rfl, (blk_cell BK140.out 2).trans rfl, (blk_cell BK140.out 3).trans rfl⟩ (fun hHeld => ?_); refine with_tabW impl_ArnOk.tab3 impl_ArnOk.bits3 (fun HT_ HW_ => ?_)
    generalize w10.drew = w11 at BK140 HB hHeld ⊢
    refine take_ (i := 0) (N := some 16) (v := ?_) (a' := ?_) #[true, false, false, false, false, false, false, false, false] rfl rfl (take_ofW HT_.out HW_.out (by kernel_rfl)) (fun _ _ _ h => h) (Or.inl ⟨by rfl, ?_⟩) hHeld ?_ ?_
    rotate_left
    · rintro w' ⟨s0, s1, s2, s3⟩
      go_simp
      with_reducible rfl
    rotate_left
    · simp only [Act.put, List.setIfInBounds_toArray, List.set_cons_zero, List.set_cons_succ, i64_w, i32_w]
      rfl
    refine take_ (i := 2) (N := some 18) (v := ?_) (a' := ?_) #[true, false, true, false, false, false, false, false, false] rfl rfl (take_ofW HT_.out HW_.out (by kernel_rfl)) (fun _ _ _ h => h) (Or.inl ⟨by rfl, ?_⟩) hHeld ?_ ?_
    rotate_left
    · rintro w' ⟨s0, s1, s2, s3⟩
      go_simp
      with_reducible rfl
    rotate_left
    · simp only [Act.put, List.setIfInBounds_toArray, List.set_cons_zero, List.set_cons_succ, i64_w, i32_w]
      rfl
    refine take_ (i := 4) (N := some 20) (v := ?_) (a' := ?_) #[true, false, true, false, true, false, false, false, false] rfl rfl (take_ofW HT_.out HW_.out (by kernel_rfl)) (fun _ _ _ h => h) (Or.inl ⟨by rfl, ?_⟩) hHeld ?_ ?_
    rotate_left
    · rintro w' ⟨s0, s1, s2, s3⟩
      go_simp
      with_reducible rfl
    rotate_left
    · simp only [Act.put, List.setIfInBounds_toArray, List.set_cons_zero, List.set_cons_succ, i64_w, i32_w]
      rfl
    refine one_ (i := 1) (N := some 17) #[true, true, true, false, true, false, false, false, false] rfl rfl (one_of HT_.out (by kernel_rfl)) (by decide) (fun K hK => ?_)
    refine goes_ Try.func24 (by kernel_rfl) rfl #[.agg #[.slice A0_0 l0_0.length c0_0, .int .i64 a0_1, .int .i64 a0_2, .int .i64 a0_3]] (by rfl) rfl rfl (by (try simp only [List.map_toArray, List.map_cons, List.map_nil]); first | done | rfl | (simp only [List.length_drop, List.length_take]; rfl)) ?_
    with_reducible refine (impl_ArnChain.calls k _ _ l0_0 a0_1 a0_2 a0_3 t142 _ ?side1 ?side2 A4.out).mono ?_
    (case side1 => repeat (first | exact (Kd.C_below HR0_0.out HB.out) | (with_reducible refine Kd.C_alloc ?_ _) | (with_reducible refine Kd.C_drewN ?_ _) | (with_reducible refine Kd.C_drew ?_)))
    (case side2 => exact HC0_0.out)
    rintro e w12 ⟨v143, rfl, ho0, hb⟩
    refine ⟨_, rfl, ?_⟩
    have n0_ := Aside0.mk (Kd.R_lower ho0 (below_size (by repeat (first | (with_reducible first | exact HB.out | apply below_alloc | apply pw_below_drewN | apply below_drew1 | refine below_set ?_ GE140.out) | exact HB.out))))
    have n1_ := Aside0.mk (blk_below (g := gb140) (o := .cells #[.slice A0_0 l0_0.length c0_0, .int .i64 a0_1, .int .i64 a0_2, .int .i64 a0_3] 29 (0, 0)) (by (with_reducible repeat (first | refine blk_drewN ?_ _ | refine blk_drew ?_ | refine blk_alloc ?_ _)); exact BK140.out) hb)
    have n2_ := Aside0.mk (below_step (by repeat (first | (with_reducible first | exact HB.out | apply below_alloc | apply pw_below_drewN | apply below_drew1 | refine below_set ?_ GE140.out) | exact HB.out)) hb)
    clear BK140
    clear HB
    have HO144 := n0_
    have BK140 := n1_
    have HB := n2_
    clear n0_ n1_ n2_
    (try clear hb)
    (try clear hb2)
    (try clear hk)
    (try clear hi)
    (try clear ho0)
    refine hK.out _ _ ⟨(blk_cell BK140.out 0).trans rfl, (blk_cell BK140.out 1).trans rfl, (blk_cell BK140.out 2).trans rfl, (blk_cell BK140.out 3).trans rfl⟩ (fun hHeld => ?_)
    clear hK K
    refine norm_ (a' := ?_) ?_ ?_
    rotate_left
    · show Act.put _ (some 17) _ = _
      simp only [Act.put, List.setIfInBounds_toArray, List.set_cons_zero, List.set_cons_succ, i64_w, i32_w]
      rfl
    refine one_ (i := 3) (N := some 19) #[true, true, true, true, true, false, false, false, false] rfl rfl (one_of HT_.out (by kernel_rfl)) (by decide) (fun K hK => ?_)
    refine goes_ Try.func47 (by kernel_rfl) rfl #[.agg #[.slice A0_0 l0_0.length c0_0, .int .i64 a0_1, .int .i64 a0_2, .int .i64 a0_3]] (by rfl) rfl rfl (by (try simp only [List.map_toArray, List.map_cons, List.map_nil]); first | done | rfl | (simp only [List.length_drop, List.length_take]; rfl)) ?_
    with_reducible refine (impl_ArnStacked.calls k _ _ l0_0 a0_1 a0_2 a0_3 t145 _ ?side1 ?side2 A5.out).mono ?_
    (case side1 => repeat (first | exact (Kd.C_below HR0_0.out HB.out) | (with_reducible refine Kd.C_alloc ?_ _) | (with_reducible refine Kd.C_drewN ?_ _) | (with_reducible refine Kd.C_drew ?_)))
    (case side2 => exact HC0_0.out)
    rintro e w13 ⟨v146, rfl, ho0, hb⟩
    refine ⟨_, rfl, ?_⟩
    have n0_ := Aside0.mk (Kd.R_elder' (by (with_reducible repeat (first | apply Kd.R_alloc | apply Kd.R_drewN | apply Kd.R_drew)); exact HO144.out) (Kd.R_base ho0) hb)
    have n1_ := Aside0.mk (Kd.R_lower (Kd.R_new' ho0 (Kd.R_lt (by (with_reducible repeat (first | apply Kd.R_alloc | apply Kd.R_drewN | apply Kd.R_drew)); exact HO144.out))) (below_size (by repeat (first | (with_reducible first | exact HB.out | apply below_alloc | apply pw_below_drewN | apply below_drew1 | refine below_set ?_ GE140.out) | exact HB.out))))
    have n2_ := Aside0.mk (blk_below (g := gb140) (o := .cells #[.slice A0_0 l0_0.length c0_0, .int .i64 a0_1, .int .i64 a0_2, .int .i64 a0_3] 29 (0, 0)) (by (with_reducible repeat (first | refine blk_drewN ?_ _ | refine blk_drew ?_ | refine blk_alloc ?_ _)); exact BK140.out) hb)
    have n3_ := Aside0.mk (below_step (by repeat (first | (with_reducible first | exact HB.out | apply below_alloc | apply pw_below_drewN | apply below_drew1 | refine below_set ?_ GE140.out) | exact HB.out)) hb)
    clear HO144
    clear BK140
    clear HB
    have HO144 := n0_
    have HO147 := n1_
    have BK140 := n2_
    have HB := n3_
    clear n0_ n1_ n2_ n3_
    (try clear hb)
    (try clear hb2)
    (try clear hk)
    (try clear hi)
    (try clear ho0)
    refine hK.out _ _ ⟨(blk_cell BK140.out 0).trans rfl, (blk_cell BK140.out 1).trans rfl, (blk_cell BK140.out 2).trans rfl, (blk_cell BK140.out 3).trans rfl⟩ (fun hHeld => ?_)
    clear hK K
    refine norm_ (a' := ?_) ?_ ?_
    rotate_left
    · show Act.put _ (some 19) _ = _
      simp only [Act.put, List.setIfInBounds_toArray, List.set_cons_zero, List.set_cons_succ, i64_w, i32_w]
      rfl
    refine one_ (i := 5) (N := some 21) #[true, true, true, true, true, true, false, false, false] rfl rfl (one_of HT_.out (by kernel_rfl)) (by decide) (fun K hK => ?_)
    refine goes_ Try.func48 (by kernel_rfl) rfl #[.agg #[.slice A0_0 l0_0.length c0_0, .int .i64 a0_1, .int .i64 a0_2, .int .i64 a0_3]] (by rfl) rfl rfl (by (try simp only [List.map_toArray, List.map_cons, List.map_nil]); first | done | rfl | (simp only [List.length_drop, List.length_take]; rfl)) ?_
    with_reducible refine (impl_ArnQueued.calls k _ _ l0_0 a0_1 a0_2 a0_3 t148 _ ?side1 ?side2 A6.out).mono ?_
    (case side1 => repeat (first | exact (Kd.C_below HR0_0.out HB.out) | (with_reducible refine Kd.C_alloc ?_ _) | (with_reducible refine Kd.C_drewN ?_ _) | (with_reducible refine Kd.C_drew ?_)))
    (case side2 => exact HC0_0.out)
    rintro e w14 ⟨v149, rfl, ho0, hb⟩
    refine ⟨_, rfl, ?_⟩
    have n0_ := Aside0.mk (Kd.R_elder' (by (with_reducible repeat (first | apply Kd.R_alloc | apply Kd.R_drewN | apply Kd.R_drew)); exact HO144.out) (Kd.R_base ho0) hb)
    have n1_ := Aside0.mk (Kd.R_elder' (by (with_reducible repeat (first | apply Kd.R_alloc | apply Kd.R_drewN | apply Kd.R_drew)); exact HO147.out) (Kd.R_base ho0) hb)
    have n2_ := Aside0.mk (Kd.R_lower (Kd.R_new' (Kd.R_new' ho0 (Kd.R_lt (by (with_reducible repeat (first | apply Kd.R_alloc | apply Kd.R_drewN | apply Kd.R_drew)); exact HO144.out))) (Kd.R_lt (by (with_reducible repeat (first | apply Kd.R_alloc | apply Kd.R_drewN | apply Kd.R_drew)); exact HO147.out))) (below_size (by repeat (first | (with_reducible first | exact HB.out | apply below_alloc | apply pw_below_drewN | apply below_drew1 | refine below_set ?_ GE140.out) | exact HB.out))))
    have n3_ := Aside0.mk (blk_below (g := gb140) (o := .cells #[.slice A0_0 l0_0.length c0_0, .int .i64 a0_1, .int .i64 a0_2, .int .i64 a0_3] 29 (0, 0)) (by (with_reducible repeat (first | refine blk_drewN ?_ _ | refine blk_drew ?_ | refine blk_alloc ?_ _)); exact BK140.out) hb)
    have n4_ := Aside0.mk (below_step (by repeat (first | (with_reducible first | exact HB.out | apply below_alloc | apply pw_below_drewN | apply below_drew1 | refine below_set ?_ GE140.out) | exact HB.out)) hb)
    clear HO144
    clear HO147
    clear BK140
    clear HB
    have HO144 := n0_
    have HO147 := n1_
    have HO150 := n2_
    have BK140 := n3_
    have HB := n4_
    clear n0_ n1_ n2_ n3_ n4_
    (try clear hb)
    (try clear hb2)
    (try clear hk)
    (try clear hi)
    (try clear ho0)
    refine hK.out _ _ ⟨(blk_cell BK140.out 0).trans rfl, (blk_cell BK140.out 1).trans rfl, (blk_cell BK140.out 2).trans rfl, (blk_cell BK140.out 3).trans rfl⟩ (fun hHeld => ?_)
    clear hK K
    refine norm_ (a' := ?_) ?_ ?_
    rotate_left
    · show Act.put _ (some 21) _ = _
      simp only [Act.put, List.setIfInBounds_toArray, List.set_cons_zero, List.set_cons_succ, i64_w, i32_w]
      rfl
    refine pure_ (i := 6) (N := some 3) (v := ?_) (a' := ?_) #[true, true, true, true, true, true, true, false, false] rfl rfl (any_of HT_.out (by kernel_rfl)) (fun _ _ _ h => h) (Or.inl ⟨by rfl, ?_⟩) ?_ ?_
    rotate_left
    · intro w'
      go_simp
      with_reducible rfl
    rotate_left
    · simp only [Act.put, List.setIfInBounds_toArray, List.set_cons_zero, List.set_cons_succ, i64_w, i32_w]
      rfl
    refine pure_ (i := 7) (N := some 4) (v := ?_) (a' := ?_) #[true, true, true, true, true, true, true, true, false] rfl rfl (any_of HT_.out (by kernel_rfl)) (fun _ _ _ h => h) (Or.inl ⟨by rfl, ?_⟩) ?_ ?_
    rotate_left
    · intro w'
      go_simp
      with_reducible rfl
    rotate_left
    · simp only [Act.put, List.setIfInBounds_toArray, List.set_cons_zero, List.set_cons_succ, i64_w, i32_w]
      rfl
    refine pure_ (i := 8) (N := some 5) (v := ?_) (a' := ?_) #[true, true, true, true, true, true, true, true, true] rfl rfl (any_of HT_.out (by kernel_rfl)) (fun _ _ _ h => h) (Or.inl ⟨by rfl, ?_⟩) ?_ ?_
    rotate_left
    · intro w'
      go_simp
      with_reducible rfl
    rotate_left
    · simp only [Act.put, List.setIfInBounds_toArray, List.set_cons_zero, List.set_cons_succ, i64_w, i32_w]
      rfl
    refine done_ (done_of HT_.out (by kernel_rfl)) ?_
    go_upto_region 4 with (fail)
    go_cut [37] (fun v37 wc => ∃ (kq : Nat) (x37_6 : Bool), v37 = .bool x37_6 ∧ Aside0 (impl_ArnOk.j0 kq t142 t145 t148 x37_6 l0_0 a0_1 a0_2 a0_3 = some r) ∧ Aside0 (kq ≤ k) ∧ Aside0 (Kd.R (Kd.int .i64) 3 wc w.heap.size (fun k_ => some k_ ≠ (v146 : Value).ownBlock ∧ some k_ ≠ (v149 : Value).ownBlock) v143 t142) ∧ Aside0 (Kd.R (Kd.int .i64) 3 wc w.heap.size (fun k_ => some k_ ≠ (v143 : Value).ownBlock ∧ some k_ ≠ (v149 : Value).ownBlock) v146 t145) ∧ Aside0 (Kd.R (Kd.int .i64) 3 wc w.heap.size (fun k_ => some k_ ≠ (v143 : Value).ownBlock ∧ some k_ ≠ (v146 : Value).ownBlock) v149 t148) ∧ Aside0 (wc.heap[gb140]? = some (.cells #[(.slice A0_0 l0_0.length c0_0), .int .i64 a0_1, .int .i64 a0_2, .int .i64 a0_3] 29 (0, 0))) ∧ Aside0 (Below w.heap.size w wc))
    case first =>
      have H := HC7.out
      clear HC7
      replace H := Option.bind_eq_some_iff.mp H
      obtain ⟨t151, A150, H⟩ := H
      replace H : (if t151 = true then ((impl_ArnArena_ends.f l0_0 a0_1 a0_2 a0_3 t145).bind fun t152 => (if t152 = true then ((impl_ArnArena_ends.f l0_0 a0_1 a0_2 a0_3 t148).bind fun t153 => (impl_ArnOk.j0 k t142 t145 t148 (!t153) l0_0 a0_1 a0_2 a0_3)) else (impl_ArnOk.j0 k t142 t145 t148 true l0_0 a0_1 a0_2 a0_3))) else (impl_ArnOk.j0 k t142 t145 t148 true l0_0 a0_1 a0_2 a0_3)) = some r := H
      have A15 := Aside0.mk A150
      clear A150
      by_cases c16 : t151 = true
      · subst c16
        have H1 : ((impl_ArnArena_ends.f l0_0 a0_1 a0_2 a0_3 t145).bind fun t152 => (if t152 = true then ((impl_ArnArena_ends.f l0_0 a0_1 a0_2 a0_3 t148).bind fun t153 => (impl_ArnOk.j0 k t142 t145 t148 (!t153) l0_0 a0_1 a0_2 a0_3)) else (impl_ArnOk.j0 k t142 t145 t148 true l0_0 a0_1 a0_2 a0_3))) = some r := by rw [if_pos rfl] at H; exact H
        clear H
        have H := H1
        clear H1
        replace H := Option.bind_eq_some_iff.mp H
        obtain ⟨t152, A170, H⟩ := H
        replace H : (if t152 = true then ((impl_ArnArena_ends.f l0_0 a0_1 a0_2 a0_3 t148).bind fun t153 => (impl_ArnOk.j0 k t142 t145 t148 (!t153) l0_0 a0_1 a0_2 a0_3)) else (impl_ArnOk.j0 k t142 t145 t148 true l0_0 a0_1 a0_2 a0_3)) = some r := H
        have A17 := Aside0.mk A170
        clear A170
        by_cases c18 : t152 = true
        · subst c18
          have H1 : ((impl_ArnArena_ends.f l0_0 a0_1 a0_2 a0_3 t148).bind fun t153 => (impl_ArnOk.j0 k t142 t145 t148 (!t153) l0_0 a0_1 a0_2 a0_3)) = some r := by rw [if_pos rfl] at H; exact H
          clear H
          have H := H1
          clear H1
          replace H := Option.bind_eq_some_iff.mp H
          obtain ⟨t153, A190, H⟩ := H
          replace H : (impl_ArnOk.j0 k t142 t145 t148 (!t153) l0_0 a0_1 a0_2 a0_3) = some r := H
          have A19 := Aside0.mk A190
          clear A190
          have H' := Aside0.mk H
          clear H
          have hcz20_0 : w14.cell? ⟨gb140, 0, none⟩ = some (.slice A0_0 l0_0.length c0_0) := (blk_cell BK140.out 0).trans rfl
          have hcz20_1 : w14.cell? ⟨gb140, 1, none⟩ = some (.int .i64 a0_1) := (blk_cell BK140.out 1).trans rfl
          have hcz20_2 : w14.cell? ⟨gb140, 2, none⟩ = some (.int .i64 a0_2) := (blk_cell BK140.out 2).trans rfl
          have hcz20_3 : w14.cell? ⟨gb140, 3, none⟩ = some (.int .i64 a0_3) := (blk_cell BK140.out 3).trans rfl
          have hfz20_0 := blk_frozen BK140.out 0
          have hfz20_1 := blk_frozen BK140.out 1
          have hfz20_2 := blk_frozen BK140.out 2
          have hfz20_3 := blk_frozen BK140.out 3
          obtain ⟨Ao21, co21, eo21⟩ := Kd.R_slice HO144.out
          subst eo21
          go_wp2_with (first | ((with_reducible refine gate_callee (f := 49) rfl ?_); refine goesL_ (some 24) rfl rfl Try.func49 (by kernel_rfl) rfl #[.agg #[.slice A0_0 l0_0.length c0_0, .int .i64 a0_1, .int .i64 a0_2, .int .i64 a0_3], .slice Ao21 t142.length co21] rfl (by (try simp only [List.map_toArray, List.map_cons, List.map_nil]); first | done | rfl | (simp only [List.length_drop, List.length_take]; rfl)) ?_; (with_reducible refine (impl_ArnArena_ends.calls _ _ l0_0 a0_1 a0_2 a0_3 _ _ t142 true _ ?side1 ?side2 ?side3 ?side4 A15.out).mono ?_); (case side1 => repeat (first | exact (Kd.C_below HR0_0.out HB.out) | (with_reducible refine Kd.C_alloc ?_ _) | (with_reducible refine Kd.C_drewN ?_ _) | (with_reducible refine Kd.C_drew ?_))); (case side2 => exact HC0_0.out); (case side3 => repeat (first | exact (Kd.R_reads' HO144.out).2.2 | (with_reducible refine Kd.C_alloc ?_ _) | (with_reducible refine Kd.C_drewN ?_ _) | (with_reducible refine Kd.C_drew ?_))); (case side4 => exact (Kd.R_reads' HO144.out).2.1); rintro e w22 ⟨rfl, hb⟩; refine ⟨_, rfl, ?_⟩; have n0_ := Aside0.mk (Kd.R_below (by (with_reducible repeat (first | apply Kd.R_alloc | apply Kd.R_drewN | apply Kd.R_drew)); exact HO144.out) hb); have n1_ := Aside0.mk (Kd.R_below (by (with_reducible repeat (first | apply Kd.R_alloc | apply Kd.R_drewN | apply Kd.R_drew)); exact HO147.out) hb); have n2_ := Aside0.mk (Kd.R_below (by (with_reducible repeat (first | apply Kd.R_alloc | apply Kd.R_drewN | apply Kd.R_drew)); exact HO150.out) hb); have n3_ := Aside0.mk (blk_below (g := gb140) (o := .cells #[.slice A0_0 l0_0.length c0_0, .int .i64 a0_1, .int .i64 a0_2, .int .i64 a0_3] 29 (0, 0)) (by (with_reducible repeat (first | refine blk_drewN ?_ _ | refine blk_drew ?_ | refine blk_alloc ?_ _)); exact BK140.out) hb); have n4_ := Aside0.mk (below_step (by repeat (first | (with_reducible first | exact HB.out | apply below_alloc | apply pw_below_drewN | apply below_drew1 | refine below_set ?_ GE140.out) | exact HB.out)) hb); clear HO144; clear HO147; clear HO150; clear BK140; clear HB; have HO144 := n0_; have HO147 := n1_; have HO150 := n2_; have BK140 := n3_; have HB := n4_; clear n0_ n1_ n2_ n3_ n4_; (try clear hb); (try clear hb2); (try clear hk); (try clear hi); have hcz23_0 : w22.cell? ⟨gb140, 0, none⟩ = some (.slice A0_0 l0_0.length c0_0) := (blk_cell BK140.out 0).trans rfl; have hcz23_1 : w22.cell? ⟨gb140, 1, none⟩ = some (.int .i64 a0_1) := (blk_cell BK140.out 1).trans rfl; have hcz23_2 : w22.cell? ⟨gb140, 2, none⟩ = some (.int .i64 a0_2) := (blk_cell BK140.out 2).trans rfl; have hcz23_3 : w22.cell? ⟨gb140, 3, none⟩ = some (.int .i64 a0_3) := (blk_cell BK140.out 3).trans rfl; have hfz23_0 := blk_frozen BK140.out 0; have hfz23_1 := blk_frozen BK140.out 1; have hfz23_2 := blk_frozen BK140.out 2; have hfz23_3 := blk_frozen BK140.out 3; obtain ⟨Ao24, co24, eo24⟩ := Kd.R_slice HO147.out; subst eo24) | (go_at_call 49; (with_reducible refine (impl_ArnArena_ends.calls _ _ l0_0 a0_1 a0_2 a0_3 _ _ t145 true _ ?side1 ?side2 ?side3 ?side4 A17.out).mono ?_); (case side1 => repeat (first | exact (Kd.C_below HR0_0.out HB.out) | (with_reducible refine Kd.C_alloc ?_ _) | (with_reducible refine Kd.C_drewN ?_ _) | (with_reducible refine Kd.C_drew ?_))); (case side2 => exact HC0_0.out); (case side3 => repeat (first | exact (Kd.R_reads' HO147.out).2.2 | (with_reducible refine Kd.C_alloc ?_ _) | (with_reducible refine Kd.C_drewN ?_ _) | (with_reducible refine Kd.C_drew ?_))); (case side4 => exact (Kd.R_reads' HO147.out).2.1); rintro e w25 ⟨rfl, hb⟩; have n0_ := Aside0.mk (Kd.R_below (by (with_reducible repeat (first | apply Kd.R_alloc | apply Kd.R_drewN | apply Kd.R_drew)); exact HO144.out) hb); have n1_ := Aside0.mk (Kd.R_below (by (with_reducible repeat (first | apply Kd.R_alloc | apply Kd.R_drewN | apply Kd.R_drew)); exact HO147.out) hb); have n2_ := Aside0.mk (Kd.R_below (by (with_reducible repeat (first | apply Kd.R_alloc | apply Kd.R_drewN | apply Kd.R_drew)); exact HO150.out) hb); have n3_ := Aside0.mk (blk_below (g := gb140) (o := .cells #[.slice A0_0 l0_0.length c0_0, .int .i64 a0_1, .int .i64 a0_2, .int .i64 a0_3] 29 (0, 0)) (by (with_reducible repeat (first | refine blk_drewN ?_ _ | refine blk_drew ?_ | refine blk_alloc ?_ _)); exact BK140.out) hb); have n4_ := Aside0.mk (below_step (by repeat (first | (with_reducible first | exact HB.out | apply below_alloc | apply pw_below_drewN | apply below_drew1 | refine below_set ?_ GE140.out) | exact HB.out)) hb); clear HO144; clear HO147; clear HO150; clear BK140; clear HB; have HO144 := n0_; have HO147 := n1_; have HO150 := n2_; have BK140 := n3_; have HB := n4_; clear n0_ n1_ n2_ n3_ n4_; (try clear hb); (try clear hb2); (try clear hk); (try clear hi); have hcz26_0 : w25.cell? ⟨gb140, 0, none⟩ = some (.slice A0_0 l0_0.length c0_0) := (blk_cell BK140.out 0).trans rfl; have hcz26_1 : w25.cell? ⟨gb140, 1, none⟩ = some (.int .i64 a0_1) := (blk_cell BK140.out 1).trans rfl; have hcz26_2 : w25.cell? ⟨gb140, 2, none⟩ = some (.int .i64 a0_2) := (blk_cell BK140.out 2).trans rfl; have hcz26_3 : w25.cell? ⟨gb140, 3, none⟩ = some (.int .i64 a0_3) := (blk_cell BK140.out 3).trans rfl; have hfz26_0 := blk_frozen BK140.out 0; have hfz26_1 := blk_frozen BK140.out 1; have hfz26_2 := blk_frozen BK140.out 2; have hfz26_3 := blk_frozen BK140.out 3; obtain ⟨Ao27, co27, eo27⟩ := Kd.R_slice HO150.out; subst eo27) | (go_at_call 49; (with_reducible refine (impl_ArnArena_ends.calls _ _ l0_0 a0_1 a0_2 a0_3 _ _ t148 t153 _ ?side1 ?side2 ?side3 ?side4 A19.out).mono ?_); (case side1 => repeat (first | exact (Kd.C_below HR0_0.out HB.out) | (with_reducible refine Kd.C_alloc ?_ _) | (with_reducible refine Kd.C_drewN ?_ _) | (with_reducible refine Kd.C_drew ?_))); (case side2 => exact HC0_0.out); (case side3 => repeat (first | exact (Kd.R_reads' HO150.out).2.2 | (with_reducible refine Kd.C_alloc ?_ _) | (with_reducible refine Kd.C_drewN ?_ _) | (with_reducible refine Kd.C_drew ?_))); (case side4 => exact (Kd.R_reads' HO150.out).2.1); rintro e w28 ⟨rfl, hb⟩; have n0_ := Aside0.mk (Kd.R_below (by (with_reducible repeat (first | apply Kd.R_alloc | apply Kd.R_drewN | apply Kd.R_drew)); exact HO144.out) hb); have n1_ := Aside0.mk (Kd.R_below (by (with_reducible repeat (first | apply Kd.R_alloc | apply Kd.R_drewN | apply Kd.R_drew)); exact HO147.out) hb); have n2_ := Aside0.mk (Kd.R_below (by (with_reducible repeat (first | apply Kd.R_alloc | apply Kd.R_drewN | apply Kd.R_drew)); exact HO150.out) hb); have n3_ := Aside0.mk (blk_below (g := gb140) (o := .cells #[.slice A0_0 l0_0.length c0_0, .int .i64 a0_1, .int .i64 a0_2, .int .i64 a0_3] 29 (0, 0)) (by (with_reducible repeat (first | refine blk_drewN ?_ _ | refine blk_drew ?_ | refine blk_alloc ?_ _)); exact BK140.out) hb); have n4_ := Aside0.mk (below_step (by repeat (first | (with_reducible first | exact HB.out | apply below_alloc | apply pw_below_drewN | apply below_drew1 | refine below_set ?_ GE140.out) | exact HB.out)) hb); clear HO144; clear HO147; clear HO150; clear BK140; clear HB; have HO144 := n0_; have HO147 := n1_; have HO150 := n2_; have BK140 := n3_; have HB := n4_; clear n0_ n1_ n2_ n3_ n4_; (try clear hb); (try clear hb2); (try clear hk); (try clear hi)))
          go_meet
          case rel => exact ⟨_, (!t153), (by first | rfl | (simp; done) | (simp [*]; done)), H', ⟨by first | omega | exact Nat.le_refl _⟩, ⟨by (with_reducible repeat (first | apply Kd.R_alloc | apply Kd.R_drewN | apply Kd.R_drew)); exact Kd.R_mono HO144.out (fun _ hk => ⟨hk.1.2, hk.2⟩)⟩, ⟨by (with_reducible repeat (first | apply Kd.R_alloc | apply Kd.R_drewN | apply Kd.R_drew)); exact Kd.R_mono HO147.out (fun _ hk => ⟨hk.1.2, hk.2⟩)⟩, ⟨by (with_reducible repeat (first | apply Kd.R_alloc | apply Kd.R_drewN | apply Kd.R_drew)); exact Kd.R_mono HO150.out (fun _ hk => ⟨hk.1.2, hk.2⟩)⟩, ⟨by (with_reducible repeat (first | refine blk_drewN ?_ _ | refine blk_drew ?_ | refine blk_alloc ?_ _)); exact BK140.out⟩, ⟨by repeat (first | (with_reducible first | exact HB.out | apply below_alloc | apply pw_below_drewN | apply below_drew1 | refine below_set ?_ GE140.out) | exact HB.out)⟩⟩
        · replace c18 := Bool.eq_false_iff.mpr c18
          subst c18
          have H1 : (impl_ArnOk.j0 k t142 t145 t148 true l0_0 a0_1 a0_2 a0_3) = some r := by rw [if_neg (show ¬ (false = true) by decide)] at H; exact H
          clear H
          have H := H1
          clear H1
          have H' := Aside0.mk H
          clear H
          have hcz29_0 : w14.cell? ⟨gb140, 0, none⟩ = some (.slice A0_0 l0_0.length c0_0) := (blk_cell BK140.out 0).trans rfl
          have hcz29_1 : w14.cell? ⟨gb140, 1, none⟩ = some (.int .i64 a0_1) := (blk_cell BK140.out 1).trans rfl
          have hcz29_2 : w14.cell? ⟨gb140, 2, none⟩ = some (.int .i64 a0_2) := (blk_cell BK140.out 2).trans rfl
          have hcz29_3 : w14.cell? ⟨gb140, 3, none⟩ = some (.int .i64 a0_3) := (blk_cell BK140.out 3).trans rfl
          have hfz29_0 := blk_frozen BK140.out 0
          have hfz29_1 := blk_frozen BK140.out 1
          have hfz29_2 := blk_frozen BK140.out 2
          have hfz29_3 := blk_frozen BK140.out 3
          obtain ⟨Ao30, co30, eo30⟩ := Kd.R_slice HO144.out
          subst eo30
          go_wp2_with (first | ((with_reducible refine gate_callee (f := 49) rfl ?_); refine goesL_ (some 24) rfl rfl Try.func49 (by kernel_rfl) rfl #[.agg #[.slice A0_0 l0_0.length c0_0, .int .i64 a0_1, .int .i64 a0_2, .int .i64 a0_3], .slice Ao30 t142.length co30] rfl (by (try simp only [List.map_toArray, List.map_cons, List.map_nil]); first | done | rfl | (simp only [List.length_drop, List.length_take]; rfl)) ?_; (with_reducible refine (impl_ArnArena_ends.calls _ _ l0_0 a0_1 a0_2 a0_3 _ _ t142 true _ ?side1 ?side2 ?side3 ?side4 A15.out).mono ?_); (case side1 => repeat (first | exact (Kd.C_below HR0_0.out HB.out) | (with_reducible refine Kd.C_alloc ?_ _) | (with_reducible refine Kd.C_drewN ?_ _) | (with_reducible refine Kd.C_drew ?_))); (case side2 => exact HC0_0.out); (case side3 => repeat (first | exact (Kd.R_reads' HO144.out).2.2 | (with_reducible refine Kd.C_alloc ?_ _) | (with_reducible refine Kd.C_drewN ?_ _) | (with_reducible refine Kd.C_drew ?_))); (case side4 => exact (Kd.R_reads' HO144.out).2.1); rintro e w31 ⟨rfl, hb⟩; refine ⟨_, rfl, ?_⟩; have n0_ := Aside0.mk (Kd.R_below (by (with_reducible repeat (first | apply Kd.R_alloc | apply Kd.R_drewN | apply Kd.R_drew)); exact HO144.out) hb); have n1_ := Aside0.mk (Kd.R_below (by (with_reducible repeat (first | apply Kd.R_alloc | apply Kd.R_drewN | apply Kd.R_drew)); exact HO147.out) hb); have n2_ := Aside0.mk (Kd.R_below (by (with_reducible repeat (first | apply Kd.R_alloc | apply Kd.R_drewN | apply Kd.R_drew)); exact HO150.out) hb); have n3_ := Aside0.mk (blk_below (g := gb140) (o := .cells #[.slice A0_0 l0_0.length c0_0, .int .i64 a0_1, .int .i64 a0_2, .int .i64 a0_3] 29 (0, 0)) (by (with_reducible repeat (first | refine blk_drewN ?_ _ | refine blk_drew ?_ | refine blk_alloc ?_ _)); exact BK140.out) hb); have n4_ := Aside0.mk (below_step (by repeat (first | (with_reducible first | exact HB.out | apply below_alloc | apply pw_below_drewN | apply below_drew1 | refine below_set ?_ GE140.out) | exact HB.out)) hb); clear HO144; clear HO147; clear HO150; clear BK140; clear HB; have HO144 := n0_; have HO147 := n1_; have HO150 := n2_; have BK140 := n3_; have HB := n4_; clear n0_ n1_ n2_ n3_ n4_; (try clear hb); (try clear hb2); (try clear hk); (try clear hi); have hcz32_0 : w31.cell? ⟨gb140, 0, none⟩ = some (.slice A0_0 l0_0.length c0_0) := (blk_cell BK140.out 0).trans rfl; have hcz32_1 : w31.cell? ⟨gb140, 1, none⟩ = some (.int .i64 a0_1) := (blk_cell BK140.out 1).trans rfl; have hcz32_2 : w31.cell? ⟨gb140, 2, none⟩ = some (.int .i64 a0_2) := (blk_cell BK140.out 2).trans rfl; have hcz32_3 : w31.cell? ⟨gb140, 3, none⟩ = some (.int .i64 a0_3) := (blk_cell BK140.out 3).trans rfl; have hfz32_0 := blk_frozen BK140.out 0; have hfz32_1 := blk_frozen BK140.out 1; have hfz32_2 := blk_frozen BK140.out 2; have hfz32_3 := blk_frozen BK140.out 3; obtain ⟨Ao33, co33, eo33⟩ := Kd.R_slice HO147.out; subst eo33) | (go_at_call 49; (with_reducible refine (impl_ArnArena_ends.calls _ _ l0_0 a0_1 a0_2 a0_3 _ _ t145 false _ ?side1 ?side2 ?side3 ?side4 A17.out).mono ?_); (case side1 => repeat (first | exact (Kd.C_below HR0_0.out HB.out) | (with_reducible refine Kd.C_alloc ?_ _) | (with_reducible refine Kd.C_drewN ?_ _) | (with_reducible refine Kd.C_drew ?_))); (case side2 => exact HC0_0.out); (case side3 => repeat (first | exact (Kd.R_reads' HO147.out).2.2 | (with_reducible refine Kd.C_alloc ?_ _) | (with_reducible refine Kd.C_drewN ?_ _) | (with_reducible refine Kd.C_drew ?_))); (case side4 => exact (Kd.R_reads' HO147.out).2.1); rintro e w34 ⟨rfl, hb⟩; have n0_ := Aside0.mk (Kd.R_below (by (with_reducible repeat (first | apply Kd.R_alloc | apply Kd.R_drewN | apply Kd.R_drew)); exact HO144.out) hb); have n1_ := Aside0.mk (Kd.R_below (by (with_reducible repeat (first | apply Kd.R_alloc | apply Kd.R_drewN | apply Kd.R_drew)); exact HO147.out) hb); have n2_ := Aside0.mk (Kd.R_below (by (with_reducible repeat (first | apply Kd.R_alloc | apply Kd.R_drewN | apply Kd.R_drew)); exact HO150.out) hb); have n3_ := Aside0.mk (blk_below (g := gb140) (o := .cells #[.slice A0_0 l0_0.length c0_0, .int .i64 a0_1, .int .i64 a0_2, .int .i64 a0_3] 29 (0, 0)) (by (with_reducible repeat (first | refine blk_drewN ?_ _ | refine blk_drew ?_ | refine blk_alloc ?_ _)); exact BK140.out) hb); have n4_ := Aside0.mk (below_step (by repeat (first | (with_reducible first | exact HB.out | apply below_alloc | apply pw_below_drewN | apply below_drew1 | refine below_set ?_ GE140.out) | exact HB.out)) hb); clear HO144; clear HO147; clear HO150; clear BK140; clear HB; have HO144 := n0_; have HO147 := n1_; have HO150 := n2_; have BK140 := n3_; have HB := n4_; clear n0_ n1_ n2_ n3_ n4_; (try clear hb); (try clear hb2); (try clear hk); (try clear hi)))
          go_meet
          case rel => exact ⟨_, (true), (by first | rfl | (simp; done) | (simp [*]; done)), H', ⟨by first | omega | exact Nat.le_refl _⟩, ⟨by (with_reducible repeat (first | apply Kd.R_alloc | apply Kd.R_drewN | apply Kd.R_drew)); exact Kd.R_mono HO144.out (fun _ hk => ⟨hk.1.2, hk.2⟩)⟩, ⟨by (with_reducible repeat (first | apply Kd.R_alloc | apply Kd.R_drewN | apply Kd.R_drew)); exact Kd.R_mono HO147.out (fun _ hk => ⟨hk.1.2, hk.2⟩)⟩, ⟨by (with_reducible repeat (first | apply Kd.R_alloc | apply Kd.R_drewN | apply Kd.R_drew)); exact Kd.R_mono HO150.out (fun _ hk => ⟨hk.1.2, hk.2⟩)⟩, ⟨by (with_reducible repeat (first | refine blk_drewN ?_ _ | refine blk_drew ?_ | refine blk_alloc ?_ _)); exact BK140.out⟩, ⟨by repeat (first | (with_reducible first | exact HB.out | apply below_alloc | apply pw_below_drewN | apply below_drew1 | refine below_set ?_ GE140.out) | exact HB.out)⟩⟩
      · replace c16 := Bool.eq_false_iff.mpr c16
        subst c16
        have H1 : (impl_ArnOk.j0 k t142 t145 t148 true l0_0 a0_1 a0_2 a0_3) = some r := by rw [if_neg (show ¬ (false = true) by decide)] at H; exact H
        clear H
        have H := H1
        clear H1
        have H' := Aside0.mk H
        clear H
        have hcz35_0 : w14.cell? ⟨gb140, 0, none⟩ = some (.slice A0_0 l0_0.length c0_0) := (blk_cell BK140.out 0).trans rfl
        have hcz35_1 : w14.cell? ⟨gb140, 1, none⟩ = some (.int .i64 a0_1) := (blk_cell BK140.out 1).trans rfl
        have hcz35_2 : w14.cell? ⟨gb140, 2, none⟩ = some (.int .i64 a0_2) := (blk_cell BK140.out 2).trans rfl
        have hcz35_3 : w14.cell? ⟨gb140, 3, none⟩ = some (.int .i64 a0_3) := (blk_cell BK140.out 3).trans rfl
        have hfz35_0 := blk_frozen BK140.out 0
        have hfz35_1 := blk_frozen BK140.out 1
        have hfz35_2 := blk_frozen BK140.out 2
        have hfz35_3 := blk_frozen BK140.out 3
        obtain ⟨Ao36, co36, eo36⟩ := Kd.R_slice HO144.out
        subst eo36
        go_wp2_with (first | ((with_reducible refine gate_callee (f := 49) rfl ?_); refine goesL_ (some 24) rfl rfl Try.func49 (by kernel_rfl) rfl #[.agg #[.slice A0_0 l0_0.length c0_0, .int .i64 a0_1, .int .i64 a0_2, .int .i64 a0_3], .slice Ao36 t142.length co36] rfl (by (try simp only [List.map_toArray, List.map_cons, List.map_nil]); first | done | rfl | (simp only [List.length_drop, List.length_take]; rfl)) ?_; (with_reducible refine (impl_ArnArena_ends.calls _ _ l0_0 a0_1 a0_2 a0_3 _ _ t142 false _ ?side1 ?side2 ?side3 ?side4 A15.out).mono ?_); (case side1 => repeat (first | exact (Kd.C_below HR0_0.out HB.out) | (with_reducible refine Kd.C_alloc ?_ _) | (with_reducible refine Kd.C_drewN ?_ _) | (with_reducible refine Kd.C_drew ?_))); (case side2 => exact HC0_0.out); (case side3 => repeat (first | exact (Kd.R_reads' HO144.out).2.2 | (with_reducible refine Kd.C_alloc ?_ _) | (with_reducible refine Kd.C_drewN ?_ _) | (with_reducible refine Kd.C_drew ?_))); (case side4 => exact (Kd.R_reads' HO144.out).2.1); rintro e w37 ⟨rfl, hb⟩; refine ⟨_, rfl, ?_⟩; have n0_ := Aside0.mk (Kd.R_below (by (with_reducible repeat (first | apply Kd.R_alloc | apply Kd.R_drewN | apply Kd.R_drew)); exact HO144.out) hb); have n1_ := Aside0.mk (Kd.R_below (by (with_reducible repeat (first | apply Kd.R_alloc | apply Kd.R_drewN | apply Kd.R_drew)); exact HO147.out) hb); have n2_ := Aside0.mk (Kd.R_below (by (with_reducible repeat (first | apply Kd.R_alloc | apply Kd.R_drewN | apply Kd.R_drew)); exact HO150.out) hb); have n3_ := Aside0.mk (blk_below (g := gb140) (o := .cells #[.slice A0_0 l0_0.length c0_0, .int .i64 a0_1, .int .i64 a0_2, .int .i64 a0_3] 29 (0, 0)) (by (with_reducible repeat (first | refine blk_drewN ?_ _ | refine blk_drew ?_ | refine blk_alloc ?_ _)); exact BK140.out) hb); have n4_ := Aside0.mk (below_step (by repeat (first | (with_reducible first | exact HB.out | apply below_alloc | apply pw_below_drewN | apply below_drew1 | refine below_set ?_ GE140.out) | exact HB.out)) hb); clear HO144; clear HO147; clear HO150; clear BK140; clear HB; have HO144 := n0_; have HO147 := n1_; have HO150 := n2_; have BK140 := n3_; have HB := n4_; clear n0_ n1_ n2_ n3_ n4_; (try clear hb); (try clear hb2); (try clear hk); (try clear hi)))
        go_meet
        case rel => exact ⟨_, (true), (by first | rfl | (simp; done) | (simp [*]; done)), H', ⟨by first | omega | exact Nat.le_refl _⟩, ⟨by (with_reducible repeat (first | apply Kd.R_alloc | apply Kd.R_drewN | apply Kd.R_drew)); exact Kd.R_mono HO144.out (fun _ hk => ⟨hk.1.2, hk.2⟩)⟩, ⟨by (with_reducible repeat (first | apply Kd.R_alloc | apply Kd.R_drewN | apply Kd.R_drew)); exact Kd.R_mono HO147.out (fun _ hk => ⟨hk.1.2, hk.2⟩)⟩, ⟨by (with_reducible repeat (first | apply Kd.R_alloc | apply Kd.R_drewN | apply Kd.R_drew)); exact Kd.R_mono HO150.out (fun _ hk => ⟨hk.1.2, hk.2⟩)⟩, ⟨by (with_reducible repeat (first | refine blk_drewN ?_ _ | refine blk_drew ?_ | refine blk_alloc ?_ _)); exact BK140.out⟩, ⟨by repeat (first | (with_reducible first | exact HB.out | apply below_alloc | apply pw_below_drewN | apply below_drew1 | refine below_set ?_ GE140.out) | exact HB.out)⟩⟩
    case rest =>
      clear HC7
      try clear c1
      try clear c2
      try clear p2
      try clear c3
      try clear c4
      try clear c10
      try clear c16
      try clear c18
      try clear c24
      try clear hcz20_0
      try clear hcz20_1
      try clear hcz20_2
      try clear hcz20_3
      try clear hcz23_0
      try clear hcz23_1
      try clear hcz23_2
      try clear hcz23_3
      try clear hcz26_0
      try clear hcz26_1
      try clear hcz26_2
      try clear hcz26_3
      try clear hcz29_0
      try clear hcz29_1
      try clear hcz29_2
      try clear hcz29_3
      try clear hcz32_0
      try clear hcz32_1
      try clear hcz32_2
      try clear hcz32_3
      try clear hcz35_0
      try clear hcz35_1
      try clear hcz35_2
      try clear hcz35_3
      try clear hcz9_0
      try clear hcz9_1
      try clear hcz9_2
      try clear hcz9_3
      try clear hfz20_0
      try clear hfz20_1
      try clear hfz20_2
      try clear hfz20_3
      try clear hfz23_0
      try clear hfz23_1
      try clear hfz23_2
      try clear hfz23_3
      try clear hfz26_0
      try clear hfz26_1
      try clear hfz26_2
      try clear hfz26_3
      try clear hfz29_0
      try clear hfz29_1
      try clear hfz29_2
      try clear hfz29_3
      try clear hfz32_0
      try clear hfz32_1
      try clear hfz32_2
      try clear hfz32_3
      try clear hfz35_0
      try clear hfz35_1
      try clear hfz35_2
      try clear hfz35_3
      try clear hfz9_0
      try clear hfz9_1
      try clear hfz9_2
      try clear hfz9_3
      obtain ⟨kq, x37_6, rfl, HA, HJ6, HO_3, HO_4, HO_5, BK140, HB⟩ := hcut
      cases kq with
      | zero => exact absurd HA.out (by simp [impl_ArnOk.j0])
      | succ kj6 =>
        have H := HA.out
        clear HA
        simp only [impl_ArnOk.j0] at H
        by_cases c38 : x37_6 = true
        · subst c38
          have H1 : (some false) = some r := by rw [if_pos rfl] at H; exact H
          clear H
          have H := H1
          clear H1
          obtain rfl := Option.some.inj H
          go_wp2
          go_ret
          exact ⟨by first | rfl | (simp [errW_none, errW_some] <;> rfl) | (simp [*, errW_none, errW_some] <;> rfl), by repeat (first | (with_reducible first | exact HB.out | apply below_alloc | apply pw_below_drewN | apply below_drew1 | refine below_set ?_ GE140.out) | exact HB.out)⟩
        · replace c38 := Bool.eq_false_iff.mpr c38
          subst c38
          have H1 : ((some (([] : List Int) : List Int)).bind fun y157 => (if y157.length + t142.length < 17592186044416 then ((some (y157 ++ t142 : List Int)).bind fun y160 => (if y160.length + t145.length < 17592186044416 then ((some (y160 ++ t145 : List Int)).bind fun y163 => (if y163.length + t148.length < 17592186044416 then ((some (y163 ++ t148 : List Int)).bind fun y166 => (impl_ArnOk.l0 kj6 t142 t145 t148 (([] : List Int)) y166 (y166.length : Int) 0 l0_0 a0_1 a0_2 a0_3)) else (none))) else (none))) else (none))) = some r := by rw [if_neg (show ¬ (false = true) by decide)] at H; exact H
          clear H
          have H := H1
          clear H1
          obtain ⟨y154, hy154⟩ : ∃ y_ : List Int, y_ = (([] : List Int)) := ⟨_, rfl⟩
          replace H : ((some (([] : List Int) : List Int)).bind fun y157 => (if y157.length + t142.length < 17592186044416 then ((some (y157 ++ t142 : List Int)).bind fun y160 => (if y160.length + t145.length < 17592186044416 then ((some (y160 ++ t145 : List Int)).bind fun y163 => (if y163.length + t148.length < 17592186044416 then ((some (y163 ++ t148 : List Int)).bind fun y166 => (impl_ArnOk.l0 kj6 t142 t145 t148 y154 y166 (y166.length : Int) 0 l0_0 a0_1 a0_2 a0_3)) else (none))) else (none))) else (none))) = some r := by first | (rw [hy154]; with_reducible exact H) | (have H2_ := (Option.bind_some _ _).symm.trans H; rw [hy154]; with_reducible exact H2_) | (have H2_ := (Option.bind_some _ _).symm.trans H; with_reducible exact H2_) | with_reducible exact H | (rw [hy154]; exact H) | exact H
          have Ny154 := Aside0.mk hy154
          clear hy154
          obtain ⟨y157, hy157⟩ : ∃ y_ : List Int, y_ = (([] : List Int)) := ⟨_, rfl⟩
          replace H : (if y157.length + t142.length < 17592186044416 then ((some (y157 ++ t142 : List Int)).bind fun y160 => (if y160.length + t145.length < 17592186044416 then ((some (y160 ++ t145 : List Int)).bind fun y163 => (if y163.length + t148.length < 17592186044416 then ((some (y163 ++ t148 : List Int)).bind fun y166 => (impl_ArnOk.l0 kj6 t142 t145 t148 y154 y166 (y166.length : Int) 0 l0_0 a0_1 a0_2 a0_3)) else (none))) else (none))) else (none)) = some r := by first | (rw [hy157]; with_reducible exact H) | (have H2_ := (Option.bind_some _ _).symm.trans H; rw [hy157]; with_reducible exact H2_) | (have H2_ := (Option.bind_some _ _).symm.trans H; with_reducible exact H2_) | with_reducible exact H | (rw [hy157]; exact H) | exact H
          have Ny157 := Aside0.mk hy157
          clear hy157
          by_cases c39 : y157.length + t142.length < 17592186044416
          · rw [if_pos c39] at H
            have LMc39 := Aside0.mk c39
            clear c39
            obtain ⟨y160, hy160⟩ : ∃ y_ : List Int, y_ = (y157 ++ t142) := ⟨_, rfl⟩
            replace H : (if y160.length + t145.length < 17592186044416 then ((some (y160 ++ t145 : List Int)).bind fun y163 => (if y163.length + t148.length < 17592186044416 then ((some (y163 ++ t148 : List Int)).bind fun y166 => (impl_ArnOk.l0 kj6 t142 t145 t148 y154 y166 (y166.length : Int) 0 l0_0 a0_1 a0_2 a0_3)) else (none))) else (none)) = some r := by first | (rw [hy160]; with_reducible exact H) | (have H2_ := (Option.bind_some _ _).symm.trans H; rw [hy160]; with_reducible exact H2_) | (have H2_ := (Option.bind_some _ _).symm.trans H; with_reducible exact H2_) | with_reducible exact H | (rw [hy160]; exact H) | exact H
            have Ny160 := Aside0.mk hy160
            clear hy160
            by_cases c40 : y160.length + t145.length < 17592186044416
            · rw [if_pos c40] at H
              have LMc40 := Aside0.mk c40
              clear c40
              obtain ⟨y163, hy163⟩ : ∃ y_ : List Int, y_ = (y160 ++ t145) := ⟨_, rfl⟩
              replace H : (if y163.length + t148.length < 17592186044416 then ((some (y163 ++ t148 : List Int)).bind fun y166 => (impl_ArnOk.l0 kj6 t142 t145 t148 y154 y166 (y166.length : Int) 0 l0_0 a0_1 a0_2 a0_3)) else (none)) = some r := by first | (rw [hy163]; with_reducible exact H) | (have H2_ := (Option.bind_some _ _).symm.trans H; rw [hy163]; with_reducible exact H2_) | (have H2_ := (Option.bind_some _ _).symm.trans H; with_reducible exact H2_) | with_reducible exact H | (rw [hy163]; exact H) | exact H
              have Ny163 := Aside0.mk hy163
              clear hy163
              by_cases c41 : y163.length + t148.length < 17592186044416
              · rw [if_pos c41] at H
                have LMc41 := Aside0.mk c41
                clear c41
                obtain ⟨y166, hy166⟩ : ∃ y_ : List Int, y_ = (y163 ++ t148) := ⟨_, rfl⟩
                replace H : (impl_ArnOk.l0 kj6 t142 t145 t148 y154 y166 (y166.length : Int) 0 l0_0 a0_1 a0_2 a0_3) = some r := by first | (rw [hy166]; with_reducible exact H) | (have H2_ := (Option.bind_some _ _).symm.trans H; rw [hy166]; with_reducible exact H2_) | (have H2_ := (Option.bind_some _ _).symm.trans H; with_reducible exact H2_) | with_reducible exact H | (rw [hy166]; exact H) | exact H
                have Ny166 := Aside0.mk hy166
                clear hy166
                have H' := Aside0.mk H
                clear H
                go_wp2_with (first | ((with_reducible refine gate_dst (N := 38) rfl ?_); refine Go.Proofs.Ytenehkjbopdapaa.PMap.map_event ?hg (N := 38) ?hd ?ho ?_; (case hd => rfl); (case hg => rfl); (case ho => rfl); intro gm_ hgm_ w42 ho43 hb; clear hgm_; (first | rw [← Ny154.out] at ho43 | (simp only [Int.reduceToNat] at ho43; rw [← Ny154.out] at ho43)); have n0_ := Aside0.mk (Kd.R_elder' (v := (.map (some gm_))) (by (with_reducible repeat (first | apply Kd.R_alloc | apply Kd.R_drewN | apply Kd.R_drew)); exact HO_3.out) (fun _ hk_ => by simp [Go.Proofs.Ytenehkjbopdapaa.PMap.map_own] at hk_) hb); have n1_ := Aside0.mk (Kd.R_elder' (v := (.map (some gm_))) (by (with_reducible repeat (first | apply Kd.R_alloc | apply Kd.R_drewN | apply Kd.R_drew)); exact HO_4.out) (fun _ hk_ => by simp [Go.Proofs.Ytenehkjbopdapaa.PMap.map_own] at hk_) hb); have n2_ := Aside0.mk (Kd.R_elder' (v := (.map (some gm_))) (by (with_reducible repeat (first | apply Kd.R_alloc | apply Kd.R_drewN | apply Kd.R_drew)); exact HO_5.out) (fun _ hk_ => by simp [Go.Proofs.Ytenehkjbopdapaa.PMap.map_own] at hk_) hb); have n3_ := Aside0.mk (Go.Proofs.Ytenehkjbopdapaa.PMap.MapR.lower ho43 (below_size (by repeat (first | (with_reducible first | exact HB.out | apply below_alloc | apply pw_below_drewN | apply below_drew1 | refine below_set ?_ GE140.out) | exact HB.out)))); have n4_ := Aside0.mk (blk_below (g := gb140) (o := .cells #[.slice A0_0 l0_0.length c0_0, .int .i64 a0_1, .int .i64 a0_2, .int .i64 a0_3] 29 (0, 0)) (by (with_reducible repeat (first | refine blk_drewN ?_ _ | refine blk_drew ?_ | refine blk_alloc ?_ _)); exact BK140.out) hb); have n5_ := Aside0.mk (below_step (by repeat (first | (with_reducible first | exact HB.out | apply below_alloc | apply pw_below_drewN | apply below_drew1 | refine below_set ?_ GE140.out) | exact HB.out)) hb); clear HO_3; clear HO_4; clear HO_5; clear BK140; clear HB; have HO_3 := n0_; have HO_4 := n1_; have HO_5 := n2_; have HO156 := n3_; have BK140 := n4_; have HB := n5_; clear n0_ n1_ n2_ n3_ n4_ n5_; clear hb ho43) | ((with_reducible refine gate_dst (N := 42) rfl ?_); obtain ⟨Ao47, co47, eo47⟩ := Kd.R_slice HO_3.out; subst eo47; obtain ⟨Ao49, co49, eo49⟩ := Kd.R_slice HO_4.out; subst eo49; obtain ⟨Ao51, co51, eo51⟩ := Kd.R_slice HO_5.out; subst eo51; refine Go.Proofs.Ytenehkjbopdapaa.PCat.slice_event ?hg (N := 42) ?hd (cs := #[.slice Ao47 t142.length co47, .slice Ao49 t145.length co49, .slice Ao51 t148.length co51]) (t := 33) (m := 3) ?hr ?_; (case hd => rfl); (case hg => rfl); (case hr => first | (go_simp; done) | (go_simp; rfl)); intro gs_ hgs_ ws_ hbs_ hb; have a_ := Aside0.mk (Kd.R_below (by (with_reducible repeat (first | apply Kd.R_alloc | apply Kd.R_drewN | apply Kd.R_drew)); exact HO_3.out) hb); clear HO_3; have HO_3 := a_; clear a_; have a_ := Aside0.mk (Kd.R_below (by (with_reducible repeat (first | apply Kd.R_alloc | apply Kd.R_drewN | apply Kd.R_drew)); exact HO_4.out) hb); clear HO_4; have HO_4 := a_; clear a_; have a_ := Aside0.mk (Kd.R_below (by (with_reducible repeat (first | apply Kd.R_alloc | apply Kd.R_drewN | apply Kd.R_drew)); exact HO_5.out) hb); clear HO_5; have HO_5 := a_; clear a_; have a_ := Aside0.mk (Go.Proofs.Ytenehkjbopdapaa.PMap.MapR.below (by (with_reducible repeat (first | apply Go.Proofs.Ytenehkjbopdapaa.PMap.MapR.alloc | apply Go.Proofs.Ytenehkjbopdapaa.PMap.MapR.drewN | apply Go.Proofs.Ytenehkjbopdapaa.PMap.MapR.drew)); exact HO156.out) hb); clear HO156; have HO156 := a_; clear a_; have a_ := Aside0.mk ((hb.block _ (blk_lt BK140.out)).trans BK140.out); clear BK140; have BK140 := a_; clear a_; have a_ := Aside0.mk (below_step (by repeat (first | (with_reducible first | exact HB.out | apply below_alloc | apply pw_below_drewN | apply below_drew1 | refine below_set ?_ GE140.out) | exact HB.out)) hb); clear HB; have HB := a_; clear a_; have BKs_ := Aside0.mk hbs_; clear hgs_ hbs_ hb) | ((with_reducible refine gate_callee (f := 50) rfl ?_); refine goesL_ (some 43) rfl rfl Try.func50 (by kernel_rfl) rfl #[.slice (some ⟨gs_, 0, none⟩) 3 3] rfl (by (try simp only [List.map_toArray, List.map_cons, List.map_nil]); first | done | rfl) ?_; (with_reducible refine (Go.Proofs.Ytenehkjbopdapaa.PCat.concat3 _ gs_ _ _ _ _ _ _ t142 t145 t148 BKs_.out ?c0 ?c1 ?c2 ?hs).mono ?_); (case c0 => exact (Kd.R_reads' HO_3.out).2.2); (case c1 => exact (Kd.R_reads' HO_4.out).2.2); (case c2 => exact (Kd.R_reads' HO_5.out).2.2); (case hs => have h1_ := LMc41.out; (try rw [Ny166.out] at h1_); (try rw [Ny163.out] at h1_); (try rw [Ny160.out] at h1_); (try rw [Ny157.out] at h1_); (try rw [Ny157.out] at h1_); (try rw [Ny157.out] at h1_); simp at h1_; omega); rintro e wr_ ⟨vr_, rfl, ho, hb⟩; refine ⟨_, rfl, ?_⟩; rw [(show t142 ++ t145 ++ t148 = y166 from by rw [Ny166.out, Ny163.out, Ny160.out, Ny157.out]; simp)] at ho; have ho1_ := Kd.R_lower (Kd.R_new' (Kd.R_new' (Kd.R_new' ho (Kd.R_lt (by (with_reducible repeat (first | apply Kd.R_alloc | apply Kd.R_drewN | apply Kd.R_drew)); exact HO_3.out))) (Kd.R_lt (by (with_reducible repeat (first | apply Kd.R_alloc | apply Kd.R_drewN | apply Kd.R_drew)); exact HO_4.out))) (Kd.R_lt (by (with_reducible repeat (first | apply Kd.R_alloc | apply Kd.R_drewN | apply Kd.R_drew)); exact HO_5.out))) (below_size (by repeat (first | (with_reducible first | exact HB.out | apply below_alloc | apply pw_below_drewN | apply below_drew1 | refine below_set ?_ GE140.out) | exact HB.out))); have nr_ := Aside0.mk (Kd.R_mono (ok' := (fun k_ => some k_ ≠ (.slice Ao47 t142.length co47 : Value).ownBlock ∧ some k_ ≠ (.slice Ao49 t145.length co49 : Value).ownBlock ∧ some k_ ≠ (.slice Ao51 t148.length co51 : Value).ownBlock ∧ some k_ ≠ ((.map (some gm_)) : Value).ownBlock)) ho1_ (fun k_ hk_ => by first | (simp [Go.Proofs.Ytenehkjbopdapaa.PMap.map_own] at hk_ ⊢; simp [hk_]) | (simp [Go.Proofs.Ytenehkjbopdapaa.PMap.map_own] at hk_ ⊢; exact hk_) | simp_all [Go.Proofs.Ytenehkjbopdapaa.PMap.map_own])); have a_ := Aside0.mk (Kd.R_mono (ok' := fun k_ => (some k_ ≠ (.slice Ao49 t145.length co49 : Value).ownBlock ∧ some k_ ≠ (.slice Ao51 t148.length co51 : Value).ownBlock ∧ some k_ ≠ ((.map (some gm_)) : Value).ownBlock) ∧ some k_ ≠ (vr_ : Value).ownBlock) (Kd.R_elder' (v := vr_) HO_3.out (Kd.R_base ho) hb) (fun k_ hk_ => by first | (simp [Go.Proofs.Ytenehkjbopdapaa.PMap.map_own] at hk_ ⊢; simp [hk_]) | (simp [Go.Proofs.Ytenehkjbopdapaa.PMap.map_own] at hk_ ⊢; exact hk_) | simp_all [Go.Proofs.Ytenehkjbopdapaa.PMap.map_own])); clear HO_3; have HO_3 := a_; clear a_; have a_ := Aside0.mk (Kd.R_mono (ok' := fun k_ => (some k_ ≠ (.slice Ao47 t142.length co47 : Value).ownBlock ∧ some k_ ≠ (.slice Ao51 t148.length co51 : Value).ownBlock ∧ some k_ ≠ ((.map (some gm_)) : Value).ownBlock) ∧ some k_ ≠ (vr_ : Value).ownBlock) (Kd.R_elder' (v := vr_) HO_4.out (Kd.R_base ho) hb) (fun k_ hk_ => by first | (simp [Go.Proofs.Ytenehkjbopdapaa.PMap.map_own] at hk_ ⊢; simp [hk_]) | (simp [Go.Proofs.Ytenehkjbopdapaa.PMap.map_own] at hk_ ⊢; exact hk_) | simp_all [Go.Proofs.Ytenehkjbopdapaa.PMap.map_own])); clear HO_4; have HO_4 := a_; clear a_; have a_ := Aside0.mk (Kd.R_mono (ok' := fun k_ => (some k_ ≠ (.slice Ao47 t142.length co47 : Value).ownBlock ∧ some k_ ≠ (.slice Ao49 t145.length co49 : Value).ownBlock ∧ some k_ ≠ ((.map (some gm_)) : Value).ownBlock) ∧ some k_ ≠ (vr_ : Value).ownBlock) (Kd.R_elder' (v := vr_) HO_5.out (Kd.R_base ho) hb) (fun k_ hk_ => by first | (simp [Go.Proofs.Ytenehkjbopdapaa.PMap.map_own] at hk_ ⊢; simp [hk_]) | (simp [Go.Proofs.Ytenehkjbopdapaa.PMap.map_own] at hk_ ⊢; exact hk_) | simp_all [Go.Proofs.Ytenehkjbopdapaa.PMap.map_own])); clear HO_5; have HO_5 := a_; clear a_; have a_ := Aside0.mk (Go.Proofs.Ytenehkjbopdapaa.PMap.MapR.below HO156.out hb); clear HO156; have HO156 := a_; clear a_; have a_ := Aside0.mk ((hb.block _ (blk_lt BK140.out)).trans BK140.out); clear BK140; have BK140 := a_; clear a_; have a_ := Aside0.mk (below_step (by repeat (first | (with_reducible first | exact HB.out | apply below_alloc | apply pw_below_drewN | apply below_drew1 | refine below_set ?_ GE140.out) | exact HB.out)) hb); clear HB; have HB := a_; clear a_; have HO168 := nr_; clear nr_ ho1_ BKs_; clear ho hb; obtain ⟨Ao52, co52, eo52⟩ := Kd.R_slice HO168.out; subst eo52) | (go_at_call 50; (with_reducible refine (Go.Proofs.Ytenehkjbopdapaa.PCat.concat3 _ gs_ _ _ _ _ _ _ t142 t145 t148 BKs_.out ?c0 ?c1 ?c2 ?hs).mono ?_); (case c0 => exact (Kd.R_reads' HO_3.out).2.2); (case c1 => exact (Kd.R_reads' HO_4.out).2.2); (case c2 => exact (Kd.R_reads' HO_5.out).2.2); (case hs => have h1_ := LMc41.out; (try rw [Ny166.out] at h1_); (try rw [Ny163.out] at h1_); (try rw [Ny160.out] at h1_); (try rw [Ny157.out] at h1_); (try rw [Ny157.out] at h1_); (try rw [Ny157.out] at h1_); simp at h1_; omega); rintro e wr_ ⟨vr_, rfl, ho, hb⟩; rw [(show t142 ++ t145 ++ t148 = y166 from by rw [Ny166.out, Ny163.out, Ny160.out, Ny157.out]; simp)] at ho; have ho1_ := Kd.R_lower (Kd.R_new' (Kd.R_new' (Kd.R_new' ho (Kd.R_lt (by (with_reducible repeat (first | apply Kd.R_alloc | apply Kd.R_drewN | apply Kd.R_drew)); exact HO_3.out))) (Kd.R_lt (by (with_reducible repeat (first | apply Kd.R_alloc | apply Kd.R_drewN | apply Kd.R_drew)); exact HO_4.out))) (Kd.R_lt (by (with_reducible repeat (first | apply Kd.R_alloc | apply Kd.R_drewN | apply Kd.R_drew)); exact HO_5.out))) (below_size (by repeat (first | (with_reducible first | exact HB.out | apply below_alloc | apply pw_below_drewN | apply below_drew1 | refine below_set ?_ GE140.out) | exact HB.out))); have nr_ := Aside0.mk (Kd.R_mono (ok' := (fun k_ => some k_ ≠ (.slice Ao47 t142.length co47 : Value).ownBlock ∧ some k_ ≠ (.slice Ao49 t145.length co49 : Value).ownBlock ∧ some k_ ≠ (.slice Ao51 t148.length co51 : Value).ownBlock ∧ some k_ ≠ ((.map (some gm_)) : Value).ownBlock)) ho1_ (fun k_ hk_ => by first | (simp [Go.Proofs.Ytenehkjbopdapaa.PMap.map_own] at hk_ ⊢; simp [hk_]) | (simp [Go.Proofs.Ytenehkjbopdapaa.PMap.map_own] at hk_ ⊢; exact hk_) | simp_all [Go.Proofs.Ytenehkjbopdapaa.PMap.map_own])); have a_ := Aside0.mk (Kd.R_mono (ok' := fun k_ => (some k_ ≠ (.slice Ao49 t145.length co49 : Value).ownBlock ∧ some k_ ≠ (.slice Ao51 t148.length co51 : Value).ownBlock ∧ some k_ ≠ ((.map (some gm_)) : Value).ownBlock) ∧ some k_ ≠ (vr_ : Value).ownBlock) (Kd.R_elder' (v := vr_) HO_3.out (Kd.R_base ho) hb) (fun k_ hk_ => by first | (simp [Go.Proofs.Ytenehkjbopdapaa.PMap.map_own] at hk_ ⊢; simp [hk_]) | (simp [Go.Proofs.Ytenehkjbopdapaa.PMap.map_own] at hk_ ⊢; exact hk_) | simp_all [Go.Proofs.Ytenehkjbopdapaa.PMap.map_own])); clear HO_3; have HO_3 := a_; clear a_; have a_ := Aside0.mk (Kd.R_mono (ok' := fun k_ => (some k_ ≠ (.slice Ao47 t142.length co47 : Value).ownBlock ∧ some k_ ≠ (.slice Ao51 t148.length co51 : Value).ownBlock ∧ some k_ ≠ ((.map (some gm_)) : Value).ownBlock) ∧ some k_ ≠ (vr_ : Value).ownBlock) (Kd.R_elder' (v := vr_) HO_4.out (Kd.R_base ho) hb) (fun k_ hk_ => by first | (simp [Go.Proofs.Ytenehkjbopdapaa.PMap.map_own] at hk_ ⊢; simp [hk_]) | (simp [Go.Proofs.Ytenehkjbopdapaa.PMap.map_own] at hk_ ⊢; exact hk_) | simp_all [Go.Proofs.Ytenehkjbopdapaa.PMap.map_own])); clear HO_4; have HO_4 := a_; clear a_; have a_ := Aside0.mk (Kd.R_mono (ok' := fun k_ => (some k_ ≠ (.slice Ao47 t142.length co47 : Value).ownBlock ∧ some k_ ≠ (.slice Ao49 t145.length co49 : Value).ownBlock ∧ some k_ ≠ ((.map (some gm_)) : Value).ownBlock) ∧ some k_ ≠ (vr_ : Value).ownBlock) (Kd.R_elder' (v := vr_) HO_5.out (Kd.R_base ho) hb) (fun k_ hk_ => by first | (simp [Go.Proofs.Ytenehkjbopdapaa.PMap.map_own] at hk_ ⊢; simp [hk_]) | (simp [Go.Proofs.Ytenehkjbopdapaa.PMap.map_own] at hk_ ⊢; exact hk_) | simp_all [Go.Proofs.Ytenehkjbopdapaa.PMap.map_own])); clear HO_5; have HO_5 := a_; clear a_; have a_ := Aside0.mk (Go.Proofs.Ytenehkjbopdapaa.PMap.MapR.below HO156.out hb); clear HO156; have HO156 := a_; clear a_; have a_ := Aside0.mk ((hb.block _ (blk_lt BK140.out)).trans BK140.out); clear BK140; have BK140 := a_; clear a_; have a_ := Aside0.mk (below_step (by repeat (first | (with_reducible first | exact HB.out | apply below_alloc | apply pw_below_drewN | apply below_drew1 | refine below_set ?_ GE140.out) | exact HB.out)) hb); clear HB; have HB := a_; clear a_; have HO168 := nr_; clear nr_ ho1_ BKs_; clear ho hb; obtain ⟨Ao52, co52, eo52⟩ := Kd.R_slice HO168.out; subst eo52))
                go_loopg [45] kj6 (fun kq v45 w' => ∃ (x6_2 : List Int) (x45_2 : Int), v45 = .int .i64 x45_2 ∧ Aside0 (impl_ArnOk.l0 kq t142 t145 t148 x6_2 y166 (y166.length : Int) x45_2 l0_0 a0_1 a0_2 a0_3 = some r) ∧ Aside0 (kq ≤ kj6) ∧ Aside0 (Kd.R (Kd.int .i64) 3 w' w.heap.size (fun k_ => some k_ ≠ ((.slice Ao49 t145.length co49) : Value).ownBlock ∧ some k_ ≠ ((.slice Ao51 t148.length co51) : Value).ownBlock ∧ some k_ ≠ ((.map (some gm_)) : Value).ownBlock ∧ some k_ ≠ ((.slice Ao52 y166.length co52) : Value).ownBlock) (.slice Ao47 t142.length co47) t142) ∧ Aside0 (Kd.R (Kd.int .i64) 3 w' w.heap.size (fun k_ => some k_ ≠ ((.slice Ao47 t142.length co47) : Value).ownBlock ∧ some k_ ≠ ((.slice Ao51 t148.length co51) : Value).ownBlock ∧ some k_ ≠ ((.map (some gm_)) : Value).ownBlock ∧ some k_ ≠ ((.slice Ao52 y166.length co52) : Value).ownBlock) (.slice Ao49 t145.length co49) t145) ∧ Aside0 (Kd.R (Kd.int .i64) 3 w' w.heap.size (fun k_ => some k_ ≠ ((.slice Ao47 t142.length co47) : Value).ownBlock ∧ some k_ ≠ ((.slice Ao49 t145.length co49) : Value).ownBlock ∧ some k_ ≠ ((.map (some gm_)) : Value).ownBlock ∧ some k_ ≠ ((.slice Ao52 y166.length co52) : Value).ownBlock) (.slice Ao51 t148.length co51) t148) ∧ Aside0 (Go.Proofs.Ytenehkjbopdapaa.PMap.MapR w' w.heap.size gm_ x6_2) ∧ Aside0 (Kd.R (Kd.int .i64) 3 w' w.heap.size (fun k_ => some k_ ≠ ((.slice Ao47 t142.length co47) : Value).ownBlock ∧ some k_ ≠ ((.slice Ao49 t145.length co49) : Value).ownBlock ∧ some k_ ≠ ((.slice Ao51 t148.length co51) : Value).ownBlock ∧ some k_ ≠ ((.map (some gm_)) : Value).ownBlock) (.slice Ao52 y166.length co52) y166) ∧ Aside0 (w'.heap[gb140]? = some (.cells #[(.slice A0_0 l0_0.length c0_0), .int .i64 a0_1, .int .i64 a0_2, .int .i64 a0_3] 29 (0, 0))) ∧ Aside0 (Below w.heap.size w w'))
                case atStart => exact ⟨(y154), (0), (by first | rfl | (simp; done) | (simp [*]; done)), H', ⟨Nat.le_refl _⟩, ⟨by (with_reducible repeat (first | apply Kd.R_alloc | apply Kd.R_drewN | apply Kd.R_drew)); exact Kd.R_mono HO_3.out (fun _ hk => ⟨hk.1.1, ⟨hk.1.2.1, ⟨hk.1.2.2, hk.2⟩⟩⟩)⟩, ⟨by (with_reducible repeat (first | apply Kd.R_alloc | apply Kd.R_drewN | apply Kd.R_drew)); exact Kd.R_mono HO_4.out (fun _ hk => ⟨hk.1.1, ⟨hk.1.2.1, ⟨hk.1.2.2, hk.2⟩⟩⟩)⟩, ⟨by (with_reducible repeat (first | apply Kd.R_alloc | apply Kd.R_drewN | apply Kd.R_drew)); exact Kd.R_mono HO_5.out (fun _ hk => ⟨hk.1.1, ⟨hk.1.2.1, ⟨hk.1.2.2, hk.2⟩⟩⟩)⟩, ⟨by (with_reducible repeat (first | apply Go.Proofs.Ytenehkjbopdapaa.PMap.MapR.alloc | apply Go.Proofs.Ytenehkjbopdapaa.PMap.MapR.drewN | apply Go.Proofs.Ytenehkjbopdapaa.PMap.MapR.drew)); exact HO156.out⟩, ⟨by (with_reducible repeat (first | apply Kd.R_alloc | apply Kd.R_drewN | apply Kd.R_drew)); exact HO168.out⟩, ⟨by (with_reducible repeat (first | refine blk_drewN ?_ _ | refine blk_drew ?_ | refine blk_alloc ?_ _)); exact BK140.out⟩, ⟨by repeat (first | (with_reducible first | exact HB.out | apply below_alloc | apply pw_below_drewN | apply below_drew1 | refine below_set ?_ GE140.out) | exact HB.out)⟩⟩
                case round =>
                  clear H'
                  try clear c1
                  try clear c2
                  try clear p2
                  try clear c3
                  try clear c4
                  try clear c10
                  try clear c16
                  try clear c18
                  try clear c24
                  try clear c38
                  try clear c39
                  try clear c40
                  try clear c41
                  try clear c46
                  try clear c47
                  try clear c48
                  try clear c49
                  try clear hcz20_0
                  try clear hcz20_1
                  try clear hcz20_2
                  try clear hcz20_3
                  try clear hcz23_0
                  try clear hcz23_1
                  try clear hcz23_2
                  try clear hcz23_3
                  try clear hcz26_0
                  try clear hcz26_1
                  try clear hcz26_2
                  try clear hcz26_3
                  try clear hcz29_0
                  try clear hcz29_1
                  try clear hcz29_2
                  try clear hcz29_3
                  try clear hcz32_0
                  try clear hcz32_1
                  try clear hcz32_2
                  try clear hcz32_3
                  try clear hcz35_0
                  try clear hcz35_1
                  try clear hcz35_2
                  try clear hcz35_3
                  try clear hcz9_0
                  try clear hcz9_1
                  try clear hcz9_2
                  try clear hcz9_3
                  try clear hfz20_0
                  try clear hfz20_1
                  try clear hfz20_2
                  try clear hfz20_3
                  try clear hfz23_0
                  try clear hfz23_1
                  try clear hfz23_2
                  try clear hfz23_3
                  try clear hfz26_0
                  try clear hfz26_1
                  try clear hfz26_2
                  try clear hfz26_3
                  try clear hfz29_0
                  try clear hfz29_1
                  try clear hfz29_2
                  try clear hfz29_3
                  try clear hfz32_0
                  try clear hfz32_1
                  try clear hfz32_2
                  try clear hfz32_3
                  try clear hfz35_0
                  try clear hfz35_1
                  try clear hfz35_2
                  try clear hfz35_3
                  try clear hfz9_0
                  try clear hfz9_1
                  try clear hfz9_2
                  try clear hfz9_3
                  try clear p2
                  obtain ⟨x6_2, x45_2, rfl, HA, HK2, HO_3, HO_4, HO_5, HO_6, HO_43, BK140, HB⟩ := hrel
                  cases gk with
                  | zero => exact absurd HA.out (by simp [impl_ArnOk.l0])
                  | succ k2 =>
                    have H := HA.out
                    clear HA
                    simp only [impl_ArnOk.l0] at H
                    by_cases c53 : x45_2 < (y166.length : Int)
                    · rw [if_pos c53] at H
                      have c53b0 : decide (x45_2 < (y166.length : Int)) = true := decide_eq_true c53
                      clear c53
                      by_cases c54 : 0 ≤ x45_2
                      · rw [if_pos c54] at H
                        have c54b0 : decide (0 ≤ x45_2) = true := decide_eq_true c54
                        clear c54
                        by_cases c55 : x45_2 < (y166.length : Int)
                        · rw [if_pos c55] at H
                          have c55b0 : decide (x45_2 < (y166.length : Int)) = true := decide_eq_true c55
                          clear c55
                          replace H := Option.bind_eq_some_iff.mp H
                          obtain ⟨t170, A560, H⟩ := H
                          replace H : (if t170 = true then (some false) else (if 0 ≤ (rd y166 x45_2) then (if (rd y166 x45_2) < (l0_0.length : Int) then (if ((rd_T62 l0_0 (rd y166 x45_2)).f4 = true) then (if x6_2.length < 17592186044416 then (impl_ArnOk.l0 k2 t142 t145 t148 (x6_2 ++ [rd y166 x45_2]) y166 (y166.length : Int) (wrap64 (x45_2 + 1)) l0_0 a0_1 a0_2 a0_3) else (none)) else (some false)) else (none)) else (none))) = some r := H
                          have A56 := Aside0.mk A560
                          clear A560
                          by_cases c57 : t170 = true
                          · subst c57
                            have H1 : (some false) = some r := by rw [if_pos rfl] at H; exact H
                            clear H
                            have H := H1
                            clear H1
                            obtain rfl := Option.some.inj H
                            have p169 : 0 ≤ (x45_2 : Int) := of_decide_eq_true (by first | (with_reducible assumption) | assumption)
                            have q169 : x45_2 < (y166.length : Int) := of_decide_eq_true (by first | (with_reducible assumption) | assumption)
                            obtain ⟨ad169, e169, hx169_0⟩ := Kd.at_int (Kd.R_reads' HO_43.out).2.2 x45_2 p169 q169
                            cases e169
                            replace p169 := eq_true p169
                            replace q169 := eq_true q169
                            go_wp2_with (first | ((with_reducible refine gate_dst (N := 51) rfl ?_); refine Go.Proofs.Ytenehkjbopdapaa.PMap.look_event (m := .tmp 49) (x := .tmp 50) ?hg (N := 51) ?hd ?ho w.heap.size gm_ (rd y166 x45_2) x6_2 true ?hm ?hx (hasW_wf A56.out) ?h0 (hasW_has A56.out) ?_; (case hg => rfl); (case hd => rfl); (case ho => rfl); (case hm => rfl); (case hx => rfl); (case h0 => (with_reducible repeat (first | apply Go.Proofs.Ytenehkjbopdapaa.PMap.MapR.alloc | apply Go.Proofs.Ytenehkjbopdapaa.PMap.MapR.drewN | apply Go.Proofs.Ytenehkjbopdapaa.PMap.MapR.drew)); exact HO_6.out)))
                            go_ret
                            exact ⟨by first | rfl | (simp [errW_none, errW_some] <;> rfl) | (simp [*, errW_none, errW_some] <;> rfl), by repeat (first | (with_reducible first | exact HB.out | apply below_alloc | apply pw_below_drewN | apply below_drew1 | refine below_set ?_ GE140.out) | exact HB.out)⟩
                          · replace c57 := Bool.eq_false_iff.mpr c57
                            subst c57
                            have H1 : (if 0 ≤ (rd y166 x45_2) then (if (rd y166 x45_2) < (l0_0.length : Int) then (if ((rd_T62 l0_0 (rd y166 x45_2)).f4 = true) then (if x6_2.length < 17592186044416 then (impl_ArnOk.l0 k2 t142 t145 t148 (x6_2 ++ [rd y166 x45_2]) y166 (y166.length : Int) (wrap64 (x45_2 + 1)) l0_0 a0_1 a0_2 a0_3) else (none)) else (some false)) else (none)) else (none)) = some r := by rw [if_neg (show ¬ (false = true) by decide)] at H; exact H
                            clear H
                            have H := H1
                            clear H1
                            by_cases c59 : 0 ≤ (rd y166 x45_2)
                            · rw [if_pos c59] at H
                              have c59b0 : decide (0 ≤ (rd y166 x45_2)) = true := decide_eq_true c59
                              clear c59
                              by_cases c60 : (rd y166 x45_2) < (l0_0.length : Int)
                              · rw [if_pos c60] at H
                                have c60b0 : decide ((rd y166 x45_2) < (l0_0.length : Int)) = true := decide_eq_true c60
                                clear c60
                                obtain ⟨bq61, hbq61⟩ : ∃ b_ : Bool, b_ = ((rd_T62 l0_0 (rd y166 x45_2)).f4) := ⟨_, rfl⟩
                                replace H : (if (bq61 = true) then (if x6_2.length < 17592186044416 then (impl_ArnOk.l0 k2 t142 t145 t148 (x6_2 ++ [rd y166 x45_2]) y166 (y166.length : Int) (wrap64 (x45_2 + 1)) l0_0 a0_1 a0_2 a0_3) else (none)) else (some false)) = some r := by rw [← hbq61] at H; exact H
                                have Nbq61 := Aside0.mk hbq61
                                clear hbq61
                                by_cases c62 : (bq61 = true)
                                · subst c62
                                  have H1 : (if x6_2.length < 17592186044416 then (impl_ArnOk.l0 k2 t142 t145 t148 (x6_2 ++ [rd y166 x45_2]) y166 (y166.length : Int) (wrap64 (x45_2 + 1)) l0_0 a0_1 a0_2 a0_3) else (none)) = some r := by rw [if_pos rfl] at H; exact H
                                  clear H
                                  have H := H1
                                  clear H1
                                  by_cases c63 : x6_2.length < 17592186044416
                                  · rw [if_pos c63] at H
                                    have LMc63 := Aside0.mk c63
                                    clear c63
                                    obtain ⟨y172, hy172⟩ : ∃ y_ : List Int, y_ = (x6_2 ++ [rd y166 x45_2]) := ⟨_, rfl⟩
                                    replace H : (impl_ArnOk.l0 k2 t142 t145 t148 y172 y166 (y166.length : Int) (wrap64 (x45_2 + 1)) l0_0 a0_1 a0_2 a0_3) = some r := by first | (rw [hy172]; with_reducible exact H) | (have H2_ := (Option.bind_some _ _).symm.trans H; rw [hy172]; with_reducible exact H2_) | (have H2_ := (Option.bind_some _ _).symm.trans H; with_reducible exact H2_) | with_reducible exact H | (rw [hy172]; exact H) | exact H
                                    have Ny172 := Aside0.mk hy172
                                    clear hy172
                                    have H' := Aside0.mk H
                                    clear H
                                    have p169 : 0 ≤ (x45_2 : Int) := of_decide_eq_true (by first | (with_reducible assumption) | assumption)
                                    have q169 : x45_2 < (y166.length : Int) := of_decide_eq_true (by first | (with_reducible assumption) | assumption)
                                    obtain ⟨ad169, e169, hx169_0⟩ := Kd.at_int (Kd.R_reads' HO_43.out).2.2 x45_2 p169 q169
                                    cases e169
                                    replace p169 := eq_true p169
                                    replace q169 := eq_true q169
                                    go_wp2_with (first | ((with_reducible refine gate_dst (N := 51) rfl ?_); refine Go.Proofs.Ytenehkjbopdapaa.PMap.look_event (m := .tmp 49) (x := .tmp 50) ?hg (N := 51) ?hd ?ho w.heap.size gm_ (rd y166 x45_2) x6_2 false ?hm ?hx (hasW_wf A56.out) ?h0 (hasW_has A56.out) ?_; (case hg => rfl); (case hd => rfl); (case ho => rfl); (case hm => rfl); (case hx => rfl); (case h0 => (with_reducible repeat (first | apply Go.Proofs.Ytenehkjbopdapaa.PMap.MapR.alloc | apply Go.Proofs.Ytenehkjbopdapaa.PMap.MapR.drewN | apply Go.Proofs.Ytenehkjbopdapaa.PMap.MapR.drew)); exact HO_6.out); have hcz65_0 : wr.cell? ⟨gb140, 0, none⟩ = some (.slice A0_0 l0_0.length c0_0) := (blk_cell BK140.out 0).trans rfl; have hcz65_1 : wr.cell? ⟨gb140, 1, none⟩ = some (.int .i64 a0_1) := (blk_cell BK140.out 1).trans rfl; have hcz65_2 : wr.cell? ⟨gb140, 2, none⟩ = some (.int .i64 a0_2) := (blk_cell BK140.out 2).trans rfl; have hcz65_3 : wr.cell? ⟨gb140, 3, none⟩ = some (.int .i64 a0_3) := (blk_cell BK140.out 3).trans rfl; have hfz65_0 := blk_frozen BK140.out 0; have hfz65_1 := blk_frozen BK140.out 1; have hfz65_2 := blk_frozen BK140.out 2; have hfz65_3 := blk_frozen BK140.out 3; have p171 : 0 ≤ ((rd y166 x45_2) : Int) := of_decide_eq_true (by first | (with_reducible assumption) | assumption); have q171 : (rd y166 x45_2) < (l0_0.length : Int) := of_decide_eq_true (by first | (with_reducible assumption) | assumption); obtain ⟨ad171, e171, hx171_0, hx171_1, hx171_2, hx171_3, hx171_4, hx171_5⟩ := at_T62 HR0_0.out (rd y166 x45_2) p171 q171; (try rw [← Nbq61.out] at hx171_4); cases e171; replace hx171_0 := (HB.out.cell (World.block_lt_of_cell? w _ hx171_0)).trans hx171_0; replace hx171_1 := (HB.out.cell (World.block_lt_of_cell? w _ hx171_1)).trans hx171_1; replace hx171_2 := (HB.out.cell (World.block_lt_of_cell? w _ hx171_2)).trans hx171_2; replace hx171_3 := (HB.out.cell (World.block_lt_of_cell? w _ hx171_3)).trans hx171_3; replace hx171_4 := (HB.out.cell (World.block_lt_of_cell? w _ hx171_4)).trans hx171_4; replace hx171_5 := (HB.out.cell (World.block_lt_of_cell? w _ hx171_5)).trans hx171_5; replace p171 := eq_true p171; replace q171 := eq_true q171) | ((with_reducible refine Go.Proofs.Ytenehkjbopdapaa.PMap.gate_update (t := 65) (m := .tmp 61) (x := .tmp 62) (v := .const (.bool true)) rfl ?_); refine Go.Proofs.Ytenehkjbopdapaa.PMap.set_event (m := .tmp 61) (x := .tmp 62) (v := .const (.bool true)) ?hg ?ho w.heap.size gm_ (rd y166 x45_2) x6_2 ?hm ?hx ?hv (hasW_wf A56.out) ?hl ?h0 ?_; (case hg => rfl); (case ho => rfl); (case hm => rfl); (case hx => rfl); (case hv => rfl); (case hl => have := LMc63.out; unfold maxLen; omega); (case h0 => (with_reducible repeat (first | apply Go.Proofs.Ytenehkjbopdapaa.PMap.MapR.alloc | apply Go.Proofs.Ytenehkjbopdapaa.PMap.MapR.drewN | apply Go.Proofs.Ytenehkjbopdapaa.PMap.MapR.drew)); exact HO_6.out); intro w66 ho hg; have hb := Below.grown (by repeat (first | (with_reducible first | exact HB.out | apply below_alloc | apply pw_below_drewN | apply below_drew1 | refine below_set ?_ GE140.out) | exact HB.out)) hg (below_size (by repeat (first | (with_reducible first | exact HB.out | apply below_alloc | apply pw_below_drewN | apply below_drew1 | refine below_set ?_ GE140.out) | exact HB.out))) (fun k hk => by injection hk with hk; subst hk; exact HO_6.out.1); rw [← Ny172.out] at ho; have n0_ := Aside0.mk (Kd.R_reok (ok := fun k_ => (some k_ ≠ (.slice Ao49 t145.length co49 : Value).ownBlock ∧ some k_ ≠ (.slice Ao51 t148.length co51 : Value).ownBlock ∧ some k_ ≠ (.slice (some ad169) y166.length co52 : Value).ownBlock) ∧ some k_ ≠ ((.map (some gm_)) : Value).ownBlock) rfl (Kd.R_grown (Kd.R_tight rfl HO_3.out) hg (fun k_ hkt_ he_ => HO_6.out.ne_typed (Kd.R_typed HO_3.out k_ hkt_.symm) (Option.some.inj he_))) (fun k_ e_ => by have hk_ := HO_3.out.1 k_ e_; first | (simp [Go.Proofs.Ytenehkjbopdapaa.PMap.map_own] at hk_ ⊢; simp [hk_]) | (simp [Go.Proofs.Ytenehkjbopdapaa.PMap.map_own] at hk_ ⊢; exact hk_) | simp_all [Go.Proofs.Ytenehkjbopdapaa.PMap.map_own])); have n1_ := Aside0.mk (Kd.R_reok (ok := fun k_ => (some k_ ≠ (.slice Ao47 t142.length co47 : Value).ownBlock ∧ some k_ ≠ (.slice Ao51 t148.length co51 : Value).ownBlock ∧ some k_ ≠ (.slice (some ad169) y166.length co52 : Value).ownBlock) ∧ some k_ ≠ ((.map (some gm_)) : Value).ownBlock) rfl (Kd.R_grown (Kd.R_tight rfl HO_4.out) hg (fun k_ hkt_ he_ => HO_6.out.ne_typed (Kd.R_typed HO_4.out k_ hkt_.symm) (Option.some.inj he_))) (fun k_ e_ => by have hk_ := HO_4.out.1 k_ e_; first | (simp [Go.Proofs.Ytenehkjbopdapaa.PMap.map_own] at hk_ ⊢; simp [hk_]) | (simp [Go.Proofs.Ytenehkjbopdapaa.PMap.map_own] at hk_ ⊢; exact hk_) | simp_all [Go.Proofs.Ytenehkjbopdapaa.PMap.map_own])); have n2_ := Aside0.mk (Kd.R_reok (ok := fun k_ => (some k_ ≠ (.slice Ao47 t142.length co47 : Value).ownBlock ∧ some k_ ≠ (.slice Ao49 t145.length co49 : Value).ownBlock ∧ some k_ ≠ (.slice (some ad169) y166.length co52 : Value).ownBlock) ∧ some k_ ≠ ((.map (some gm_)) : Value).ownBlock) rfl (Kd.R_grown (Kd.R_tight rfl HO_5.out) hg (fun k_ hkt_ he_ => HO_6.out.ne_typed (Kd.R_typed HO_5.out k_ hkt_.symm) (Option.some.inj he_))) (fun k_ e_ => by have hk_ := HO_5.out.1 k_ e_; first | (simp [Go.Proofs.Ytenehkjbopdapaa.PMap.map_own] at hk_ ⊢; simp [hk_]) | (simp [Go.Proofs.Ytenehkjbopdapaa.PMap.map_own] at hk_ ⊢; exact hk_) | simp_all [Go.Proofs.Ytenehkjbopdapaa.PMap.map_own])); have n3_ := Aside0.mk (Kd.R_reok (ok := fun k_ => (some k_ ≠ (.slice Ao47 t142.length co47 : Value).ownBlock ∧ some k_ ≠ (.slice Ao49 t145.length co49 : Value).ownBlock ∧ some k_ ≠ (.slice Ao51 t148.length co51 : Value).ownBlock) ∧ some k_ ≠ ((.map (some gm_)) : Value).ownBlock) rfl (Kd.R_grown (Kd.R_tight rfl HO_43.out) hg (fun k_ hkt_ he_ => HO_6.out.ne_typed (Kd.R_typed HO_43.out k_ hkt_.symm) (Option.some.inj he_))) (fun k_ e_ => by have hk_ := HO_43.out.1 k_ e_; first | (simp [Go.Proofs.Ytenehkjbopdapaa.PMap.map_own] at hk_ ⊢; simp [hk_]) | (simp [Go.Proofs.Ytenehkjbopdapaa.PMap.map_own] at hk_ ⊢; exact hk_) | simp_all [Go.Proofs.Ytenehkjbopdapaa.PMap.map_own])); have n4_ := Aside0.mk (blk_grown (g := gb140) (o := .cells #[.slice (some ad171) l0_0.length c0_0, .int .i64 a0_1, .int .i64 a0_2, .int .i64 a0_3] 29 (0, 0)) (by (with_reducible repeat (first | refine blk_drewN ?_ _ | refine blk_drew ?_ | refine blk_alloc ?_ _)); exact BK140.out) hg (fun e_ => HO_6.out.ne BK140.out (Option.some.inj e_).symm)); have n5_ := Aside0.mk (hb); have n6_ := Aside0.mk (ho); clear HO_3; clear HO_4; clear HO_5; clear HO_43; clear BK140; clear HB; clear HO_6; have HO_3 := n0_; have HO_4 := n1_; have HO_5 := n2_; have HO_43 := n3_; have BK140 := n4_; have HB := n5_; have HO174 := n6_; clear n0_ n1_ n2_ n3_ n4_ n5_ n6_; clear ho hb hg))
                                    go_roundg k2
                                    case measure => have := HJ6.out; have := HK2.out; omega
                                    case rel => exact ⟨(y172), (wrap64 (x45_2 + 1)), (by first | rfl | (simp; done) | (simp [*]; done)), H', ⟨by have := HJ6.out; have := HK2.out; omega⟩, ⟨by (with_reducible repeat (first | apply Kd.R_alloc | apply Kd.R_drewN | apply Kd.R_drew)); exact Kd.R_mono HO_3.out (fun _ hk => ⟨hk.1.1, ⟨hk.1.2.1, ⟨hk.2, hk.1.2.2⟩⟩⟩)⟩, ⟨by (with_reducible repeat (first | apply Kd.R_alloc | apply Kd.R_drewN | apply Kd.R_drew)); exact Kd.R_mono HO_4.out (fun _ hk => ⟨hk.1.1, ⟨hk.1.2.1, ⟨hk.2, hk.1.2.2⟩⟩⟩)⟩, ⟨by (with_reducible repeat (first | apply Kd.R_alloc | apply Kd.R_drewN | apply Kd.R_drew)); exact Kd.R_mono HO_5.out (fun _ hk => ⟨hk.1.1, ⟨hk.1.2.1, ⟨hk.2, hk.1.2.2⟩⟩⟩)⟩, ⟨by (with_reducible repeat (first | apply Kd.R_alloc | apply Kd.R_drewN | apply Kd.R_drew)); exact HO174.out⟩, ⟨by (with_reducible repeat (first | apply Kd.R_alloc | apply Kd.R_drewN | apply Kd.R_drew)); exact Kd.R_mono HO_43.out (fun _ hk => ⟨hk.1.1, ⟨hk.1.2.1, ⟨hk.1.2.2, hk.2⟩⟩⟩)⟩, ⟨by (with_reducible repeat (first | refine blk_drewN ?_ _ | refine blk_drew ?_ | refine blk_alloc ?_ _)); exact BK140.out⟩, ⟨by repeat (first | (with_reducible first | exact HB.out | apply below_alloc | apply pw_below_drewN | apply below_drew1 | refine below_set ?_ GE140.out) | exact HB.out)⟩⟩
                                  · rw [if_neg c63] at H
                                    exact absurd H (by simp)
                                · replace c62 := Bool.eq_false_iff.mpr c62
                                  subst c62
                                  have H1 : (some false) = some r := by rw [if_neg (show ¬ (false = true) by decide)] at H; exact H
                                  clear H
                                  have H := H1
                                  clear H1
                                  obtain rfl := Option.some.inj H
                                  have p169 : 0 ≤ (x45_2 : Int) := of_decide_eq_true (by first | (with_reducible assumption) | assumption)
                                  have q169 : x45_2 < (y166.length : Int) := of_decide_eq_true (by first | (with_reducible assumption) | assumption)
                                  obtain ⟨ad169, e169, hx169_0⟩ := Kd.at_int (Kd.R_reads' HO_43.out).2.2 x45_2 p169 q169
                                  cases e169
                                  replace p169 := eq_true p169
                                  replace q169 := eq_true q169
                                  go_wp2_with (first | ((with_reducible refine gate_dst (N := 51) rfl ?_); refine Go.Proofs.Ytenehkjbopdapaa.PMap.look_event (m := .tmp 49) (x := .tmp 50) ?hg (N := 51) ?hd ?ho w.heap.size gm_ (rd y166 x45_2) x6_2 false ?hm ?hx (hasW_wf A56.out) ?h0 (hasW_has A56.out) ?_; (case hg => rfl); (case hd => rfl); (case ho => rfl); (case hm => rfl); (case hx => rfl); (case h0 => (with_reducible repeat (first | apply Go.Proofs.Ytenehkjbopdapaa.PMap.MapR.alloc | apply Go.Proofs.Ytenehkjbopdapaa.PMap.MapR.drewN | apply Go.Proofs.Ytenehkjbopdapaa.PMap.MapR.drew)); exact HO_6.out); have hcz68_0 : wr.cell? ⟨gb140, 0, none⟩ = some (.slice A0_0 l0_0.length c0_0) := (blk_cell BK140.out 0).trans rfl; have hcz68_1 : wr.cell? ⟨gb140, 1, none⟩ = some (.int .i64 a0_1) := (blk_cell BK140.out 1).trans rfl; have hcz68_2 : wr.cell? ⟨gb140, 2, none⟩ = some (.int .i64 a0_2) := (blk_cell BK140.out 2).trans rfl; have hcz68_3 : wr.cell? ⟨gb140, 3, none⟩ = some (.int .i64 a0_3) := (blk_cell BK140.out 3).trans rfl; have hfz68_0 := blk_frozen BK140.out 0; have hfz68_1 := blk_frozen BK140.out 1; have hfz68_2 := blk_frozen BK140.out 2; have hfz68_3 := blk_frozen BK140.out 3; have p171 : 0 ≤ ((rd y166 x45_2) : Int) := of_decide_eq_true (by first | (with_reducible assumption) | assumption); have q171 : (rd y166 x45_2) < (l0_0.length : Int) := of_decide_eq_true (by first | (with_reducible assumption) | assumption); obtain ⟨ad171, e171, hx171_0, hx171_1, hx171_2, hx171_3, hx171_4, hx171_5⟩ := at_T62 HR0_0.out (rd y166 x45_2) p171 q171; (try rw [← Nbq61.out] at hx171_4); cases e171; replace hx171_0 := (HB.out.cell (World.block_lt_of_cell? w _ hx171_0)).trans hx171_0; replace hx171_1 := (HB.out.cell (World.block_lt_of_cell? w _ hx171_1)).trans hx171_1; replace hx171_2 := (HB.out.cell (World.block_lt_of_cell? w _ hx171_2)).trans hx171_2; replace hx171_3 := (HB.out.cell (World.block_lt_of_cell? w _ hx171_3)).trans hx171_3; replace hx171_4 := (HB.out.cell (World.block_lt_of_cell? w _ hx171_4)).trans hx171_4; replace hx171_5 := (HB.out.cell (World.block_lt_of_cell? w _ hx171_5)).trans hx171_5; replace p171 := eq_true p171; replace q171 := eq_true q171))
                                  go_ret
                                  exact ⟨by first | rfl | (simp [errW_none, errW_some] <;> rfl) | (simp [*, errW_none, errW_some] <;> rfl), by repeat (first | (with_reducible first | exact HB.out | apply below_alloc | apply pw_below_drewN | apply below_drew1 | refine below_set ?_ GE140.out) | exact HB.out)⟩
                              · rw [if_neg c60] at H
                                exact absurd H (by simp)
                            · rw [if_neg c59] at H
                              exact absurd H (by simp)
                        · rw [if_neg c55] at H
                          exact absurd H (by simp)
                      · rw [if_neg c54] at H
                        exact absurd H (by simp)
                    · rw [if_neg c53] at H
                      have c53b0 : decide (x45_2 < (y166.length : Int)) = false := decide_eq_false c53
                      clear c53
                      have H' := Aside0.mk H
                      clear H
                      go_wp2
                      go_loopg [9] k2 (fun kq v9 w' => ∃ (x9_3 : Int), v9 = .int .i64 x9_3 ∧ Aside0 (impl_ArnOk.l1 kq t142 t145 t148 x9_3 l0_0 a0_1 a0_2 a0_3 = some r) ∧ Aside0 (kq ≤ k2) ∧ Aside0 (Kd.R (Kd.int .i64) 3 w' w.heap.size (fun k_ => some k_ ≠ ((.slice Ao49 t145.length co49) : Value).ownBlock ∧ some k_ ≠ ((.slice Ao51 t148.length co51) : Value).ownBlock) (.slice Ao47 t142.length co47) t142) ∧ Aside0 (Kd.R (Kd.int .i64) 3 w' w.heap.size (fun k_ => some k_ ≠ ((.slice Ao47 t142.length co47) : Value).ownBlock ∧ some k_ ≠ ((.slice Ao51 t148.length co51) : Value).ownBlock) (.slice Ao49 t145.length co49) t145) ∧ Aside0 (Kd.R (Kd.int .i64) 3 w' w.heap.size (fun k_ => some k_ ≠ ((.slice Ao47 t142.length co47) : Value).ownBlock ∧ some k_ ≠ ((.slice Ao49 t145.length co49) : Value).ownBlock) (.slice Ao51 t148.length co51) t148) ∧ Aside0 (w'.heap[gb140]? = some (.cells #[(.slice A0_0 l0_0.length c0_0), .int .i64 a0_1, .int .i64 a0_2, .int .i64 a0_3] 29 (0, 0))) ∧ Aside0 (Below w.heap.size w w'))
                      case atStart => exact ⟨(1), (by first | rfl | (simp; done) | (simp [*]; done)), H', ⟨Nat.le_refl _⟩, ⟨by (with_reducible repeat (first | apply Kd.R_alloc | apply Kd.R_drewN | apply Kd.R_drew)); exact Kd.R_mono HO_3.out (fun _ hk => ⟨hk.1, hk.2.1⟩)⟩, ⟨by (with_reducible repeat (first | apply Kd.R_alloc | apply Kd.R_drewN | apply Kd.R_drew)); exact Kd.R_mono HO_4.out (fun _ hk => ⟨hk.1, hk.2.1⟩)⟩, ⟨by (with_reducible repeat (first | apply Kd.R_alloc | apply Kd.R_drewN | apply Kd.R_drew)); exact Kd.R_mono HO_5.out (fun _ hk => ⟨hk.1, hk.2.1⟩)⟩, ⟨by (with_reducible repeat (first | refine blk_drewN ?_ _ | refine blk_drew ?_ | refine blk_alloc ?_ _)); exact BK140.out⟩, ⟨by repeat (first | (with_reducible first | exact HB.out | apply below_alloc | apply pw_below_drewN | apply below_drew1 | refine below_set ?_ GE140.out) | exact HB.out)⟩⟩
                      case round =>
                        clear H'
                        try clear c1
                        try clear p1
                        try clear q1
                        try clear hx1
                        try clear c2
                        try clear p2
                        try clear c3
                        try clear c4
                        try clear c5
                        try clear c6
                        try clear p6
                        try clear q6
                        try clear c7
                        try clear c10
                        try clear c16
                        try clear p16
                        try clear q16
                        try clear hx16
                        try clear p17
                        try clear q17
                        try clear hx17
                        try clear c18
                        try clear c24
                        try clear c38
                        try clear c39
                        try clear c40
                        try clear c41
                        try clear c46
                        try clear c47
                        try clear c48
                        try clear c49
                        try clear c53
                        try clear c53b0
                        try clear c54
                        try clear c54b0
                        try clear c55
                        try clear c55b0
                        try clear c57
                        try clear c59
                        try clear c59b0
                        try clear c60
                        try clear c60b0
                        try clear q61
                        try clear c62
                        try clear c63
                        try clear p64
                        try clear hcz20_0
                        try clear hcz20_1
                        try clear hcz20_2
                        try clear hcz20_3
                        try clear hcz23_0
                        try clear hcz23_1
                        try clear hcz23_2
                        try clear hcz23_3
                        try clear hcz26_0
                        try clear hcz26_1
                        try clear hcz26_2
                        try clear hcz26_3
                        try clear hcz29_0
                        try clear hcz29_1
                        try clear hcz29_2
                        try clear hcz29_3
                        try clear hcz32_0
                        try clear hcz32_1
                        try clear hcz32_2
                        try clear hcz32_3
                        try clear hcz35_0
                        try clear hcz35_1
                        try clear hcz35_2
                        try clear hcz35_3
                        try clear hcz65_0
                        try clear hcz65_1
                        try clear hcz65_2
                        try clear hcz65_3
                        try clear hcz68_0
                        try clear hcz68_1
                        try clear hcz68_2
                        try clear hcz68_3
                        try clear hcz9_0
                        try clear hcz9_1
                        try clear hcz9_2
                        try clear hcz9_3
                        try clear hfz20_0
                        try clear hfz20_1
                        try clear hfz20_2
                        try clear hfz20_3
                        try clear hfz23_0
                        try clear hfz23_1
                        try clear hfz23_2
                        try clear hfz23_3
                        try clear hfz26_0
                        try clear hfz26_1
                        try clear hfz26_2
                        try clear hfz26_3
                        try clear hfz29_0
                        try clear hfz29_1
                        try clear hfz29_2
                        try clear hfz29_3
                        try clear hfz32_0
                        try clear hfz32_1
                        try clear hfz32_2
                        try clear hfz32_3
                        try clear hfz35_0
                        try clear hfz35_1
                        try clear hfz35_2
                        try clear hfz35_3
                        try clear hfz65_0
                        try clear hfz65_1
                        try clear hfz65_2
                        try clear hfz65_3
                        try clear hfz68_0
                        try clear hfz68_1
                        try clear hfz68_2
                        try clear hfz68_3
                        try clear hfz9_0
                        try clear hfz9_1
                        try clear hfz9_2
                        try clear hfz9_3
                        try clear hx169_0
                        try clear hx171_0
                        try clear hx171_1
                        try clear hx171_2
                        try clear hx171_3
                        try clear hx171_4
                        try clear hx171_5
                        try clear p169
                        try clear p171
                        try clear p2
                        try clear q169
                        try clear q171
                        obtain ⟨x9_3, rfl, HA, HK3, HO_3, HO_4, HO_5, BK140, HB⟩ := hrel
                        cases gk with
                        | zero => exact absurd HA.out (by simp [impl_ArnOk.l1])
                        | succ k3 =>
                          have H := HA.out
                          clear HA
                          simp only [impl_ArnOk.l1] at H
                          by_cases c69 : x9_3 < (t142.length : Int)
                          · rw [if_pos c69] at H
                            have c69b0 : decide (x9_3 < (t142.length : Int)) = true := decide_eq_true c69
                            clear c69
                            obtain ⟨ji70, hji70⟩ : ∃ j_ : Int, (wrap64 (x9_3 - 1)) = j_ := ⟨_, rfl⟩
                            replace H : (if 0 ≤ (ji70) then (if (ji70) < (t142.length : Int) then (if 0 ≤ (rd t142 (ji70)) then (if (rd t142 (ji70)) < (l0_0.length : Int) then (if 0 ≤ x9_3 then (if 0 ≤ (rd t142 x9_3) then (if (rd t142 x9_3) < (l0_0.length : Int) then (if ((rd_T62 l0_0 (rd t142 (ji70))).f0) ≥ ((rd_T62 l0_0 (rd t142 x9_3)).f0) then (some false) else (impl_ArnOk.l1 k3 t142 t145 t148 (wrap64 (x9_3 + 1)) l0_0 a0_1 a0_2 a0_3)) else (none)) else (none)) else (none)) else (none)) else (none)) else (none)) else (none)) = some r := by first | (rw [hji70] at H; exact H) | (simp only [hji70] at H ⊢; exact H)
                            have hji70w : (IntKind.i64.wrap (x9_3 - 1)) = ji70 := (i64_w _).trans hji70
                            by_cases c71 : 0 ≤ (ji70)
                            · rw [if_pos c71] at H
                              have c71b0 : decide (0 ≤ (ji70)) = true := decide_eq_true c71
                              clear c71
                              by_cases c72 : (ji70) < (t142.length : Int)
                              · rw [if_pos c72] at H
                                have c72b0 : decide ((ji70) < (t142.length : Int)) = true := decide_eq_true c72
                                clear c72
                                by_cases c73 : 0 ≤ (rd t142 (ji70))
                                · rw [if_pos c73] at H
                                  have c73b0 : decide (0 ≤ (rd t142 (ji70))) = true := decide_eq_true c73
                                  clear c73
                                  by_cases c74 : (rd t142 (ji70)) < (l0_0.length : Int)
                                  · rw [if_pos c74] at H
                                    have c74b0 : decide ((rd t142 (ji70)) < (l0_0.length : Int)) = true := decide_eq_true c74
                                    clear c74
                                    by_cases c75 : 0 ≤ x9_3
                                    · rw [if_pos c75] at H
                                      have c75b0 : decide (0 ≤ x9_3) = true := decide_eq_true c75
                                      clear c75
                                      by_cases c76 : 0 ≤ (rd t142 x9_3)
                                      · rw [if_pos c76] at H
                                        have c76b0 : decide (0 ≤ (rd t142 x9_3)) = true := decide_eq_true c76
                                        clear c76
                                        by_cases c77 : (rd t142 x9_3) < (l0_0.length : Int)
                                        · rw [if_pos c77] at H
                                          have c77b0 : decide ((rd t142 x9_3) < (l0_0.length : Int)) = true := decide_eq_true c77
                                          clear c77
                                          by_cases c78 : ((rd_T62 l0_0 (rd t142 (ji70))).f0) ≥ ((rd_T62 l0_0 (rd t142 x9_3)).f0)
                                          · rw [if_pos c78] at H
                                            have c78b0 : decide (((rd_T62 l0_0 (rd t142 x9_3)).f0) ≤ ((rd_T62 l0_0 (rd t142 (ji70))).f0)) = true := decide_eq_true c78
                                            clear c78
                                            obtain rfl := Option.some.inj H
                                            try go_wp2
                                            have n0_ := Aside0.mk (Kd.R_drew HO_3.out)
                                            have n1_ := Aside0.mk (Kd.R_drew HO_4.out)
                                            have n2_ := Aside0.mk (Kd.R_drew HO_5.out)
                                            have n3_ := Aside0.mk (blk_drew BK140.out)
                                            have n4_ := Aside0.mk (below_drew1 HB.out)
                                            clear HO_3
                                            clear HO_4
                                            clear HO_5
                                            clear BK140
                                            clear HB
                                            have HO_3 := n0_
                                            have HO_4 := n1_
                                            have HO_5 := n2_
                                            have BK140 := n3_
                                            have HB := n4_
                                            clear n0_ n1_ n2_ n3_ n4_
                                            have p175 : 0 ≤ ((ji70) : Int) := of_decide_eq_true (by first | (with_reducible assumption) | assumption)
                                            have q175 : (ji70) < (t142.length : Int) := of_decide_eq_true (by first | (with_reducible assumption) | assumption)
                                            obtain ⟨ad175, e175, hx175_0⟩ := Kd.at_int (Kd.R_reads' HO_3.out).2.2 (ji70) p175 q175
                                            cases e175
                                            replace p175 := eq_true p175
                                            replace q175 := eq_true q175
                                            have p176 : 0 ≤ ((rd t142 (ji70)) : Int) := of_decide_eq_true (by first | (with_reducible assumption) | assumption)
                                            have q176 : (rd t142 (ji70)) < (l0_0.length : Int) := of_decide_eq_true (by first | (with_reducible assumption) | assumption)
                                            obtain ⟨ad176, e176, hx176_0, hx176_1, hx176_2, hx176_3, hx176_4, hx176_5⟩ := at_T62 HR0_0.out (rd t142 (ji70)) p176 q176
                                            have hw176_5 := hx176_5
                                            have hw176_4 := hx176_4
                                            have hw176_3 := hx176_3
                                            have hw176_2 := hx176_2
                                            have hw176_1 := hx176_1
                                            have hw176_0 := hx176_0
                                            cases e176
                                            replace hx176_0 := (HB.out.cell (World.block_lt_of_cell? w _ hx176_0)).trans hx176_0
                                            replace hx176_1 := (HB.out.cell (World.block_lt_of_cell? w _ hx176_1)).trans hx176_1
                                            replace hx176_2 := (HB.out.cell (World.block_lt_of_cell? w _ hx176_2)).trans hx176_2
                                            replace hx176_3 := (HB.out.cell (World.block_lt_of_cell? w _ hx176_3)).trans hx176_3
                                            replace hx176_4 := (HB.out.cell (World.block_lt_of_cell? w _ hx176_4)).trans hx176_4
                                            replace hx176_5 := (HB.out.cell (World.block_lt_of_cell? w _ hx176_5)).trans hx176_5
                                            replace p176 := eq_true p176
                                            replace q176 := eq_true q176
                                            have p177 : 0 ≤ (x9_3 : Int) := of_decide_eq_true (by first | (with_reducible assumption) | assumption)
                                            have q177 : x9_3 < (t142.length : Int) := of_decide_eq_true (by first | (with_reducible assumption) | assumption)
                                            obtain ⟨ad177, e177, hx177_0⟩ := Kd.at_int (Kd.R_reads' HO_3.out).2.2 x9_3 p177 q177
                                            obtain rfl : ad175 = ad177 := (by injection e177)
                                            replace p177 := eq_true p177
                                            replace q177 := eq_true q177
                                            have p178 : 0 ≤ ((rd t142 x9_3) : Int) := of_decide_eq_true (by first | (with_reducible assumption) | assumption)
                                            have q178 : (rd t142 x9_3) < (l0_0.length : Int) := of_decide_eq_true (by first | (with_reducible assumption) | assumption)
                                            obtain ⟨ad178, e178, hx178_0, hx178_1, hx178_2, hx178_3, hx178_4, hx178_5⟩ := at_T62 HR0_0.out (rd t142 x9_3) p178 q178
                                            have hw178_5 := hx178_5
                                            have hw178_4 := hx178_4
                                            have hw178_3 := hx178_3
                                            have hw178_2 := hx178_2
                                            have hw178_1 := hx178_1
                                            have hw178_0 := hx178_0
                                            obtain rfl : ad176 = ad178 := (by injection e178)
                                            replace hx178_0 := (HB.out.cell (World.block_lt_of_cell? w _ hx178_0)).trans hx178_0
                                            replace hx178_1 := (HB.out.cell (World.block_lt_of_cell? w _ hx178_1)).trans hx178_1
                                            replace hx178_2 := (HB.out.cell (World.block_lt_of_cell? w _ hx178_2)).trans hx178_2
                                            replace hx178_3 := (HB.out.cell (World.block_lt_of_cell? w _ hx178_3)).trans hx178_3
                                            replace hx178_4 := (HB.out.cell (World.block_lt_of_cell? w _ hx178_4)).trans hx178_4
                                            replace hx178_5 := (HB.out.cell (World.block_lt_of_cell? w _ hx178_5)).trans hx178_5
                                            replace p178 := eq_true p178
                                            replace q178 := eq_true q178
                                            refine start_ (n := 20) (S := fun w' => w'.cell? ⟨gb140, 0, none⟩ = some (.slice (some ad176) l0_0.length c0_0) ∧ w'.cell? ⟨gb140, 1, none⟩ = some (.int .i64 a0_1) ∧ w'.cell? ⟨gb140, 2, none⟩ = some (.int .i64 a0_2) ∧ w'.cell? ⟨gb140, 3, none⟩ = some (.int .i64 a0_3) ∧ w'.cell? (ad175.add ((ji70)).toNat) = some (.int .i64 (rd t142 (ji70))) ∧ w'.cell? (ad176.add (((rd t142 (ji70))).toNat * 6)) = some (.int .i64 ((rd_T62 l0_0 (rd t142 (ji70))).f0)) ∧ w'.cell? ⟨(ad176.add (((rd t142 (ji70))).toNat * 6)).block, (ad176.add (((rd t142 (ji70))).toNat * 6)).off + 1, none⟩ = some (.int .i64 ((rd_T62 l0_0 (rd t142 (ji70))).f1)) ∧ w'.cell? ⟨(ad176.add (((rd t142 (ji70))).toNat * 6)).block, (ad176.add (((rd t142 (ji70))).toNat * 6)).off + 2, none⟩ = some (.int .i64 ((rd_T62 l0_0 (rd t142 (ji70))).f2)) ∧ w'.cell? ⟨(ad176.add (((rd t142 (ji70))).toNat * 6)).block, (ad176.add (((rd t142 (ji70))).toNat * 6)).off + 3, none⟩ = some (.int .i64 ((rd_T62 l0_0 (rd t142 (ji70))).f3)) ∧ w'.cell? ⟨(ad176.add (((rd t142 (ji70))).toNat * 6)).block, (ad176.add (((rd t142 (ji70))).toNat * 6)).off + 4, none⟩ = some (.bool ((rd_T62 l0_0 (rd t142 (ji70))).f4)) ∧ w'.cell? ⟨(ad176.add (((rd t142 (ji70))).toNat * 6)).block, (ad176.add (((rd t142 (ji70))).toNat * 6)).off + 5, none⟩ = some (.int .i64 ((rd_T62 l0_0 (rd t142 (ji70))).f5)) ∧ w'.cell? (ad175.add (x9_3).toNat) = some (.int .i64 (rd t142 x9_3)) ∧ w'.cell? (ad176.add (((rd t142 x9_3)).toNat * 6)) = some (.int .i64 ((rd_T62 l0_0 (rd t142 x9_3)).f0)) ∧ w'.cell? ⟨(ad176.add (((rd t142 x9_3)).toNat * 6)).block, (ad176.add (((rd t142 x9_3)).toNat * 6)).off + 1, none⟩ = some (.int .i64 ((rd_T62 l0_0 (rd t142 x9_3)).f1)) ∧ w'.cell? ⟨(ad176.add (((rd t142 x9_3)).toNat * 6)).block, (ad176.add (((rd t142 x9_3)).toNat * 6)).off + 2, none⟩ = some (.int .i64 ((rd_T62 l0_0 (rd t142 x9_3)).f2)) ∧ w'.cell? ⟨(ad176.add (((rd t142 x9_3)).toNat * 6)).block, (ad176.add (((rd t142 x9_3)).toNat * 6)).off + 3, none⟩ = some (.int .i64 ((rd_T62 l0_0 (rd t142 x9_3)).f3)) ∧ w'.cell? ⟨(ad176.add (((rd t142 x9_3)).toNat * 6)).block, (ad176.add (((rd t142 x9_3)).toNat * 6)).off + 4, none⟩ = some (.bool ((rd_T62 l0_0 (rd t142 x9_3)).f4)) ∧ w'.cell? ⟨(ad176.add (((rd t142 x9_3)).toNat * 6)).block, (ad176.add (((rd t142 x9_3)).toNat * 6)).off + 5, none⟩ = some (.int .i64 ((rd_T62 l0_0 (rd t142 x9_3)).f5))) (ds := []) #[false, false, false, false, false, false, false, false, false, false, false, false, false, false, false, false, false, false, false, false] (by kernel_rfl) rfl rfl ⟨(blk_cell BK140.out 0).trans rfl, (blk_cell BK140.out 1).trans rfl, (blk_cell BK140.out 2).trans rfl, (blk_cell BK140.out 3).trans rfl, hx175_0, ((HB.out.cell (World.block_lt_of_cell? w _ hw176_0)).trans hw176_0), ((HB.out.cell (World.block_lt_of_cell? w _ hw176_1)).trans hw176_1), ((HB.out.cell (World.block_lt_of_cell? w _ hw176_2)).trans hw176_2), ((HB.out.cell (World.block_lt_of_cell? w _ hw176_3)).trans hw176_3), ((HB.out.cell (World.block_lt_of_cell? w _ hw176_4)).trans hw176_4), ((HB.out.cell (World.block_lt_of_cell? w _ hw176_5)).trans hw176_5), hx177_0, ((HB.out.cell (World.block_lt_of_cell? w _ hw178_0)).trans hw178_0), ((HB.out.cell (World.block_lt_of_cell? w _ hw178_1)).trans hw178_1), ((HB.out.cell (World.block_lt_of_cell? w _ hw178_2)).trans hw178_2), ((HB.out.cell (World.block_lt_of_cell? w _ hw178_3)).trans hw178_3), ((HB.out.cell (World.block_lt_of_cell? w _ hw178_4)).trans hw178_4), ((HB.out.cell (World.block_lt_of_cell? w _ hw178_5)).trans hw178_5)⟩ (fun hHeld => ?_); refine with_tabW impl_ArnOk.tab17 impl_ArnOk.bits17 (fun HT_ HW_ => ?_)
                                            generalize wr.drew = w79 at HO_3 HO_4 HO_5 BK140 HB hx175_0 hx176_0 hx176_1 hx176_2 hx176_3 hx176_4 hx176_5 hx177_0 hx178_0 hx178_1 hx178_2 hx178_3 hx178_4 hx178_5 hHeld ⊢
                                            refine pure_ (i := 0) (N := some 70) (v := ?_) (a' := ?_) #[true, false, false, false, false, false, false, false, false, false, false, false, false, false, false, false, false, false, false, false] rfl rfl (any_of HT_.out (by kernel_rfl)) (fun _ _ _ h => h) (Or.inl ⟨by rfl, ?_⟩) ?_ ?_
                                            rotate_left
                                            · intro w'
                                              go_simp
                                              with_reducible rfl
                                            rotate_left
                                            · simp only [Act.put, List.setIfInBounds_toArray, List.set_cons_zero, List.set_cons_succ, i64_w, i32_w]
                                              rfl
                                            refine pure_ (i := 2) (N := some 72) (v := ?_) (a' := ?_) #[true, false, true, false, false, false, false, false, false, false, false, false, false, false, false, false, false, false, false, false] rfl rfl (any_of HT_.out (by kernel_rfl)) (fun _ _ _ h => h) (Or.inl ⟨by rfl, ?_⟩) ?_ ?_
                                            rotate_left
                                            · intro w'
                                              go_simp
                                              with_reducible rfl
                                            rotate_left
                                            · simp only [Act.put, List.setIfInBounds_toArray, List.set_cons_zero, List.set_cons_succ, i64_w, i32_w]
                                              rfl
                                            refine pure_ (i := 3) (N := some 73) (v := ?_) (a' := ?_) #[true, false, true, true, false, false, false, false, false, false, false, false, false, false, false, false, false, false, false, false] rfl rfl (any_of HT_.out (by kernel_rfl)) (fun _ _ _ h => h) (Or.inl ⟨by rfl, ?_⟩) ?_ ?_
                                            rotate_left
                                            · intro w'
                                              go_simp
                                              with_reducible rfl
                                            rotate_left
                                            · simp only [Act.put, List.setIfInBounds_toArray, List.set_cons_zero, List.set_cons_succ, i64_w, i32_w]
                                              rfl
                                            refine pure_ (i := 4) (N := some 74) (v := ?_) (a' := ?_) #[true, false, true, true, true, false, false, false, false, false, false, false, false, false, false, false, false, false, false, false] rfl rfl (any_of HT_.out (by kernel_rfl)) (fun _ _ _ h => h) (Or.inl ⟨by rfl, ?_⟩) ?_ ?_
                                            rotate_left
                                            · intro w'
                                              go_simp
                                              with_reducible rfl
                                            rotate_left
                                            · simp only [Act.put, List.setIfInBounds_toArray, List.set_cons_zero, List.set_cons_succ, i64_w, i32_w]
                                              rfl
                                            refine pure_ (i := 5) (N := some 75) (v := ?_) (a' := ?_) #[true, false, true, true, true, true, false, false, false, false, false, false, false, false, false, false, false, false, false, false] rfl rfl (any_of HT_.out (by kernel_rfl)) (fun _ _ _ h => h) (Or.inl ⟨by rfl, ?_⟩) ?_ ?_
                                            rotate_left
                                            · intro w'
                                              go_simp
                                              with_reducible rfl
                                            rotate_left
                                            · simp only [Act.put, List.setIfInBounds_toArray, List.set_cons_zero, List.set_cons_succ, i64_w, i32_w]
                                              rfl
                                            refine pure_ (i := 10) (N := some 80) (v := ?_) (a' := ?_) #[true, false, true, true, true, true, false, false, false, false, true, false, false, false, false, false, false, false, false, false] rfl rfl (any_of HT_.out (by kernel_rfl)) (fun _ _ _ h => h) (Or.inl ⟨by rfl, ?_⟩) ?_ ?_
                                            rotate_left
                                            · intro w'
                                              go_simp
                                              with_reducible rfl
                                            rotate_left
                                            · simp only [Act.put, List.setIfInBounds_toArray, List.set_cons_zero, List.set_cons_succ, i64_w, i32_w]
                                              rfl
                                            refine pure_ (i := 12) (N := some 82) (v := ?_) (a' := ?_) #[true, false, true, true, true, true, false, false, false, false, true, false, true, false, false, false, false, false, false, false] rfl rfl (any_of HT_.out (by kernel_rfl)) (fun _ _ _ h => h) (Or.inl ⟨by rfl, ?_⟩) ?_ ?_
                                            rotate_left
                                            · intro w'
                                              go_simp
                                              with_reducible rfl
                                            rotate_left
                                            · simp only [Act.put, List.setIfInBounds_toArray, List.set_cons_zero, List.set_cons_succ, i64_w, i32_w]
                                              rfl
                                            refine pure_ (i := 13) (N := some 83) (v := ?_) (a' := ?_) #[true, false, true, true, true, true, false, false, false, false, true, false, true, true, false, false, false, false, false, false] rfl rfl (any_of HT_.out (by kernel_rfl)) (fun _ _ _ h => h) (Or.inl ⟨by rfl, ?_⟩) ?_ ?_
                                            rotate_left
                                            · intro w'
                                              go_simp
                                              with_reducible rfl
                                            rotate_left
                                            · simp only [Act.put, List.setIfInBounds_toArray, List.set_cons_zero, List.set_cons_succ, i64_w, i32_w]
                                              rfl
                                            refine pure_ (i := 14) (N := some 84) (v := ?_) (a' := ?_) #[true, false, true, true, true, true, false, false, false, false, true, false, true, true, true, false, false, false, false, false] rfl rfl (any_of HT_.out (by kernel_rfl)) (fun _ _ _ h => h) (Or.inl ⟨by rfl, ?_⟩) ?_ ?_
                                            rotate_left
                                            · intro w'
                                              go_simp
                                              with_reducible rfl
                                            rotate_left
                                            · simp only [Act.put, List.setIfInBounds_toArray, List.set_cons_zero, List.set_cons_succ, i64_w, i32_w]
                                              rfl
                                            refine take_ (i := 1) (N := some 71) (v := ?_) (a' := ?_) #[true, true, true, true, true, true, false, false, false, false, true, false, true, true, true, false, false, false, false, false] rfl rfl (take_ofW HT_.out HW_.out (by kernel_rfl)) (fun _ _ _ h => h) (Or.inl ⟨by rfl, ?_⟩) hHeld ?_ ?_
                                            rotate_left
                                            · rintro w' ⟨s0, s1, s2, s3, s4, s5, s6, s7, s8, s9, s10, s11, s12, s13, s14, s15, s16, s17⟩
                                              go_simp
                                              with_reducible rfl
                                            rotate_left
                                            · simp only [Act.put, List.setIfInBounds_toArray, List.set_cons_zero, List.set_cons_succ, i64_w, i32_w]
                                              rfl
                                            refine take_ (i := 6) (N := some 76) (v := ?_) (a' := ?_) #[true, true, true, true, true, true, true, false, false, false, true, false, true, true, true, false, false, false, false, false] rfl rfl (take_ofW HT_.out HW_.out (by kernel_rfl)) (fun _ _ _ h => h) (Or.inl ⟨by rfl, ?_⟩) hHeld ?_ ?_
                                            rotate_left
                                            · rintro w' ⟨s0, s1, s2, s3, s4, s5, s6, s7, s8, s9, s10, s11, s12, s13, s14, s15, s16, s17⟩
                                              go_simp
                                              with_reducible rfl
                                            rotate_left
                                            · simp only [Act.put, List.setIfInBounds_toArray, List.set_cons_zero, List.set_cons_succ, i64_w, i32_w]
                                              rfl
                                            refine pure_ (i := 7) (N := some 77) (v := ?_) (a' := ?_) #[true, true, true, true, true, true, true, true, false, false, true, false, true, true, true, false, false, false, false, false] rfl rfl (any_of HT_.out (by kernel_rfl)) (fun _ _ _ h => h) (Or.inl ⟨by rfl, ?_⟩) ?_ ?_
                                            rotate_left
                                            · intro w'
                                              go_simp
                                              with_reducible rfl
                                            rotate_left
                                            · simp only [Act.put, List.setIfInBounds_toArray, List.set_cons_zero, List.set_cons_succ, i64_w, i32_w]
                                              rfl
                                            refine pure_ (i := 8) (N := some 78) (v := ?_) (a' := ?_) #[true, true, true, true, true, true, true, true, true, false, true, false, true, true, true, false, false, false, false, false] rfl rfl (any_of HT_.out (by kernel_rfl)) (fun _ _ _ h => h) (Or.inl ⟨by rfl, ?_⟩) ?_ ?_
                                            rotate_left
                                            · intro w'
                                              go_simp
                                              with_reducible rfl
                                            rotate_left
                                            · simp only [Act.put, List.setIfInBounds_toArray, List.set_cons_zero, List.set_cons_succ, i64_w, i32_w]
                                              rfl
                                            refine take_ (i := 9) (N := some 79) (v := ?_) (a' := ?_) #[true, true, true, true, true, true, true, true, true, true, true, false, true, true, true, false, false, false, false, false] rfl rfl (take_ofW HT_.out HW_.out (by kernel_rfl)) (fun _ _ _ h => h) (Or.inl ⟨by rfl, ?_⟩) hHeld ?_ ?_
                                            rotate_left
                                            · rintro w' ⟨s0, s1, s2, s3, s4, s5, s6, s7, s8, s9, s10, s11, s12, s13, s14, s15, s16, s17⟩
                                              go_simp
                                              with_reducible rfl
                                            rotate_left
                                            · simp only [Act.put, List.setIfInBounds_toArray, List.set_cons_zero, List.set_cons_succ, i64_w, i32_w]
                                              rfl
                                            refine take_ (i := 11) (N := some 81) (v := ?_) (a' := ?_) #[true, true, true, true, true, true, true, true, true, true, true, true, true, true, true, false, false, false, false, false] rfl rfl (take_ofW HT_.out HW_.out (by kernel_rfl)) (fun _ _ _ h => h) (Or.inl ⟨by rfl, ?_⟩) hHeld ?_ ?_
                                            rotate_left
                                            · rintro w' ⟨s0, s1, s2, s3, s4, s5, s6, s7, s8, s9, s10, s11, s12, s13, s14, s15, s16, s17⟩
                                              go_simp
                                              with_reducible rfl
                                            rotate_left
                                            · simp only [Act.put, List.setIfInBounds_toArray, List.set_cons_zero, List.set_cons_succ, i64_w, i32_w]
                                              rfl
                                            refine take_ (i := 15) (N := some 85) (v := ?_) (a' := ?_) #[true, true, true, true, true, true, true, true, true, true, true, true, true, true, true, true, false, false, false, false] rfl rfl (take_ofW HT_.out HW_.out (by kernel_rfl)) (fun _ _ _ h => h) (Or.inl ⟨by rfl, ?_⟩) hHeld ?_ ?_
                                            rotate_left
                                            · rintro w' ⟨s0, s1, s2, s3, s4, s5, s6, s7, s8, s9, s10, s11, s12, s13, s14, s15, s16, s17⟩
                                              go_simp
                                              with_reducible rfl
                                            rotate_left
                                            · simp only [Act.put, List.setIfInBounds_toArray, List.set_cons_zero, List.set_cons_succ, i64_w, i32_w]
                                              rfl
                                            refine pure_ (i := 16) (N := some 86) (v := ?_) (a' := ?_) #[true, true, true, true, true, true, true, true, true, true, true, true, true, true, true, true, true, false, false, false] rfl rfl (any_of HT_.out (by kernel_rfl)) (fun _ _ _ h => h) (Or.inl ⟨by rfl, ?_⟩) ?_ ?_
                                            rotate_left
                                            · intro w'
                                              go_simp
                                              with_reducible rfl
                                            rotate_left
                                            · simp only [Act.put, List.setIfInBounds_toArray, List.set_cons_zero, List.set_cons_succ, i64_w, i32_w]
                                              rfl
                                            refine pure_ (i := 17) (N := some 87) (v := ?_) (a' := ?_) #[true, true, true, true, true, true, true, true, true, true, true, true, true, true, true, true, true, true, false, false] rfl rfl (any_of HT_.out (by kernel_rfl)) (fun _ _ _ h => h) (Or.inl ⟨by rfl, ?_⟩) ?_ ?_
                                            rotate_left
                                            · intro w'
                                              go_simp
                                              with_reducible rfl
                                            rotate_left
                                            · simp only [Act.put, List.setIfInBounds_toArray, List.set_cons_zero, List.set_cons_succ, i64_w, i32_w]
                                              rfl
                                            refine take_ (i := 18) (N := some 88) (v := ?_) (a' := ?_) #[true, true, true, true, true, true, true, true, true, true, true, true, true, true, true, true, true, true, true, false] rfl rfl (take_ofW HT_.out HW_.out (by kernel_rfl)) (fun _ _ _ h => h) (Or.inl ⟨by rfl, ?_⟩) hHeld ?_ ?_
                                            rotate_left
                                            · rintro w' ⟨s0, s1, s2, s3, s4, s5, s6, s7, s8, s9, s10, s11, s12, s13, s14, s15, s16, s17⟩
                                              go_simp
                                              with_reducible rfl
                                            rotate_left
                                            · simp only [Act.put, List.setIfInBounds_toArray, List.set_cons_zero, List.set_cons_succ, i64_w, i32_w]
                                              rfl
                                            refine pure_ (i := 19) (N := some 89) (v := ?_) (a' := ?_) #[true, true, true, true, true, true, true, true, true, true, true, true, true, true, true, true, true, true, true, true] rfl rfl (any_of HT_.out (by kernel_rfl)) (fun _ _ _ h => h) (Or.inl ⟨by rfl, ?_⟩) ?_ ?_
                                            rotate_left
                                            · intro w'
                                              go_simp
                                              with_reducible rfl
                                            rotate_left
                                            · simp only [Act.put, List.setIfInBounds_toArray, List.set_cons_zero, List.set_cons_succ, i64_w, i32_w]
                                              rfl
                                            refine done_ (done_of HT_.out (by kernel_rfl)) ?_
                                            try go_wp2
                                            go_ret
                                            exact ⟨by first | rfl | (simp [errW_none, errW_some] <;> rfl) | (simp only [← hji70]; first | rfl | (simp [errW_none, errW_some] <;> rfl)) | (simp [*, errW_none, errW_some] <;> rfl), by repeat (first | (with_reducible first | exact HB.out | apply below_alloc | apply pw_below_drewN | apply below_drew1 | refine below_set ?_ GE140.out) | exact HB.out)⟩
                                          · rw [if_neg c78] at H
                                            have c78b0 : decide (((rd_T62 l0_0 (rd t142 x9_3)).f0) ≤ ((rd_T62 l0_0 (rd t142 (ji70))).f0)) = false := decide_eq_false c78
                                            clear c78
                                            have H' := Aside0.mk H
                                            clear H
                                            try go_wp2
                                            have n0_ := Aside0.mk (Kd.R_drew HO_3.out)
                                            have n1_ := Aside0.mk (Kd.R_drew HO_4.out)
                                            have n2_ := Aside0.mk (Kd.R_drew HO_5.out)
                                            have n3_ := Aside0.mk (blk_drew BK140.out)
                                            have n4_ := Aside0.mk (below_drew1 HB.out)
                                            clear HO_3
                                            clear HO_4
                                            clear HO_5
                                            clear BK140
                                            clear HB
                                            have HO_3 := n0_
                                            have HO_4 := n1_
                                            have HO_5 := n2_
                                            have BK140 := n3_
                                            have HB := n4_
                                            clear n0_ n1_ n2_ n3_ n4_
                                            have p175 : 0 ≤ ((ji70) : Int) := of_decide_eq_true (by first | (with_reducible assumption) | assumption)
                                            have q175 : (ji70) < (t142.length : Int) := of_decide_eq_true (by first | (with_reducible assumption) | assumption)
                                            obtain ⟨ad175, e175, hx175_0⟩ := Kd.at_int (Kd.R_reads' HO_3.out).2.2 (ji70) p175 q175
                                            cases e175
                                            replace p175 := eq_true p175
                                            replace q175 := eq_true q175
                                            have p176 : 0 ≤ ((rd t142 (ji70)) : Int) := of_decide_eq_true (by first | (with_reducible assumption) | assumption)
                                            have q176 : (rd t142 (ji70)) < (l0_0.length : Int) := of_decide_eq_true (by first | (with_reducible assumption) | assumption)
                                            obtain ⟨ad176, e176, hx176_0, hx176_1, hx176_2, hx176_3, hx176_4, hx176_5⟩ := at_T62 HR0_0.out (rd t142 (ji70)) p176 q176
                                            have hw176_5 := hx176_5
                                            have hw176_4 := hx176_4
                                            have hw176_3 := hx176_3
                                            have hw176_2 := hx176_2
                                            have hw176_1 := hx176_1
                                            have hw176_0 := hx176_0
                                            cases e176
                                            replace hx176_0 := (HB.out.cell (World.block_lt_of_cell? w _ hx176_0)).trans hx176_0
                                            replace hx176_1 := (HB.out.cell (World.block_lt_of_cell? w _ hx176_1)).trans hx176_1
                                            replace hx176_2 := (HB.out.cell (World.block_lt_of_cell? w _ hx176_2)).trans hx176_2
                                            replace hx176_3 := (HB.out.cell (World.block_lt_of_cell? w _ hx176_3)).trans hx176_3
                                            replace hx176_4 := (HB.out.cell (World.block_lt_of_cell? w _ hx176_4)).trans hx176_4
                                            replace hx176_5 := (HB.out.cell (World.block_lt_of_cell? w _ hx176_5)).trans hx176_5
                                            replace p176 := eq_true p176
                                            replace q176 := eq_true q176
                                            have p177 : 0 ≤ (x9_3 : Int) := of_decide_eq_true (by first | (with_reducible assumption) | assumption)
                                            have q177 : x9_3 < (t142.length : Int) := of_decide_eq_true (by first | (with_reducible assumption) | assumption)
                                            obtain ⟨ad177, e177, hx177_0⟩ := Kd.at_int (Kd.R_reads' HO_3.out).2.2 x9_3 p177 q177
                                            obtain rfl : ad175 = ad177 := (by injection e177)
                                            replace p177 := eq_true p177
                                            replace q177 := eq_true q177
                                            have p178 : 0 ≤ ((rd t142 x9_3) : Int) := of_decide_eq_true (by first | (with_reducible assumption) | assumption)
                                            have q178 : (rd t142 x9_3) < (l0_0.length : Int) := of_decide_eq_true (by first | (with_reducible assumption) | assumption)
                                            obtain ⟨ad178, e178, hx178_0, hx178_1, hx178_2, hx178_3, hx178_4, hx178_5⟩ := at_T62 HR0_0.out (rd t142 x9_3) p178 q178
                                            have hw178_5 := hx178_5
                                            have hw178_4 := hx178_4
                                            have hw178_3 := hx178_3
                                            have hw178_2 := hx178_2
                                            have hw178_1 := hx178_1
                                            have hw178_0 := hx178_0
                                            obtain rfl : ad176 = ad178 := (by injection e178)
                                            replace hx178_0 := (HB.out.cell (World.block_lt_of_cell? w _ hx178_0)).trans hx178_0
                                            replace hx178_1 := (HB.out.cell (World.block_lt_of_cell? w _ hx178_1)).trans hx178_1
                                            replace hx178_2 := (HB.out.cell (World.block_lt_of_cell? w _ hx178_2)).trans hx178_2
                                            replace hx178_3 := (HB.out.cell (World.block_lt_of_cell? w _ hx178_3)).trans hx178_3
                                            replace hx178_4 := (HB.out.cell (World.block_lt_of_cell? w _ hx178_4)).trans hx178_4
                                            replace hx178_5 := (HB.out.cell (World.block_lt_of_cell? w _ hx178_5)).trans hx178_5
                                            replace p178 := eq_true p178
                                            replace q178 := eq_true q178
                                            refine start_ (n := 20) (S := fun w' => w'.cell? ⟨gb140, 0, none⟩ = some (.slice (some ad176) l0_0.length c0_0) ∧ w'.cell? ⟨gb140, 1, none⟩ = some (.int .i64 a0_1) ∧ w'.cell? ⟨gb140, 2, none⟩ = some (.int .i64 a0_2) ∧ w'.cell? ⟨gb140, 3, none⟩ = some (.int .i64 a0_3) ∧ w'.cell? (ad175.add ((ji70)).toNat) = some (.int .i64 (rd t142 (ji70))) ∧ w'.cell? (ad176.add (((rd t142 (ji70))).toNat * 6)) = some (.int .i64 ((rd_T62 l0_0 (rd t142 (ji70))).f0)) ∧ w'.cell? ⟨(ad176.add (((rd t142 (ji70))).toNat * 6)).block, (ad176.add (((rd t142 (ji70))).toNat * 6)).off + 1, none⟩ = some (.int .i64 ((rd_T62 l0_0 (rd t142 (ji70))).f1)) ∧ w'.cell? ⟨(ad176.add (((rd t142 (ji70))).toNat * 6)).block, (ad176.add (((rd t142 (ji70))).toNat * 6)).off + 2, none⟩ = some (.int .i64 ((rd_T62 l0_0 (rd t142 (ji70))).f2)) ∧ w'.cell? ⟨(ad176.add (((rd t142 (ji70))).toNat * 6)).block, (ad176.add (((rd t142 (ji70))).toNat * 6)).off + 3, none⟩ = some (.int .i64 ((rd_T62 l0_0 (rd t142 (ji70))).f3)) ∧ w'.cell? ⟨(ad176.add (((rd t142 (ji70))).toNat * 6)).block, (ad176.add (((rd t142 (ji70))).toNat * 6)).off + 4, none⟩ = some (.bool ((rd_T62 l0_0 (rd t142 (ji70))).f4)) ∧ w'.cell? ⟨(ad176.add (((rd t142 (ji70))).toNat * 6)).block, (ad176.add (((rd t142 (ji70))).toNat * 6)).off + 5, none⟩ = some (.int .i64 ((rd_T62 l0_0 (rd t142 (ji70))).f5)) ∧ w'.cell? (ad175.add (x9_3).toNat) = some (.int .i64 (rd t142 x9_3)) ∧ w'.cell? (ad176.add (((rd t142 x9_3)).toNat * 6)) = some (.int .i64 ((rd_T62 l0_0 (rd t142 x9_3)).f0)) ∧ w'.cell? ⟨(ad176.add (((rd t142 x9_3)).toNat * 6)).block, (ad176.add (((rd t142 x9_3)).toNat * 6)).off + 1, none⟩ = some (.int .i64 ((rd_T62 l0_0 (rd t142 x9_3)).f1)) ∧ w'.cell? ⟨(ad176.add (((rd t142 x9_3)).toNat * 6)).block, (ad176.add (((rd t142 x9_3)).toNat * 6)).off + 2, none⟩ = some (.int .i64 ((rd_T62 l0_0 (rd t142 x9_3)).f2)) ∧ w'.cell? ⟨(ad176.add (((rd t142 x9_3)).toNat * 6)).block, (ad176.add (((rd t142 x9_3)).toNat * 6)).off + 3, none⟩ = some (.int .i64 ((rd_T62 l0_0 (rd t142 x9_3)).f3)) ∧ w'.cell? ⟨(ad176.add (((rd t142 x9_3)).toNat * 6)).block, (ad176.add (((rd t142 x9_3)).toNat * 6)).off + 4, none⟩ = some (.bool ((rd_T62 l0_0 (rd t142 x9_3)).f4)) ∧ w'.cell? ⟨(ad176.add (((rd t142 x9_3)).toNat * 6)).block, (ad176.add (((rd t142 x9_3)).toNat * 6)).off + 5, none⟩ = some (.int .i64 ((rd_T62 l0_0 (rd t142 x9_3)).f5))) (ds := []) #[false, false, false, false, false, false, false, false, false, false, false, false, false, false, false, false, false, false, false, false] (by kernel_rfl) rfl rfl ⟨(blk_cell BK140.out 0).trans rfl, (blk_cell BK140.out 1).trans rfl, (blk_cell BK140.out 2).trans rfl, (blk_cell BK140.out 3).trans rfl, hx175_0, ((HB.out.cell (World.block_lt_of_cell? w _ hw176_0)).trans hw176_0), ((HB.out.cell (World.block_lt_of_cell? w _ hw176_1)).trans hw176_1), ((HB.out.cell (World.block_lt_of_cell? w _ hw176_2)).trans hw176_2), ((HB.out.cell (World.block_lt_of_cell? w _ hw176_3)).trans hw176_3), ((HB.out.cell (World.block_lt_of_cell? w _ hw176_4)).trans hw176_4), ((HB.out.cell (World.block_lt_of_cell? w _ hw176_5)).trans hw176_5), hx177_0, ((HB.out.cell (World.block_lt_of_cell? w _ hw178_0)).trans hw178_0), ((HB.out.cell (World.block_lt_of_cell? w _ hw178_1)).trans hw178_1), ((HB.out.cell (World.block_lt_of_cell? w _ hw178_2)).trans hw178_2), ((HB.out.cell (World.block_lt_of_cell? w _ hw178_3)).trans hw178_3), ((HB.out.cell (World.block_lt_of_cell? w _ hw178_4)).trans hw178_4), ((HB.out.cell (World.block_lt_of_cell? w _ hw178_5)).trans hw178_5)⟩ (fun hHeld => ?_); refine with_tabW impl_ArnOk.tab17 impl_ArnOk.bits17 (fun HT_ HW_ => ?_)
                                            generalize wr.drew = w80 at HO_3 HO_4 HO_5 BK140 HB hx175_0 hx176_0 hx176_1 hx176_2 hx176_3 hx176_4 hx176_5 hx177_0 hx178_0 hx178_1 hx178_2 hx178_3 hx178_4 hx178_5 hHeld ⊢
                                            refine pure_ (i := 0) (N := some 70) (v := ?_) (a' := ?_) #[true, false, false, false, false, false, false, false, false, false, false, false, false, false, false, false, false, false, false, false] rfl rfl (any_of HT_.out (by kernel_rfl)) (fun _ _ _ h => h) (Or.inl ⟨by rfl, ?_⟩) ?_ ?_
                                            rotate_left
                                            · intro w'
                                              go_simp
                                              with_reducible rfl
                                            rotate_left
                                            · simp only [Act.put, List.setIfInBounds_toArray, List.set_cons_zero, List.set_cons_succ, i64_w, i32_w]
                                              rfl
                                            refine pure_ (i := 2) (N := some 72) (v := ?_) (a' := ?_) #[true, false, true, false, false, false, false, false, false, false, false, false, false, false, false, false, false, false, false, false] rfl rfl (any_of HT_.out (by kernel_rfl)) (fun _ _ _ h => h) (Or.inl ⟨by rfl, ?_⟩) ?_ ?_
                                            rotate_left
                                            · intro w'
                                              go_simp
                                              with_reducible rfl
                                            rotate_left
                                            · simp only [Act.put, List.setIfInBounds_toArray, List.set_cons_zero, List.set_cons_succ, i64_w, i32_w]
                                              rfl
                                            refine pure_ (i := 3) (N := some 73) (v := ?_) (a' := ?_) #[true, false, true, true, false, false, false, false, false, false, false, false, false, false, false, false, false, false, false, false] rfl rfl (any_of HT_.out (by kernel_rfl)) (fun _ _ _ h => h) (Or.inl ⟨by rfl, ?_⟩) ?_ ?_
                                            rotate_left
                                            · intro w'
                                              go_simp
                                              with_reducible rfl
                                            rotate_left
                                            · simp only [Act.put, List.setIfInBounds_toArray, List.set_cons_zero, List.set_cons_succ, i64_w, i32_w]
                                              rfl
                                            refine pure_ (i := 4) (N := some 74) (v := ?_) (a' := ?_) #[true, false, true, true, true, false, false, false, false, false, false, false, false, false, false, false, false, false, false, false] rfl rfl (any_of HT_.out (by kernel_rfl)) (fun _ _ _ h => h) (Or.inl ⟨by rfl, ?_⟩) ?_ ?_
                                            rotate_left
                                            · intro w'
                                              go_simp
                                              with_reducible rfl
                                            rotate_left
                                            · simp only [Act.put, List.setIfInBounds_toArray, List.set_cons_zero, List.set_cons_succ, i64_w, i32_w]
                                              rfl
                                            refine pure_ (i := 5) (N := some 75) (v := ?_) (a' := ?_) #[true, false, true, true, true, true, false, false, false, false, false, false, false, false, false, false, false, false, false, false] rfl rfl (any_of HT_.out (by kernel_rfl)) (fun _ _ _ h => h) (Or.inl ⟨by rfl, ?_⟩) ?_ ?_
                                            rotate_left
                                            · intro w'
                                              go_simp
                                              with_reducible rfl
                                            rotate_left
                                            · simp only [Act.put, List.setIfInBounds_toArray, List.set_cons_zero, List.set_cons_succ, i64_w, i32_w]
                                              rfl
                                            refine pure_ (i := 10) (N := some 80) (v := ?_) (a' := ?_) #[true, false, true, true, true, true, false, false, false, false, true, false, false, false, false, false, false, false, false, false] rfl rfl (any_of HT_.out (by kernel_rfl)) (fun _ _ _ h => h) (Or.inl ⟨by rfl, ?_⟩) ?_ ?_
                                            rotate_left
                                            · intro w'
                                              go_simp
                                              with_reducible rfl
                                            rotate_left
                                            · simp only [Act.put, List.setIfInBounds_toArray, List.set_cons_zero, List.set_cons_succ, i64_w, i32_w]
                                              rfl
                                            refine pure_ (i := 12) (N := some 82) (v := ?_) (a' := ?_) #[true, false, true, true, true, true, false, false, false, false, true, false, true, false, false, false, false, false, false, false] rfl rfl (any_of HT_.out (by kernel_rfl)) (fun _ _ _ h => h) (Or.inl ⟨by rfl, ?_⟩) ?_ ?_
                                            rotate_left
                                            · intro w'
                                              go_simp
                                              with_reducible rfl
                                            rotate_left
                                            · simp only [Act.put, List.setIfInBounds_toArray, List.set_cons_zero, List.set_cons_succ, i64_w, i32_w]
                                              rfl
                                            refine pure_ (i := 13) (N := some 83) (v := ?_) (a' := ?_) #[true, false, true, true, true, true, false, false, false, false, true, false, true, true, false, false, false, false, false, false] rfl rfl (any_of HT_.out (by kernel_rfl)) (fun _ _ _ h => h) (Or.inl ⟨by rfl, ?_⟩) ?_ ?_
                                            rotate_left
                                            · intro w'
                                              go_simp
                                              with_reducible rfl
                                            rotate_left
                                            · simp only [Act.put, List.setIfInBounds_toArray, List.set_cons_zero, List.set_cons_succ, i64_w, i32_w]
                                              rfl
                                            refine pure_ (i := 14) (N := some 84) (v := ?_) (a' := ?_) #[true, false, true, true, true, true, false, false, false, false, true, false, true, true, true, false, false, false, false, false] rfl rfl (any_of HT_.out (by kernel_rfl)) (fun _ _ _ h => h) (Or.inl ⟨by rfl, ?_⟩) ?_ ?_
                                            rotate_left
                                            · intro w'
                                              go_simp
                                              with_reducible rfl
                                            rotate_left
                                            · simp only [Act.put, List.setIfInBounds_toArray, List.set_cons_zero, List.set_cons_succ, i64_w, i32_w]
                                              rfl
                                            refine take_ (i := 1) (N := some 71) (v := ?_) (a' := ?_) #[true, true, true, true, true, true, false, false, false, false, true, false, true, true, true, false, false, false, false, false] rfl rfl (take_ofW HT_.out HW_.out (by kernel_rfl)) (fun _ _ _ h => h) (Or.inl ⟨by rfl, ?_⟩) hHeld ?_ ?_
                                            rotate_left
                                            · rintro w' ⟨s0, s1, s2, s3, s4, s5, s6, s7, s8, s9, s10, s11, s12, s13, s14, s15, s16, s17⟩
                                              go_simp
                                              with_reducible rfl
                                            rotate_left
                                            · simp only [Act.put, List.setIfInBounds_toArray, List.set_cons_zero, List.set_cons_succ, i64_w, i32_w]
                                              rfl
                                            refine take_ (i := 6) (N := some 76) (v := ?_) (a' := ?_) #[true, true, true, true, true, true, true, false, false, false, true, false, true, true, true, false, false, false, false, false] rfl rfl (take_ofW HT_.out HW_.out (by kernel_rfl)) (fun _ _ _ h => h) (Or.inl ⟨by rfl, ?_⟩) hHeld ?_ ?_
                                            rotate_left
                                            · rintro w' ⟨s0, s1, s2, s3, s4, s5, s6, s7, s8, s9, s10, s11, s12, s13, s14, s15, s16, s17⟩
                                              go_simp
                                              with_reducible rfl
                                            rotate_left
                                            · simp only [Act.put, List.setIfInBounds_toArray, List.set_cons_zero, List.set_cons_succ, i64_w, i32_w]
                                              rfl
                                            refine pure_ (i := 7) (N := some 77) (v := ?_) (a' := ?_) #[true, true, true, true, true, true, true, true, false, false, true, false, true, true, true, false, false, false, false, false] rfl rfl (any_of HT_.out (by kernel_rfl)) (fun _ _ _ h => h) (Or.inl ⟨by rfl, ?_⟩) ?_ ?_
                                            rotate_left
                                            · intro w'
                                              go_simp
                                              with_reducible rfl
                                            rotate_left
                                            · simp only [Act.put, List.setIfInBounds_toArray, List.set_cons_zero, List.set_cons_succ, i64_w, i32_w]
                                              rfl
                                            refine pure_ (i := 8) (N := some 78) (v := ?_) (a' := ?_) #[true, true, true, true, true, true, true, true, true, false, true, false, true, true, true, false, false, false, false, false] rfl rfl (any_of HT_.out (by kernel_rfl)) (fun _ _ _ h => h) (Or.inl ⟨by rfl, ?_⟩) ?_ ?_
                                            rotate_left
                                            · intro w'
                                              go_simp
                                              with_reducible rfl
                                            rotate_left
                                            · simp only [Act.put, List.setIfInBounds_toArray, List.set_cons_zero, List.set_cons_succ, i64_w, i32_w]
                                              rfl
                                            refine take_ (i := 9) (N := some 79) (v := ?_) (a' := ?_) #[true, true, true, true, true, true, true, true, true, true, true, false, true, true, true, false, false, false, false, false] rfl rfl (take_ofW HT_.out HW_.out (by kernel_rfl)) (fun _ _ _ h => h) (Or.inl ⟨by rfl, ?_⟩) hHeld ?_ ?_
                                            rotate_left
                                            · rintro w' ⟨s0, s1, s2, s3, s4, s5, s6, s7, s8, s9, s10, s11, s12, s13, s14, s15, s16, s17⟩
                                              go_simp
                                              with_reducible rfl
                                            rotate_left
                                            · simp only [Act.put, List.setIfInBounds_toArray, List.set_cons_zero, List.set_cons_succ, i64_w, i32_w]
                                              rfl
                                            refine take_ (i := 11) (N := some 81) (v := ?_) (a' := ?_) #[true, true, true, true, true, true, true, true, true, true, true, true, true, true, true, false, false, false, false, false] rfl rfl (take_ofW HT_.out HW_.out (by kernel_rfl)) (fun _ _ _ h => h) (Or.inl ⟨by rfl, ?_⟩) hHeld ?_ ?_
                                            rotate_left
                                            · rintro w' ⟨s0, s1, s2, s3, s4, s5, s6, s7, s8, s9, s10, s11, s12, s13, s14, s15, s16, s17⟩
                                              go_simp
                                              with_reducible rfl
                                            rotate_left
                                            · simp only [Act.put, List.setIfInBounds_toArray, List.set_cons_zero, List.set_cons_succ, i64_w, i32_w]
                                              rfl
                                            refine take_ (i := 15) (N := some 85) (v := ?_) (a' := ?_) #[true, true, true, true, true, true, true, true, true, true, true, true, true, true, true, true, false, false, false, false] rfl rfl (take_ofW HT_.out HW_.out (by kernel_rfl)) (fun _ _ _ h => h) (Or.inl ⟨by rfl, ?_⟩) hHeld ?_ ?_
                                            rotate_left
                                            · rintro w' ⟨s0, s1, s2, s3, s4, s5, s6, s7, s8, s9, s10, s11, s12, s13, s14, s15, s16, s17⟩
                                              go_simp
                                              with_reducible rfl
                                            rotate_left
                                            · simp only [Act.put, List.setIfInBounds_toArray, List.set_cons_zero, List.set_cons_succ, i64_w, i32_w]
                                              rfl
                                            refine pure_ (i := 16) (N := some 86) (v := ?_) (a' := ?_) #[true, true, true, true, true, true, true, true, true, true, true, true, true, true, true, true, true, false, false, false] rfl rfl (any_of HT_.out (by kernel_rfl)) (fun _ _ _ h => h) (Or.inl ⟨by rfl, ?_⟩) ?_ ?_
                                            rotate_left
                                            · intro w'
                                              go_simp
                                              with_reducible rfl
                                            rotate_left
                                            · simp only [Act.put, List.setIfInBounds_toArray, List.set_cons_zero, List.set_cons_succ, i64_w, i32_w]
                                              rfl
                                            refine pure_ (i := 17) (N := some 87) (v := ?_) (a' := ?_) #[true, true, true, true, true, true, true, true, true, true, true, true, true, true, true, true, true, true, false, false] rfl rfl (any_of HT_.out (by kernel_rfl)) (fun _ _ _ h => h) (Or.inl ⟨by rfl, ?_⟩) ?_ ?_
                                            rotate_left
                                            · intro w'
                                              go_simp
                                              with_reducible rfl
                                            rotate_left
                                            · simp only [Act.put, List.setIfInBounds_toArray, List.set_cons_zero, List.set_cons_succ, i64_w, i32_w]
                                              rfl
                                            refine take_ (i := 18) (N := some 88) (v := ?_) (a' := ?_) #[true, true, true, true, true, true, true, true, true, true, true, true, true, true, true, true, true, true, true, false] rfl rfl (take_ofW HT_.out HW_.out (by kernel_rfl)) (fun _ _ _ h => h) (Or.inl ⟨by rfl, ?_⟩) hHeld ?_ ?_
                                            rotate_left
                                            · rintro w' ⟨s0, s1, s2, s3, s4, s5, s6, s7, s8, s9, s10, s11, s12, s13, s14, s15, s16, s17⟩
                                              go_simp
                                              with_reducible rfl
                                            rotate_left
                                            · simp only [Act.put, List.setIfInBounds_toArray, List.set_cons_zero, List.set_cons_succ, i64_w, i32_w]
                                              rfl
                                            refine pure_ (i := 19) (N := some 89) (v := ?_) (a' := ?_) #[true, true, true, true, true, true, true, true, true, true, true, true, true, true, true, true, true, true, true, true] rfl rfl (any_of HT_.out (by kernel_rfl)) (fun _ _ _ h => h) (Or.inl ⟨by rfl, ?_⟩) ?_ ?_
                                            rotate_left
                                            · intro w'
                                              go_simp
                                              with_reducible rfl
                                            rotate_left
                                            · simp only [Act.put, List.setIfInBounds_toArray, List.set_cons_zero, List.set_cons_succ, i64_w, i32_w]
                                              rfl
                                            refine done_ (done_of HT_.out (by kernel_rfl)) ?_
                                            try go_wp2
                                            go_roundg k3
                                            case measure => have := HJ6.out; have := HK2.out; have := HK3.out; omega
                                            case rel => exact ⟨(wrap64 (x9_3 + 1)), (by first | rfl | (simp; done) | (simp [*]; done)), H', ⟨by have := HJ6.out; have := HK2.out; have := HK3.out; omega⟩, ⟨by (with_reducible repeat (first | apply Kd.R_alloc | apply Kd.R_drewN | apply Kd.R_drew)); exact HO_3.out⟩, ⟨by (with_reducible repeat (first | apply Kd.R_alloc | apply Kd.R_drewN | apply Kd.R_drew)); exact HO_4.out⟩, ⟨by (with_reducible repeat (first | apply Kd.R_alloc | apply Kd.R_drewN | apply Kd.R_drew)); exact HO_5.out⟩, ⟨by (with_reducible repeat (first | refine blk_drewN ?_ _ | refine blk_drew ?_ | refine blk_alloc ?_ _)); exact BK140.out⟩, ⟨by repeat (first | (with_reducible first | exact HB.out | apply below_alloc | apply pw_below_drewN | apply below_drew1 | refine below_set ?_ GE140.out) | exact HB.out)⟩⟩
                                        · rw [if_neg c77] at H
                                          exact absurd H (by simp)
                                      · rw [if_neg c76] at H
                                        exact absurd H (by simp)
                                    · rw [if_neg c75] at H
                                      exact absurd H (by simp)
                                  · rw [if_neg c74] at H
                                    exact absurd H (by simp)
                                · rw [if_neg c73] at H
                                  exact absurd H (by simp)
                              · rw [if_neg c72] at H
                                exact absurd H (by simp)
                            · rw [if_neg c71] at H
                              exact absurd H (by simp)
                          · rw [if_neg c69] at H
                            have c69b0 : decide (x9_3 < (t142.length : Int)) = false := decide_eq_false c69
                            clear c69
                            obtain ⟨y179, hy179⟩ : ∃ y_ : List Int, y_ = (([] : List Int)) := ⟨_, rfl⟩
                            replace H : (if y179.length + t145.length < 17592186044416 then ((some (y179 ++ t145 : List Int)).bind fun y182 => (if y182.length + t148.length < 17592186044416 then ((some (y182 ++ t148 : List Int)).bind fun y185 => (impl_ArnOk.l2 k3 t148 y185 (y185.length : Int) 0 l0_0 a0_1 a0_2 a0_3)) else (none))) else (none)) = some r := by first | (rw [hy179]; with_reducible exact H) | (have H2_ := (Option.bind_some _ _).symm.trans H; rw [hy179]; with_reducible exact H2_) | (have H2_ := (Option.bind_some _ _).symm.trans H; with_reducible exact H2_) | with_reducible exact H | (rw [hy179]; exact H) | exact H
                            have Ny179 := Aside0.mk hy179
                            clear hy179
                            by_cases c81 : y179.length + t145.length < 17592186044416
                            · rw [if_pos c81] at H
                              have LMc81 := Aside0.mk c81
                              clear c81
                              obtain ⟨y182, hy182⟩ : ∃ y_ : List Int, y_ = (y179 ++ t145) := ⟨_, rfl⟩
                              replace H : (if y182.length + t148.length < 17592186044416 then ((some (y182 ++ t148 : List Int)).bind fun y185 => (impl_ArnOk.l2 k3 t148 y185 (y185.length : Int) 0 l0_0 a0_1 a0_2 a0_3)) else (none)) = some r := by first | (rw [hy182]; with_reducible exact H) | (have H2_ := (Option.bind_some _ _).symm.trans H; rw [hy182]; with_reducible exact H2_) | (have H2_ := (Option.bind_some _ _).symm.trans H; with_reducible exact H2_) | with_reducible exact H | (rw [hy182]; exact H) | exact H
                              have Ny182 := Aside0.mk hy182
                              clear hy182
                              by_cases c82 : y182.length + t148.length < 17592186044416
                              · rw [if_pos c82] at H
                                have LMc82 := Aside0.mk c82
                                clear c82
                                obtain ⟨y185, hy185⟩ : ∃ y_ : List Int, y_ = (y182 ++ t148) := ⟨_, rfl⟩
                                replace H : (impl_ArnOk.l2 k3 t148 y185 (y185.length : Int) 0 l0_0 a0_1 a0_2 a0_3) = some r := by first | (rw [hy185]; with_reducible exact H) | (have H2_ := (Option.bind_some _ _).symm.trans H; rw [hy185]; with_reducible exact H2_) | (have H2_ := (Option.bind_some _ _).symm.trans H; with_reducible exact H2_) | with_reducible exact H | (rw [hy185]; exact H) | exact H
                                have Ny185 := Aside0.mk hy185
                                clear hy185
                                have H' := Aside0.mk H
                                clear H
                                go_wp2_with (first | ((with_reducible refine gate_dst (N := 92) rfl ?_); refine Go.Proofs.Ytenehkjbopdapaa.PCat.slice_event ?hg (N := 92) ?hd (cs := #[.slice Ao49 t145.length co49, .slice Ao51 t148.length co51]) (t := 33) (m := 2) ?hr ?_; (case hd => rfl); (case hg => rfl); (case hr => first | (go_simp; done) | (go_simp; rfl)); intro gs_ hgs_ ws_ hbs_ hb; have a_ := Aside0.mk (Kd.R_below (by (with_reducible repeat (first | apply Kd.R_alloc | apply Kd.R_drewN | apply Kd.R_drew)); exact HO_3.out) hb); clear HO_3; have HO_3 := a_; clear a_; have a_ := Aside0.mk (Kd.R_below (by (with_reducible repeat (first | apply Kd.R_alloc | apply Kd.R_drewN | apply Kd.R_drew)); exact HO_4.out) hb); clear HO_4; have HO_4 := a_; clear a_; have a_ := Aside0.mk (Kd.R_below (by (with_reducible repeat (first | apply Kd.R_alloc | apply Kd.R_drewN | apply Kd.R_drew)); exact HO_5.out) hb); clear HO_5; have HO_5 := a_; clear a_; have a_ := Aside0.mk ((hb.block _ (blk_lt BK140.out)).trans BK140.out); clear BK140; have BK140 := a_; clear a_; have a_ := Aside0.mk (below_step (by repeat (first | (with_reducible first | exact HB.out | apply below_alloc | apply pw_below_drewN | apply below_drew1 | refine below_set ?_ GE140.out) | exact HB.out)) hb); clear HB; have HB := a_; clear a_; have BKs_ := Aside0.mk hbs_; clear hgs_ hbs_ hb) | ((with_reducible refine gate_callee (f := 50) rfl ?_); refine goesL_ (some 93) rfl rfl Try.func50 (by kernel_rfl) rfl #[.slice (some ⟨gs_, 0, none⟩) 2 2] rfl (by (try simp only [List.map_toArray, List.map_cons, List.map_nil]); first | done | rfl) ?_; (with_reducible refine (Go.Proofs.Ytenehkjbopdapaa.PCat.concat2 _ gs_ _ _ _ _ t145 t148 BKs_.out ?c0 ?c1 ?hs).mono ?_); (case c0 => exact (Kd.R_reads' HO_4.out).2.2); (case c1 => exact (Kd.R_reads' HO_5.out).2.2); (case hs => have h1_ := LMc82.out; (try rw [Ny185.out] at h1_); (try rw [Ny182.out] at h1_); (try rw [Ny179.out] at h1_); (try rw [Ny179.out] at h1_); (try rw [Ny179.out] at h1_); simp at h1_; omega); rintro e wr_ ⟨vr_, rfl, ho, hb⟩; refine ⟨_, rfl, ?_⟩; rw [(show t145 ++ t148 = y185 from by rw [Ny185.out, Ny182.out, Ny179.out]; simp)] at ho; have ho1_ := Kd.R_lower (Kd.R_new' (Kd.R_new' (Kd.R_new' ho (Kd.R_lt (by (with_reducible repeat (first | apply Kd.R_alloc | apply Kd.R_drewN | apply Kd.R_drew)); exact HO_3.out))) (Kd.R_lt (by (with_reducible repeat (first | apply Kd.R_alloc | apply Kd.R_drewN | apply Kd.R_drew)); exact HO_4.out))) (Kd.R_lt (by (with_reducible repeat (first | apply Kd.R_alloc | apply Kd.R_drewN | apply Kd.R_drew)); exact HO_5.out))) (below_size (by repeat (first | (with_reducible first | exact HB.out | apply below_alloc | apply pw_below_drewN | apply below_drew1 | refine below_set ?_ GE140.out) | exact HB.out))); have nr_ := Aside0.mk (Kd.R_mono (ok' := (fun k_ => some k_ ≠ (.slice Ao47 t142.length co47 : Value).ownBlock ∧ some k_ ≠ (.slice Ao49 t145.length co49 : Value).ownBlock ∧ some k_ ≠ (.slice Ao51 t148.length co51 : Value).ownBlock)) ho1_ (fun k_ hk_ => by first | (simp [Go.Proofs.Ytenehkjbopdapaa.PMap.map_own] at hk_ ⊢; simp [hk_]) | (simp [Go.Proofs.Ytenehkjbopdapaa.PMap.map_own] at hk_ ⊢; exact hk_) | simp_all [Go.Proofs.Ytenehkjbopdapaa.PMap.map_own])); have a_ := Aside0.mk (Kd.R_mono (ok' := fun k_ => (some k_ ≠ (.slice Ao49 t145.length co49 : Value).ownBlock ∧ some k_ ≠ (.slice Ao51 t148.length co51 : Value).ownBlock) ∧ some k_ ≠ (vr_ : Value).ownBlock) (Kd.R_elder' (v := vr_) HO_3.out (Kd.R_base ho) hb) (fun k_ hk_ => by first | (simp [Go.Proofs.Ytenehkjbopdapaa.PMap.map_own] at hk_ ⊢; simp [hk_]) | (simp [Go.Proofs.Ytenehkjbopdapaa.PMap.map_own] at hk_ ⊢; exact hk_) | simp_all [Go.Proofs.Ytenehkjbopdapaa.PMap.map_own])); clear HO_3; have HO_3 := a_; clear a_; have a_ := Aside0.mk (Kd.R_mono (ok' := fun k_ => (some k_ ≠ (.slice Ao47 t142.length co47 : Value).ownBlock ∧ some k_ ≠ (.slice Ao51 t148.length co51 : Value).ownBlock) ∧ some k_ ≠ (vr_ : Value).ownBlock) (Kd.R_elder' (v := vr_) HO_4.out (Kd.R_base ho) hb) (fun k_ hk_ => by first | (simp [Go.Proofs.Ytenehkjbopdapaa.PMap.map_own] at hk_ ⊢; simp [hk_]) | (simp [Go.Proofs.Ytenehkjbopdapaa.PMap.map_own] at hk_ ⊢; exact hk_) | simp_all [Go.Proofs.Ytenehkjbopdapaa.PMap.map_own])); clear HO_4; have HO_4 := a_; clear a_; have a_ := Aside0.mk (Kd.R_mono (ok' := fun k_ => (some k_ ≠ (.slice Ao47 t142.length co47 : Value).ownBlock ∧ some k_ ≠ (.slice Ao49 t145.length co49 : Value).ownBlock) ∧ some k_ ≠ (vr_ : Value).ownBlock) (Kd.R_elder' (v := vr_) HO_5.out (Kd.R_base ho) hb) (fun k_ hk_ => by first | (simp [Go.Proofs.Ytenehkjbopdapaa.PMap.map_own] at hk_ ⊢; simp [hk_]) | (simp [Go.Proofs.Ytenehkjbopdapaa.PMap.map_own] at hk_ ⊢; exact hk_) | simp_all [Go.Proofs.Ytenehkjbopdapaa.PMap.map_own])); clear HO_5; have HO_5 := a_; clear a_; have a_ := Aside0.mk ((hb.block _ (blk_lt BK140.out)).trans BK140.out); clear BK140; have BK140 := a_; clear a_; have a_ := Aside0.mk (below_step (by repeat (first | (with_reducible first | exact HB.out | apply below_alloc | apply pw_below_drewN | apply below_drew1 | refine below_set ?_ GE140.out) | exact HB.out)) hb); clear HB; have HB := a_; clear a_; have HO187 := nr_; clear nr_ ho1_ BKs_; clear ho hb; obtain ⟨Ao87, co87, eo87⟩ := Kd.R_slice HO187.out; subst eo87) | (go_at_call 50; (with_reducible refine (Go.Proofs.Ytenehkjbopdapaa.PCat.concat2 _ gs_ _ _ _ _ t145 t148 BKs_.out ?c0 ?c1 ?hs).mono ?_); (case c0 => exact (Kd.R_reads' HO_4.out).2.2); (case c1 => exact (Kd.R_reads' HO_5.out).2.2); (case hs => have h1_ := LMc82.out; (try rw [Ny185.out] at h1_); (try rw [Ny182.out] at h1_); (try rw [Ny179.out] at h1_); (try rw [Ny179.out] at h1_); (try rw [Ny179.out] at h1_); simp at h1_; omega); rintro e wr_ ⟨vr_, rfl, ho, hb⟩; rw [(show t145 ++ t148 = y185 from by rw [Ny185.out, Ny182.out, Ny179.out]; simp)] at ho; have ho1_ := Kd.R_lower (Kd.R_new' (Kd.R_new' (Kd.R_new' ho (Kd.R_lt (by (with_reducible repeat (first | apply Kd.R_alloc | apply Kd.R_drewN | apply Kd.R_drew)); exact HO_3.out))) (Kd.R_lt (by (with_reducible repeat (first | apply Kd.R_alloc | apply Kd.R_drewN | apply Kd.R_drew)); exact HO_4.out))) (Kd.R_lt (by (with_reducible repeat (first | apply Kd.R_alloc | apply Kd.R_drewN | apply Kd.R_drew)); exact HO_5.out))) (below_size (by repeat (first | (with_reducible first | exact HB.out | apply below_alloc | apply pw_below_drewN | apply below_drew1 | refine below_set ?_ GE140.out) | exact HB.out))); have nr_ := Aside0.mk (Kd.R_mono (ok' := (fun k_ => some k_ ≠ (.slice Ao47 t142.length co47 : Value).ownBlock ∧ some k_ ≠ (.slice Ao49 t145.length co49 : Value).ownBlock ∧ some k_ ≠ (.slice Ao51 t148.length co51 : Value).ownBlock)) ho1_ (fun k_ hk_ => by first | (simp [Go.Proofs.Ytenehkjbopdapaa.PMap.map_own] at hk_ ⊢; simp [hk_]) | (simp [Go.Proofs.Ytenehkjbopdapaa.PMap.map_own] at hk_ ⊢; exact hk_) | simp_all [Go.Proofs.Ytenehkjbopdapaa.PMap.map_own])); have a_ := Aside0.mk (Kd.R_mono (ok' := fun k_ => (some k_ ≠ (.slice Ao49 t145.length co49 : Value).ownBlock ∧ some k_ ≠ (.slice Ao51 t148.length co51 : Value).ownBlock) ∧ some k_ ≠ (vr_ : Value).ownBlock) (Kd.R_elder' (v := vr_) HO_3.out (Kd.R_base ho) hb) (fun k_ hk_ => by first | (simp [Go.Proofs.Ytenehkjbopdapaa.PMap.map_own] at hk_ ⊢; simp [hk_]) | (simp [Go.Proofs.Ytenehkjbopdapaa.PMap.map_own] at hk_ ⊢; exact hk_) | simp_all [Go.Proofs.Ytenehkjbopdapaa.PMap.map_own])); clear HO_3; have HO_3 := a_; clear a_; have a_ := Aside0.mk (Kd.R_mono (ok' := fun k_ => (some k_ ≠ (.slice Ao47 t142.length co47 : Value).ownBlock ∧ some k_ ≠ (.slice Ao51 t148.length co51 : Value).ownBlock) ∧ some k_ ≠ (vr_ : Value).ownBlock) (Kd.R_elder' (v := vr_) HO_4.out (Kd.R_base ho) hb) (fun k_ hk_ => by first | (simp [Go.Proofs.Ytenehkjbopdapaa.PMap.map_own] at hk_ ⊢; simp [hk_]) | (simp [Go.Proofs.Ytenehkjbopdapaa.PMap.map_own] at hk_ ⊢; exact hk_) | simp_all [Go.Proofs.Ytenehkjbopdapaa.PMap.map_own])); clear HO_4; have HO_4 := a_; clear a_; have a_ := Aside0.mk (Kd.R_mono (ok' := fun k_ => (some k_ ≠ (.slice Ao47 t142.length co47 : Value).ownBlock ∧ some k_ ≠ (.slice Ao49 t145.length co49 : Value).ownBlock) ∧ some k_ ≠ (vr_ : Value).ownBlock) (Kd.R_elder' (v := vr_) HO_5.out (Kd.R_base ho) hb) (fun k_ hk_ => by first | (simp [Go.Proofs.Ytenehkjbopdapaa.PMap.map_own] at hk_ ⊢; simp [hk_]) | (simp [Go.Proofs.Ytenehkjbopdapaa.PMap.map_own] at hk_ ⊢; exact hk_) | simp_all [Go.Proofs.Ytenehkjbopdapaa.PMap.map_own])); clear HO_5; have HO_5 := a_; clear a_; have a_ := Aside0.mk ((hb.block _ (blk_lt BK140.out)).trans BK140.out); clear BK140; have BK140 := a_; clear a_; have a_ := Aside0.mk (below_step (by repeat (first | (with_reducible first | exact HB.out | apply below_alloc | apply pw_below_drewN | apply below_drew1 | refine below_set ?_ GE140.out) | exact HB.out)) hb); clear HB; have HB := a_; clear a_; have HO187 := nr_; clear nr_ ho1_ BKs_; clear ho hb; obtain ⟨Ao87, co87, eo87⟩ := Kd.R_slice HO187.out; subst eo87))
                                go_loopg [95] k3 (fun kq v95 w' => ∃ (x95_4 : Int), v95 = .int .i64 x95_4 ∧ Aside0 (impl_ArnOk.l2 kq t148 y185 (y185.length : Int) x95_4 l0_0 a0_1 a0_2 a0_3 = some r) ∧ Aside0 (kq ≤ k3) ∧ Aside0 (Kd.R (Kd.int .i64) 3 w' w.heap.size (fun k_ => some k_ ≠ ((.slice Ao87 y185.length co87) : Value).ownBlock) (.slice Ao51 t148.length co51) t148) ∧ Aside0 (Kd.R (Kd.int .i64) 3 w' w.heap.size (fun k_ => some k_ ≠ ((.slice Ao51 t148.length co51) : Value).ownBlock) (.slice Ao87 y185.length co87) y185) ∧ Aside0 (w'.heap[gb140]? = some (.cells #[(.slice A0_0 l0_0.length c0_0), .int .i64 a0_1, .int .i64 a0_2, .int .i64 a0_3] 29 (0, 0))) ∧ Aside0 (Below w.heap.size w w'))
                                case atStart => exact ⟨(0), (by first | rfl | (simp; done) | (simp [*]; done)), H', ⟨Nat.le_refl _⟩, ⟨by (with_reducible repeat (first | apply Kd.R_alloc | apply Kd.R_drewN | apply Kd.R_drew)); exact Kd.R_mono HO_5.out (fun _ hk => by first | exact hk.2 | trivial | simp [hk])⟩, ⟨by (with_reducible repeat (first | apply Kd.R_alloc | apply Kd.R_drewN | apply Kd.R_drew)); exact Kd.R_mono HO187.out (fun _ hk => by first | exact hk.2.2 | trivial | simp [hk])⟩, ⟨by (with_reducible repeat (first | refine blk_drewN ?_ _ | refine blk_drew ?_ | refine blk_alloc ?_ _)); exact BK140.out⟩, ⟨by repeat (first | (with_reducible first | exact HB.out | apply below_alloc | apply pw_below_drewN | apply below_drew1 | refine below_set ?_ GE140.out) | exact HB.out)⟩⟩
                                case round =>
                                  clear H'
                                  try clear p1
                                  try clear q1
                                  try clear hx1
                                  try clear p2
                                  try clear c6
                                  try clear p6
                                  try clear c7
                                  try clear c8
                                  try clear p16
                                  try clear q16
                                  try clear hx16
                                  try clear p17
                                  try clear q17
                                  try clear hx17
                                  try clear p64
                                  try clear c69
                                  try clear c69b0
                                  try clear c71
                                  try clear c71b0
                                  try clear c72
                                  try clear c72b0
                                  try clear c73
                                  try clear c73b0
                                  try clear c74
                                  try clear c74b0
                                  try clear c75
                                  try clear c75b0
                                  try clear c76
                                  try clear c76b0
                                  try clear c77
                                  try clear c77b0
                                  try clear c78
                                  try clear c78b0
                                  try clear c81
                                  try clear c82
                                  try clear hfz23_3
                                  try clear hfz26_0
                                  try clear hfz26_1
                                  try clear hfz26_2
                                  try clear hfz26_3
                                  try clear hfz29_0
                                  try clear hfz29_1
                                  try clear hfz29_2
                                  try clear hfz29_3
                                  try clear hfz32_0
                                  try clear hfz32_1
                                  try clear hfz32_2
                                  try clear hfz32_3
                                  try clear hfz35_0
                                  try clear hfz35_1
                                  try clear hfz35_2
                                  try clear hfz35_3
                                  try clear hfz65_0
                                  try clear hfz65_1
                                  try clear hfz65_2
                                  try clear hfz65_3
                                  try clear hfz68_0
                                  try clear hfz68_1
                                  try clear hfz68_2
                                  try clear hfz68_3
                                  try clear hfz9_0
                                  try clear hfz9_1
                                  try clear hfz9_2
                                  try clear hfz9_3
                                  try clear hx169_0
                                  try clear hx171_0
                                  try clear hx171_1
                                  try clear hx171_2
                                  try clear hx171_3
                                  try clear hx171_4
                                  try clear hx171_5
                                  try clear hx175_0
                                  try clear hx176_0
                                  try clear hx176_1
                                  try clear hx176_2
                                  try clear hx176_3
                                  try clear hx176_4
                                  try clear hx176_5
                                  try clear hx177_0
                                  try clear hx178_0
                                  try clear hx178_1
                                  try clear hx178_2
                                  try clear hx178_3
                                  try clear hx178_4
                                  try clear hx178_5
                                  try clear p169
                                  try clear p171
                                  try clear p175
                                  try clear p176
                                  try clear p177
                                  try clear p178
                                  try clear p2
                                  try clear q169
                                  try clear q171
                                  try clear q175
                                  try clear q176
                                  try clear q177
                                  try clear q178
                                  obtain ⟨x95_4, rfl, HA, HK4, HO_5, HO_93, BK140, HB⟩ := hrel
                                  cases gk with
                                  | zero => exact absurd HA.out (by simp [impl_ArnOk.l2])
                                  | succ k4 =>
                                    have H := HA.out
                                    clear HA
                                    simp only [impl_ArnOk.l2] at H
                                    by_cases c88 : x95_4 < (y185.length : Int)
                                    · rw [if_pos c88] at H
                                      have c88b0 : decide (x95_4 < (y185.length : Int)) = true := decide_eq_true c88
                                      clear c88
                                      by_cases c89 : 0 ≤ x95_4
                                      · rw [if_pos c89] at H
                                        have c89b0 : decide (0 ≤ x95_4) = true := decide_eq_true c89
                                        clear c89
                                        by_cases c90 : x95_4 < (y185.length : Int)
                                        · rw [if_pos c90] at H
                                          have c90b0 : decide (x95_4 < (y185.length : Int)) = true := decide_eq_true c90
                                          clear c90
                                          by_cases c91 : 0 ≤ (rd y185 x95_4)
                                          · rw [if_pos c91] at H
                                            have c91b0 : decide (0 ≤ (rd y185 x95_4)) = true := decide_eq_true c91
                                            clear c91
                                            by_cases c92 : (rd y185 x95_4) < (l0_0.length : Int)
                                            · rw [if_pos c92] at H
                                              have c92b0 : decide ((rd y185 x95_4) < (l0_0.length : Int)) = true := decide_eq_true c92
                                              clear c92
                                              replace H := Option.bind_eq_some_iff.mp H
                                              obtain ⟨t190, A930, H⟩ := H
                                              replace H : (if t190 = true then (some false) else (impl_ArnOk.l2 k4 t148 y185 (y185.length : Int) (wrap64 (x95_4 + 1)) l0_0 a0_1 a0_2 a0_3)) = some r := H
                                              have A93 := Aside0.mk A930
                                              clear A930
                                              by_cases c94 : t190 = true
                                              · subst c94
                                                have H1 : (some false) = some r := by rw [if_pos rfl] at H; exact H
                                                clear H
                                                have H := H1
                                                clear H1
                                                obtain rfl := Option.some.inj H
                                                have p188 : 0 ≤ (x95_4 : Int) := of_decide_eq_true (by first | (with_reducible assumption) | assumption)
                                                have q188 : x95_4 < (y185.length : Int) := of_decide_eq_true (by first | (with_reducible assumption) | assumption)
                                                obtain ⟨ad188, e188, hx188_0⟩ := Kd.at_int (Kd.R_reads' HO_93.out).2.2 x95_4 p188 q188
                                                cases e188
                                                replace p188 := eq_true p188
                                                replace q188 := eq_true q188
                                                have hcz95_0 : wr.cell? ⟨gb140, 0, none⟩ = some (.slice A0_0 l0_0.length c0_0) := (blk_cell BK140.out 0).trans rfl
                                                have hcz95_1 : wr.cell? ⟨gb140, 1, none⟩ = some (.int .i64 a0_1) := (blk_cell BK140.out 1).trans rfl
                                                have hcz95_2 : wr.cell? ⟨gb140, 2, none⟩ = some (.int .i64 a0_2) := (blk_cell BK140.out 2).trans rfl
                                                have hcz95_3 : wr.cell? ⟨gb140, 3, none⟩ = some (.int .i64 a0_3) := (blk_cell BK140.out 3).trans rfl
                                                have hfz95_0 := blk_frozen BK140.out 0
                                                have hfz95_1 := blk_frozen BK140.out 1
                                                have hfz95_2 := blk_frozen BK140.out 2
                                                have hfz95_3 := blk_frozen BK140.out 3
                                                have p189 : 0 ≤ ((rd y185 x95_4) : Int) := of_decide_eq_true (by first | (with_reducible assumption) | assumption)
                                                have q189 : (rd y185 x95_4) < (l0_0.length : Int) := of_decide_eq_true (by first | (with_reducible assumption) | assumption)
                                                obtain ⟨ad189, e189, hx189_0, hx189_1, hx189_2, hx189_3, hx189_4, hx189_5⟩ := at_T62 HR0_0.out (rd y185 x95_4) p189 q189
                                                cases e189
                                                replace hx189_0 := (HB.out.cell (World.block_lt_of_cell? w _ hx189_0)).trans hx189_0
                                                replace hx189_1 := (HB.out.cell (World.block_lt_of_cell? w _ hx189_1)).trans hx189_1
                                                replace hx189_2 := (HB.out.cell (World.block_lt_of_cell? w _ hx189_2)).trans hx189_2
                                                replace hx189_3 := (HB.out.cell (World.block_lt_of_cell? w _ hx189_3)).trans hx189_3
                                                replace hx189_4 := (HB.out.cell (World.block_lt_of_cell? w _ hx189_4)).trans hx189_4
                                                replace hx189_5 := (HB.out.cell (World.block_lt_of_cell? w _ hx189_5)).trans hx189_5
                                                replace p189 := eq_true p189
                                                replace q189 := eq_true q189
                                                go_wp2_with (first | ((with_reducible refine gate_callee (f := 51) rfl ?_); refine goesL_ (some 105) rfl rfl Try.func51 (by kernel_rfl) rfl #[.int .i64 ((rd_T62 l0_0 (rd y185 x95_4)).f2)] rfl (by (try simp only [List.map_toArray, List.map_cons, List.map_nil]); first | done | rfl | (simp only [List.length_drop, List.length_take]; rfl)) ?_; (with_reducible refine (impl_WrdMark.calls ((rd_T62 l0_0 (rd y185 x95_4)).f2) true _ A93.out).mono ?_); rintro e w' ⟨rfl, ⟨nd, rfl⟩⟩; refine ⟨_, rfl, ?_⟩))
                                                go_ret
                                                exact ⟨by first | rfl | (simp [errW_none, errW_some] <;> rfl) | (simp [*, errW_none, errW_some] <;> rfl), by repeat (first | (with_reducible first | exact HB.out | apply below_alloc | apply pw_below_drewN | apply below_drew1 | refine below_set ?_ GE140.out) | exact HB.out)⟩
                                              · replace c94 := Bool.eq_false_iff.mpr c94
                                                subst c94
                                                have H1 : (impl_ArnOk.l2 k4 t148 y185 (y185.length : Int) (wrap64 (x95_4 + 1)) l0_0 a0_1 a0_2 a0_3) = some r := by rw [if_neg (show ¬ (false = true) by decide)] at H; exact H
                                                clear H
                                                have H := H1
                                                clear H1
                                                have H' := Aside0.mk H
                                                clear H
                                                have p188 : 0 ≤ (x95_4 : Int) := of_decide_eq_true (by first | (with_reducible assumption) | assumption)
                                                have q188 : x95_4 < (y185.length : Int) := of_decide_eq_true (by first | (with_reducible assumption) | assumption)
                                                obtain ⟨ad188, e188, hx188_0⟩ := Kd.at_int (Kd.R_reads' HO_93.out).2.2 x95_4 p188 q188
                                                cases e188
                                                replace p188 := eq_true p188
                                                replace q188 := eq_true q188
                                                have hcz96_0 : wr.cell? ⟨gb140, 0, none⟩ = some (.slice A0_0 l0_0.length c0_0) := (blk_cell BK140.out 0).trans rfl
                                                have hcz96_1 : wr.cell? ⟨gb140, 1, none⟩ = some (.int .i64 a0_1) := (blk_cell BK140.out 1).trans rfl
                                                have hcz96_2 : wr.cell? ⟨gb140, 2, none⟩ = some (.int .i64 a0_2) := (blk_cell BK140.out 2).trans rfl
                                                have hcz96_3 : wr.cell? ⟨gb140, 3, none⟩ = some (.int .i64 a0_3) := (blk_cell BK140.out 3).trans rfl
                                                have hfz96_0 := blk_frozen BK140.out 0
                                                have hfz96_1 := blk_frozen BK140.out 1
                                                have hfz96_2 := blk_frozen BK140.out 2
                                                have hfz96_3 := blk_frozen BK140.out 3
                                                have p189 : 0 ≤ ((rd y185 x95_4) : Int) := of_decide_eq_true (by first | (with_reducible assumption) | assumption)
                                                have q189 : (rd y185 x95_4) < (l0_0.length : Int) := of_decide_eq_true (by first | (with_reducible assumption) | assumption)
                                                obtain ⟨ad189, e189, hx189_0, hx189_1, hx189_2, hx189_3, hx189_4, hx189_5⟩ := at_T62 HR0_0.out (rd y185 x95_4) p189 q189
                                                cases e189
                                                replace hx189_0 := (HB.out.cell (World.block_lt_of_cell? w _ hx189_0)).trans hx189_0
                                                replace hx189_1 := (HB.out.cell (World.block_lt_of_cell? w _ hx189_1)).trans hx189_1
                                                replace hx189_2 := (HB.out.cell (World.block_lt_of_cell? w _ hx189_2)).trans hx189_2
                                                replace hx189_3 := (HB.out.cell (World.block_lt_of_cell? w _ hx189_3)).trans hx189_3
                                                replace hx189_4 := (HB.out.cell (World.block_lt_of_cell? w _ hx189_4)).trans hx189_4
                                                replace hx189_5 := (HB.out.cell (World.block_lt_of_cell? w _ hx189_5)).trans hx189_5
                                                replace p189 := eq_true p189
                                                replace q189 := eq_true q189
                                                go_wp2_with (first | ((with_reducible refine gate_callee (f := 51) rfl ?_); refine goesL_ (some 105) rfl rfl Try.func51 (by kernel_rfl) rfl #[.int .i64 ((rd_T62 l0_0 (rd y185 x95_4)).f2)] rfl (by (try simp only [List.map_toArray, List.map_cons, List.map_nil]); first | done | rfl | (simp only [List.length_drop, List.length_take]; rfl)) ?_; (with_reducible refine (impl_WrdMark.calls ((rd_T62 l0_0 (rd y185 x95_4)).f2) false _ A93.out).mono ?_); rintro e w' ⟨rfl, ⟨nd, rfl⟩⟩; refine ⟨_, rfl, ?_⟩))
                                                go_roundg k4
                                                case measure => have := HJ6.out; have := HK2.out; have := HK3.out; have := HK4.out; omega
                                                case rel => exact ⟨(wrap64 (x95_4 + 1)), (by first | rfl | (simp; done) | (simp [*]; done)), H', ⟨by have := HJ6.out; have := HK2.out; have := HK3.out; have := HK4.out; omega⟩, ⟨by (with_reducible repeat (first | apply Kd.R_alloc | apply Kd.R_drewN | apply Kd.R_drew)); exact HO_5.out⟩, ⟨by (with_reducible repeat (first | apply Kd.R_alloc | apply Kd.R_drewN | apply Kd.R_drew)); exact HO_93.out⟩, ⟨by (with_reducible repeat (first | refine blk_drewN ?_ _ | refine blk_drew ?_ | refine blk_alloc ?_ _)); exact BK140.out⟩, ⟨by repeat (first | (with_reducible first | exact HB.out | apply below_alloc | apply pw_below_drewN | apply below_drew1 | refine below_set ?_ GE140.out) | exact HB.out)⟩⟩
                                            · rw [if_neg c92] at H
                                              exact absurd H (by simp)
                                          · rw [if_neg c91] at H
                                            exact absurd H (by simp)
                                        · rw [if_neg c90] at H
                                          exact absurd H (by simp)
                                      · rw [if_neg c89] at H
                                        exact absurd H (by simp)
                                    · rw [if_neg c88] at H
                                      have c88b0 : decide (x95_4 < (y185.length : Int)) = false := decide_eq_false c88
                                      clear c88
                                      obtain ⟨ji97, hji97⟩ : ∃ j_ : Int, (wrap64 ((t148.length : Int) - 1)) = j_ := ⟨_, rfl⟩
                                      replace H : (if 0 ≤ (ji97) then (if (ji97) < (t148.length : Int) then (if (rd t148 (ji97)) = a0_3 then (some true) else (if (t148.length : Int) > 1 then (if 0 ≤ (wrap64 ((t148.length : Int) - 2)) then (if (wrap64 ((t148.length : Int) - 2)) < (t148.length : Int) then (some ((rd t148 (wrap64 ((t148.length : Int) - 2))) == a0_3)) else (none)) else (none)) else (some false))) else (none)) else (none)) = some r := by first | (rw [hji97] at H; exact H) | (simp only [hji97] at H ⊢; exact H)
                                      have hji97w : (IntKind.i64.wrap ((t148.length : Int) - 1)) = ji97 := (i64_w _).trans hji97
                                      by_cases c98 : 0 ≤ (ji97)
                                      · rw [if_pos c98] at H
                                        have c98b0 : decide (0 ≤ (ji97)) = true := decide_eq_true c98
                                        clear c98
                                        by_cases c99 : (ji97) < (t148.length : Int)
                                        · rw [if_pos c99] at H
                                          have c99b0 : decide ((ji97) < (t148.length : Int)) = true := decide_eq_true c99
                                          clear c99
                                          by_cases c100 : (rd t148 (ji97)) = a0_3
                                          · rw [if_pos c100] at H
                                            have c100b0 : ((rd t148 (ji97)) == a0_3) = true := beq_iff_eq.mpr c100
                                            have c100b1 : ((rd t148 (ji97)) != a0_3) = false := bne_eq_false_iff_eq.mpr c100
                                            clear c100
                                            obtain rfl := Option.some.inj H
                                            try go_wp2
                                            have n0_ := Aside0.mk (Kd.R_drew HO_5.out)
                                            have n1_ := Aside0.mk (Kd.R_drew HO_93.out)
                                            have n2_ := Aside0.mk (blk_drew BK140.out)
                                            have n3_ := Aside0.mk (below_drew1 HB.out)
                                            clear HO_5
                                            clear HO_93
                                            clear BK140
                                            clear HB
                                            have HO_5 := n0_
                                            have HO_93 := n1_
                                            have BK140 := n2_
                                            have HB := n3_
                                            clear n0_ n1_ n2_ n3_
                                            have p191 : 0 ≤ ((ji97) : Int) := of_decide_eq_true (by first | (with_reducible assumption) | assumption)
                                            have q191 : (ji97) < (t148.length : Int) := of_decide_eq_true (by first | (with_reducible assumption) | assumption)
                                            obtain ⟨ad191, e191, hx191_0⟩ := Kd.at_int (Kd.R_reads' HO_5.out).2.2 (ji97) p191 q191
                                            cases e191
                                            replace p191 := eq_true p191
                                            replace q191 := eq_true q191
                                            refine start_ (n := 23) (S := fun w' => w'.cell? ⟨gb140, 0, none⟩ = some (.slice A0_0 l0_0.length c0_0) ∧ w'.cell? ⟨gb140, 1, none⟩ = some (.int .i64 a0_1) ∧ w'.cell? ⟨gb140, 2, none⟩ = some (.int .i64 a0_2) ∧ w'.cell? ⟨gb140, 3, none⟩ = some (.int .i64 a0_3) ∧ w'.cell? (ad191.add ((ji97)).toNat) = some (.int .i64 (rd t148 (ji97)))) (ds := []) #[false, false, false, false, false, false, false, false, false, false, false, false, false, false, false, false, false, false, false, false, false, false, false] (by kernel_rfl) rfl rfl ⟨(blk_cell BK140.out 0).trans rfl, (blk_cell BK140.out 1).trans rfl, (blk_cell BK140.out 2).trans rfl, (blk_cell BK140.out 3).trans rfl, hx191_0⟩ (fun hHeld => ?_); refine with_tabW impl_ArnOk.tab26 impl_ArnOk.bits26 (fun HT_ HW_ => ?_)
                                            generalize wr.drew = w101 at HO_5 HO_93 BK140 HB hx191_0 hHeld ⊢
                                            refine pure_ (i := 0) (N := some 109) (v := ?_) (a' := ?_) #[true, false, false, false, false, false, false, false, false, false, false, false, false, false, false, false, false, false, false, false, false, false, false] rfl rfl (any_of HT_.out (by kernel_rfl)) (fun _ _ _ h => h) (Or.inl ⟨by rfl, ?_⟩) ?_ ?_
                                            rotate_left
                                            · intro w'
                                              go_simp
                                              with_reducible rfl
                                            rotate_left
                                            · simp only [Act.put, List.setIfInBounds_toArray, List.set_cons_zero, List.set_cons_succ, i64_w, i32_w]
                                              rfl
                                            refine pure_ (i := 1) (N := some 110) (v := ?_) (a' := ?_) #[true, true, false, false, false, false, false, false, false, false, false, false, false, false, false, false, false, false, false, false, false, false, false] rfl rfl (any_of HT_.out (by kernel_rfl)) (fun _ _ _ h => h) (Or.inl ⟨by rfl, ?_⟩) ?_ ?_
                                            rotate_left
                                            · intro w'
                                              go_simp
                                              with_reducible rfl
                                            rotate_left
                                            · simp only [Act.put, List.setIfInBounds_toArray, List.set_cons_zero, List.set_cons_succ, i64_w, i32_w]
                                              rfl
                                            refine pure_ (i := 2) (N := some 111) (v := ?_) (a' := ?_) #[true, true, true, false, false, false, false, false, false, false, false, false, false, false, false, false, false, false, false, false, false, false, false] rfl rfl (any_of HT_.out (by kernel_rfl)) (fun _ _ _ h => h) (Or.inl ⟨by rfl, ?_⟩) ?_ ?_
                                            rotate_left
                                            · intro w'
                                              go_simp
                                              with_reducible rfl
                                            rotate_left
                                            · simp only [Act.put, List.setIfInBounds_toArray, List.set_cons_zero, List.set_cons_succ, i64_w, i32_w]
                                              rfl
                                            refine pure_ (i := 3) (N := some 112) (v := ?_) (a' := ?_) #[true, true, true, true, false, false, false, false, false, false, false, false, false, false, false, false, false, false, false, false, false, false, false] rfl rfl (any_of HT_.out (by kernel_rfl)) (fun _ _ _ h => h) (Or.inl ⟨by rfl, ?_⟩) ?_ ?_
                                            rotate_left
                                            · intro w'
                                              go_simp
                                              with_reducible rfl
                                            rotate_left
                                            · simp only [Act.put, List.setIfInBounds_toArray, List.set_cons_zero, List.set_cons_succ, i64_w, i32_w]
                                              rfl
                                            refine pure_ (i := 5) (N := some 114) (v := ?_) (a' := ?_) #[true, true, true, true, false, true, false, false, false, false, false, false, false, false, false, false, false, false, false, false, false, false, false] rfl rfl (any_of HT_.out (by kernel_rfl)) (fun _ _ _ h => h) (Or.inl ⟨by rfl, ?_⟩) ?_ ?_
                                            rotate_left
                                            · intro w'
                                              go_simp
                                              with_reducible rfl
                                            rotate_left
                                            · simp only [Act.put, List.setIfInBounds_toArray, List.set_cons_zero, List.set_cons_succ, i64_w, i32_w]
                                              rfl
                                            refine take_ (i := 4) (N := some 113) (v := ?_) (a' := ?_) #[true, true, true, true, true, true, false, false, false, false, false, false, false, false, false, false, false, false, false, false, false, false, false] rfl rfl (take_ofW HT_.out HW_.out (by kernel_rfl)) (fun _ _ _ h => h) (Or.inl ⟨by rfl, ?_⟩) hHeld ?_ ?_
                                            rotate_left
                                            · rintro w' ⟨s0, s1, s2, s3, s4⟩
                                              go_simp
                                              with_reducible rfl
                                            rotate_left
                                            · simp only [Act.put, List.setIfInBounds_toArray, List.set_cons_zero, List.set_cons_succ, i64_w, i32_w]
                                              rfl
                                            refine take_ (i := 6) (N := some 115) (v := ?_) (a' := ?_) #[true, true, true, true, true, true, true, false, false, false, false, false, false, false, false, false, false, false, false, false, false, false, false] rfl rfl (take_ofW HT_.out HW_.out (by kernel_rfl)) (fun _ _ _ h => h) (Or.inl ⟨by rfl, ?_⟩) hHeld ?_ ?_
                                            rotate_left
                                            · rintro w' ⟨s0, s1, s2, s3, s4⟩
                                              go_simp
                                              with_reducible rfl
                                            rotate_left
                                            · simp only [Act.put, List.setIfInBounds_toArray, List.set_cons_zero, List.set_cons_succ, i64_w, i32_w]
                                              rfl
                                            refine pure_ (i := 7) (N := some 116) (v := ?_) (a' := ?_) #[true, true, true, true, true, true, true, true, false, false, false, false, false, false, false, false, false, false, false, false, false, false, false] rfl rfl (any_of HT_.out (by kernel_rfl)) (fun _ _ _ h => h) (Or.inl ⟨by rfl, ?_⟩) ?_ ?_
                                            rotate_left
                                            · intro w'
                                              go_simp
                                              with_reducible rfl
                                            rotate_left
                                            · simp only [Act.put, List.setIfInBounds_toArray, List.set_cons_zero, List.set_cons_succ, i64_w, i32_w]
                                              rfl
                                            refine pure_ (i := 8) (N := some 117) (v := ?_) (a' := ?_) #[true, true, true, true, true, true, true, true, true, false, false, false, false, false, false, false, false, false, false, false, false, false, false] rfl rfl (any_of HT_.out (by kernel_rfl)) (fun _ _ _ h => h) (Or.inl ⟨by rfl, ?_⟩) ?_ ?_
                                            rotate_left
                                            · intro w'
                                              go_simp
                                              with_reducible rfl
                                            rotate_left
                                            · simp only [Act.put, List.setIfInBounds_toArray, List.set_cons_zero, List.set_cons_succ, i64_w, i32_w]
                                              rfl
                                            refine pure_ (i := 9) (N := some 118) (v := undef) (a' := ?_) #[true, true, true, true, true, true, true, true, true, true, false, false, false, false, false, false, false, false, false, false, false, false, false] rfl rfl (any_of HT_.out (by kernel_rfl)) (fun _ _ _ h => h) (Or.inr ⟨by rfl, rfl⟩) ?_ ?_
                                            rotate_left
                                            · simp only [Act.put, List.setIfInBounds_toArray, List.set_cons_zero, List.set_cons_succ, i64_w, i32_w]
                                              rfl
                                            refine pure_ (i := 10) (N := some 119) (v := undef) (a' := ?_) #[true, true, true, true, true, true, true, true, true, true, true, false, false, false, false, false, false, false, false, false, false, false, false] rfl rfl (any_of HT_.out (by kernel_rfl)) (fun _ _ _ h => h) (Or.inr ⟨by rfl, rfl⟩) ?_ ?_
                                            rotate_left
                                            · simp only [Act.put, List.setIfInBounds_toArray, List.set_cons_zero, List.set_cons_succ, i64_w, i32_w]
                                              rfl
                                            refine pure_ (i := 11) (N := some 120) (v := undef) (a' := ?_) #[true, true, true, true, true, true, true, true, true, true, true, true, false, false, false, false, false, false, false, false, false, false, false] rfl rfl (any_of HT_.out (by kernel_rfl)) (fun _ _ _ h => h) (Or.inr ⟨by rfl, rfl⟩) ?_ ?_
                                            rotate_left
                                            · simp only [Act.put, List.setIfInBounds_toArray, List.set_cons_zero, List.set_cons_succ, i64_w, i32_w]
                                              rfl
                                            refine pure_ (i := 12) (N := some 121) (v := undef) (a' := ?_) #[true, true, true, true, true, true, true, true, true, true, true, true, true, false, false, false, false, false, false, false, false, false, false] rfl rfl (any_of HT_.out (by kernel_rfl)) (fun _ _ _ h => h) (Or.inr ⟨by rfl, rfl⟩) ?_ ?_
                                            rotate_left
                                            · simp only [Act.put, List.setIfInBounds_toArray, List.set_cons_zero, List.set_cons_succ, i64_w, i32_w]
                                              rfl
                                            refine pure_ (i := 13) (N := some 122) (v := undef) (a' := ?_) #[true, true, true, true, true, true, true, true, true, true, true, true, true, true, false, false, false, false, false, false, false, false, false] rfl rfl (any_of HT_.out (by kernel_rfl)) (fun _ _ _ h => h) (Or.inr ⟨by rfl, rfl⟩) ?_ ?_
                                            rotate_left
                                            · simp only [Act.put, List.setIfInBounds_toArray, List.set_cons_zero, List.set_cons_succ, i64_w, i32_w]
                                              rfl
                                            refine pure_ (i := 14) (N := some 123) (v := undef) (a' := ?_) #[true, true, true, true, true, true, true, true, true, true, true, true, true, true, true, false, false, false, false, false, false, false, false] rfl rfl (any_of HT_.out (by kernel_rfl)) (fun _ _ _ h => h) (Or.inr ⟨by rfl, rfl⟩) ?_ ?_
                                            rotate_left
                                            · simp only [Act.put, List.setIfInBounds_toArray, List.set_cons_zero, List.set_cons_succ, i64_w, i32_w]
                                              rfl
                                            refine pure_ (i := 15) (N := some 124) (v := undef) (a' := ?_) #[true, true, true, true, true, true, true, true, true, true, true, true, true, true, true, true, false, false, false, false, false, false, false] rfl rfl (any_of HT_.out (by kernel_rfl)) (fun _ _ _ h => h) (Or.inr ⟨by rfl, rfl⟩) ?_ ?_
                                            rotate_left
                                            · simp only [Act.put, List.setIfInBounds_toArray, List.set_cons_zero, List.set_cons_succ, i64_w, i32_w]
                                              rfl
                                            refine pure_ (i := 16) (N := some 125) (v := undef) (a' := ?_) #[true, true, true, true, true, true, true, true, true, true, true, true, true, true, true, true, true, false, false, false, false, false, false] rfl rfl (any_of HT_.out (by kernel_rfl)) (fun _ _ _ h => h) (Or.inr ⟨by rfl, rfl⟩) ?_ ?_
                                            rotate_left
                                            · simp only [Act.put, List.setIfInBounds_toArray, List.set_cons_zero, List.set_cons_succ, i64_w, i32_w]
                                              rfl
                                            refine pure_ (i := 17) (N := some 126) (v := undef) (a' := ?_) #[true, true, true, true, true, true, true, true, true, true, true, true, true, true, true, true, true, true, false, false, false, false, false] rfl rfl (any_of HT_.out (by kernel_rfl)) (fun _ _ _ h => h) (Or.inr ⟨by rfl, rfl⟩) ?_ ?_
                                            rotate_left
                                            · simp only [Act.put, List.setIfInBounds_toArray, List.set_cons_zero, List.set_cons_succ, i64_w, i32_w]
                                              rfl
                                            refine pure_ (i := 18) (N := some 127) (v := undef) (a' := ?_) #[true, true, true, true, true, true, true, true, true, true, true, true, true, true, true, true, true, true, true, false, false, false, false] rfl rfl (any_of HT_.out (by kernel_rfl)) (fun _ _ _ h => h) (Or.inr ⟨by rfl, rfl⟩) ?_ ?_
                                            rotate_left
                                            · simp only [Act.put, List.setIfInBounds_toArray, List.set_cons_zero, List.set_cons_succ, i64_w, i32_w]
                                              rfl
                                            refine pure_ (i := 19) (N := some 128) (v := undef) (a' := ?_) #[true, true, true, true, true, true, true, true, true, true, true, true, true, true, true, true, true, true, true, true, false, false, false] rfl rfl (any_of HT_.out (by kernel_rfl)) (fun _ _ _ h => h) (Or.inr ⟨by rfl, rfl⟩) ?_ ?_
                                            rotate_left
                                            · simp only [Act.put, List.setIfInBounds_toArray, List.set_cons_zero, List.set_cons_succ, i64_w, i32_w]
                                              rfl
                                            refine pure_ (i := 20) (N := some 129) (v := undef) (a' := ?_) #[true, true, true, true, true, true, true, true, true, true, true, true, true, true, true, true, true, true, true, true, true, false, false] rfl rfl (any_of HT_.out (by kernel_rfl)) (fun _ _ _ h => h) (Or.inr ⟨by rfl, rfl⟩) ?_ ?_
                                            rotate_left
                                            · simp only [Act.put, List.setIfInBounds_toArray, List.set_cons_zero, List.set_cons_succ, i64_w, i32_w]
                                              rfl
                                            refine pure_ (i := 21) (N := some 130) (v := ?_) (a' := ?_) #[true, true, true, true, true, true, true, true, true, true, true, true, true, true, true, true, true, true, true, true, true, true, false] rfl rfl (any_of HT_.out (by kernel_rfl)) (fun _ _ _ h => h) (Or.inl ⟨by rfl, ?_⟩) ?_ ?_
                                            rotate_left
                                            · intro w'
                                              go_simp
                                              with_reducible rfl
                                            rotate_left
                                            · simp only [Act.put, List.setIfInBounds_toArray, List.set_cons_zero, List.set_cons_succ, i64_w, i32_w]
                                              rfl
                                            refine pure_ (i := 22) (N := some 2) (v := ?_) (a' := ?_) #[true, true, true, true, true, true, true, true, true, true, true, true, true, true, true, true, true, true, true, true, true, true, true] rfl rfl (any_of HT_.out (by kernel_rfl)) (fun _ _ _ h => h) (Or.inl ⟨by rfl, ?_⟩) ?_ ?_
                                            rotate_left
                                            · intro w'
                                              go_simp
                                              with_reducible rfl
                                            rotate_left
                                            · simp only [Act.put, List.setIfInBounds_toArray, List.set_cons_zero, List.set_cons_succ, i64_w, i32_w]
                                              rfl
                                            refine done_ (done_of HT_.out (by kernel_rfl)) ?_
                                            try go_wp2
                                            go_ret
                                            exact ⟨by first | rfl | (simp [errW_none, errW_some] <;> rfl) | (simp only [← hji97]; first | rfl | (simp [errW_none, errW_some] <;> rfl)) | (simp [*, errW_none, errW_some] <;> rfl), by repeat (first | (with_reducible first | exact HB.out | apply below_alloc | apply pw_below_drewN | apply below_drew1 | refine below_set ?_ GE140.out) | exact HB.out)⟩
                                          · rw [if_neg c100] at H
                                            have c100b0 : ((rd t148 (ji97)) == a0_3) = false := beq_eq_false_iff_ne.mpr c100
                                            have c100b1 : ((rd t148 (ji97)) != a0_3) = true := bne_iff_ne.mpr c100
                                            by_cases c102 : (t148.length : Int) > 1
                                            · rw [if_pos c102] at H
                                              have c102b0 : decide (1 < (t148.length : Int)) = true := decide_eq_true c102
                                              have c102b1 : decide (1 < t148.length) = true := decide_eq_true (by omega)
                                              clear c102
                                              obtain ⟨ji103, hji103⟩ : ∃ j_ : Int, (wrap64 ((t148.length : Int) - 2)) = j_ := ⟨_, rfl⟩
                                              replace H : (if 0 ≤ (ji103) then (if (ji103) < (t148.length : Int) then (some ((rd t148 (ji103)) == a0_3)) else (none)) else (none)) = some r := by first | (rw [hji103] at H; exact H) | (simp only [hji103] at H ⊢; exact H)
                                              have hji103w : (IntKind.i64.wrap ((t148.length : Int) - 2)) = ji103 := (i64_w _).trans hji103
                                              by_cases c104 : 0 ≤ (ji103)
                                              · rw [if_pos c104] at H
                                                have c104b0 : decide (0 ≤ (ji103)) = true := decide_eq_true c104
                                                clear c104
                                                by_cases c105 : (ji103) < (t148.length : Int)
                                                · rw [if_pos c105] at H
                                                  have c105b0 : decide ((ji103) < (t148.length : Int)) = true := decide_eq_true c105
                                                  clear c105
                                                  obtain rfl := Option.some.inj H
                                                  try go_wp2
                                                  have n0_ := Aside0.mk (Kd.R_drew HO_5.out)
                                                  have n1_ := Aside0.mk (Kd.R_drew HO_93.out)
                                                  have n2_ := Aside0.mk (blk_drew BK140.out)
                                                  have n3_ := Aside0.mk (below_drew1 HB.out)
                                                  clear HO_5
                                                  clear HO_93
                                                  clear BK140
                                                  clear HB
                                                  have HO_5 := n0_
                                                  have HO_93 := n1_
                                                  have BK140 := n2_
                                                  have HB := n3_
                                                  clear n0_ n1_ n2_ n3_
                                                  have p191 : 0 ≤ ((ji97) : Int) := of_decide_eq_true (by first | (with_reducible assumption) | assumption)
                                                  have q191 : (ji97) < (t148.length : Int) := of_decide_eq_true (by first | (with_reducible assumption) | assumption)
                                                  obtain ⟨ad191, e191, hx191_0⟩ := Kd.at_int (Kd.R_reads' HO_5.out).2.2 (ji97) p191 q191
                                                  cases e191
                                                  replace p191 := eq_true p191
                                                  replace q191 := eq_true q191
                                                  have p192 : 0 ≤ ((ji103) : Int) := of_decide_eq_true (by first | (with_reducible assumption) | assumption)
                                                  have q192 : (ji103) < (t148.length : Int) := of_decide_eq_true (by first | (with_reducible assumption) | assumption)
                                                  obtain ⟨ad192, e192, hx192_0⟩ := Kd.at_int (Kd.R_reads' HO_5.out).2.2 (ji103) p192 q192
                                                  obtain rfl : ad191 = ad192 := (by injection e192)
                                                  replace p192 := eq_true p192
                                                  replace q192 := eq_true q192
                                                  refine start_ (n := 23) (S := fun w' => w'.cell? ⟨gb140, 0, none⟩ = some (.slice A0_0 l0_0.length c0_0) ∧ w'.cell? ⟨gb140, 1, none⟩ = some (.int .i64 a0_1) ∧ w'.cell? ⟨gb140, 2, none⟩ = some (.int .i64 a0_2) ∧ w'.cell? ⟨gb140, 3, none⟩ = some (.int .i64 a0_3) ∧ w'.cell? (ad191.add ((ji97)).toNat) = some (.int .i64 (rd t148 (ji97))) ∧ w'.cell? (ad191.add ((ji103)).toNat) = some (.int .i64 (rd t148 (ji103)))) (ds := []) #[false, false, false, false, false, false, false, false, false, false, false, false, false, false, false, false, false, false, false, false, false, false, false] (by kernel_rfl) rfl rfl ⟨(blk_cell BK140.out 0).trans rfl, (blk_cell BK140.out 1).trans rfl, (blk_cell BK140.out 2).trans rfl, (blk_cell BK140.out 3).trans rfl, hx191_0, hx192_0⟩ (fun hHeld => ?_); refine with_tabW impl_ArnOk.tab26 impl_ArnOk.bits26 (fun HT_ HW_ => ?_)
                                                  generalize wr.drew = w106 at HO_5 HO_93 BK140 HB hx191_0 hx192_0 hHeld ⊢
                                                  refine pure_ (i := 0) (N := some 109) (v := ?_) (a' := ?_) #[true, false, false, false, false, false, false, false, false, false, false, false, false, false, false, false, false, false, false, false, false, false, false] rfl rfl (any_of HT_.out (by kernel_rfl)) (fun _ _ _ h => h) (Or.inl ⟨by rfl, ?_⟩) ?_ ?_
                                                  rotate_left
                                                  · intro w'
                                                    go_simp
                                                    with_reducible rfl
                                                  rotate_left
                                                  · simp only [Act.put, List.setIfInBounds_toArray, List.set_cons_zero, List.set_cons_succ, i64_w, i32_w]
                                                    rfl
                                                  refine pure_ (i := 1) (N := some 110) (v := ?_) (a' := ?_) #[true, true, false, false, false, false, false, false, false, false, false, false, false, false, false, false, false, false, false, false, false, false, false] rfl rfl (any_of HT_.out (by kernel_rfl)) (fun _ _ _ h => h) (Or.inl ⟨by rfl, ?_⟩) ?_ ?_
                                                  rotate_left
                                                  · intro w'
                                                    go_simp
                                                    with_reducible rfl
                                                  rotate_left
                                                  · simp only [Act.put, List.setIfInBounds_toArray, List.set_cons_zero, List.set_cons_succ, i64_w, i32_w]
                                                    rfl
                                                  refine pure_ (i := 2) (N := some 111) (v := ?_) (a' := ?_) #[true, true, true, false, false, false, false, false, false, false, false, false, false, false, false, false, false, false, false, false, false, false, false] rfl rfl (any_of HT_.out (by kernel_rfl)) (fun _ _ _ h => h) (Or.inl ⟨by rfl, ?_⟩) ?_ ?_
                                                  rotate_left
                                                  · intro w'
                                                    go_simp
                                                    with_reducible rfl
                                                  rotate_left
                                                  · simp only [Act.put, List.setIfInBounds_toArray, List.set_cons_zero, List.set_cons_succ, i64_w, i32_w]
                                                    rfl
                                                  refine pure_ (i := 3) (N := some 112) (v := ?_) (a' := ?_) #[true, true, true, true, false, false, false, false, false, false, false, false, false, false, false, false, false, false, false, false, false, false, false] rfl rfl (any_of HT_.out (by kernel_rfl)) (fun _ _ _ h => h) (Or.inl ⟨by rfl, ?_⟩) ?_ ?_
                                                  rotate_left
                                                  · intro w'
                                                    go_simp
                                                    with_reducible rfl
                                                  rotate_left
                                                  · simp only [Act.put, List.setIfInBounds_toArray, List.set_cons_zero, List.set_cons_succ, i64_w, i32_w]
                                                    rfl
                                                  refine pure_ (i := 5) (N := some 114) (v := ?_) (a' := ?_) #[true, true, true, true, false, true, false, false, false, false, false, false, false, false, false, false, false, false, false, false, false, false, false] rfl rfl (any_of HT_.out (by kernel_rfl)) (fun _ _ _ h => h) (Or.inl ⟨by rfl, ?_⟩) ?_ ?_
                                                  rotate_left
                                                  · intro w'
                                                    go_simp
                                                    with_reducible rfl
                                                  rotate_left
                                                  · simp only [Act.put, List.setIfInBounds_toArray, List.set_cons_zero, List.set_cons_succ, i64_w, i32_w]
                                                    rfl
                                                  refine take_ (i := 4) (N := some 113) (v := ?_) (a' := ?_) #[true, true, true, true, true, true, false, false, false, false, false, false, false, false, false, false, false, false, false, false, false, false, false] rfl rfl (take_ofW HT_.out HW_.out (by kernel_rfl)) (fun _ _ _ h => h) (Or.inl ⟨by rfl, ?_⟩) hHeld ?_ ?_
                                                  rotate_left
                                                  · rintro w' ⟨s0, s1, s2, s3, s4, s5⟩
                                                    go_simp
                                                    with_reducible rfl
                                                  rotate_left
                                                  · simp only [Act.put, List.setIfInBounds_toArray, List.set_cons_zero, List.set_cons_succ, i64_w, i32_w]
                                                    rfl
                                                  refine take_ (i := 6) (N := some 115) (v := ?_) (a' := ?_) #[true, true, true, true, true, true, true, false, false, false, false, false, false, false, false, false, false, false, false, false, false, false, false] rfl rfl (take_ofW HT_.out HW_.out (by kernel_rfl)) (fun _ _ _ h => h) (Or.inl ⟨by rfl, ?_⟩) hHeld ?_ ?_
                                                  rotate_left
                                                  · rintro w' ⟨s0, s1, s2, s3, s4, s5⟩
                                                    go_simp
                                                    with_reducible rfl
                                                  rotate_left
                                                  · simp only [Act.put, List.setIfInBounds_toArray, List.set_cons_zero, List.set_cons_succ, i64_w, i32_w]
                                                    rfl
                                                  refine pure_ (i := 7) (N := some 116) (v := ?_) (a' := ?_) #[true, true, true, true, true, true, true, true, false, false, false, false, false, false, false, false, false, false, false, false, false, false, false] rfl rfl (any_of HT_.out (by kernel_rfl)) (fun _ _ _ h => h) (Or.inl ⟨by rfl, ?_⟩) ?_ ?_
                                                  rotate_left
                                                  · intro w'
                                                    go_simp
                                                    with_reducible rfl
                                                  rotate_left
                                                  · simp only [Act.put, List.setIfInBounds_toArray, List.set_cons_zero, List.set_cons_succ, i64_w, i32_w]
                                                    rfl
                                                  refine pure_ (i := 8) (N := some 117) (v := ?_) (a' := ?_) #[true, true, true, true, true, true, true, true, true, false, false, false, false, false, false, false, false, false, false, false, false, false, false] rfl rfl (any_of HT_.out (by kernel_rfl)) (fun _ _ _ h => h) (Or.inl ⟨by rfl, ?_⟩) ?_ ?_
                                                  rotate_left
                                                  · intro w'
                                                    go_simp
                                                    with_reducible rfl
                                                  rotate_left
                                                  · simp only [Act.put, List.setIfInBounds_toArray, List.set_cons_zero, List.set_cons_succ, i64_w, i32_w]
                                                    rfl
                                                  refine pure_ (i := 9) (N := some 118) (v := ?_) (a' := ?_) #[true, true, true, true, true, true, true, true, true, true, false, false, false, false, false, false, false, false, false, false, false, false, false] rfl rfl (any_of HT_.out (by kernel_rfl)) (fun _ _ _ h => h) (Or.inl ⟨by rfl, ?_⟩) ?_ ?_
                                                  rotate_left
                                                  · intro w'
                                                    go_simp
                                                    with_reducible rfl
                                                  rotate_left
                                                  · simp only [Act.put, List.setIfInBounds_toArray, List.set_cons_zero, List.set_cons_succ, i64_w, i32_w]
                                                    rfl
                                                  refine pure_ (i := 10) (N := some 119) (v := ?_) (a' := ?_) #[true, true, true, true, true, true, true, true, true, true, true, false, false, false, false, false, false, false, false, false, false, false, false] rfl rfl (any_of HT_.out (by kernel_rfl)) (fun _ _ _ h => h) (Or.inl ⟨by rfl, ?_⟩) ?_ ?_
                                                  rotate_left
                                                  · intro w'
                                                    go_simp
                                                    with_reducible rfl
                                                  rotate_left
                                                  · simp only [Act.put, List.setIfInBounds_toArray, List.set_cons_zero, List.set_cons_succ, i64_w, i32_w]
                                                    rfl
                                                  refine pure_ (i := 11) (N := some 120) (v := ?_) (a' := ?_) #[true, true, true, true, true, true, true, true, true, true, true, true, false, false, false, false, false, false, false, false, false, false, false] rfl rfl (any_of HT_.out (by kernel_rfl)) (fun _ _ _ h => h) (Or.inl ⟨by rfl, ?_⟩) ?_ ?_
                                                  rotate_left
                                                  · intro w'
                                                    go_simp
                                                    with_reducible rfl
                                                  rotate_left
                                                  · simp only [Act.put, List.setIfInBounds_toArray, List.set_cons_zero, List.set_cons_succ, i64_w, i32_w]
                                                    rfl
                                                  refine pure_ (i := 12) (N := some 121) (v := ?_) (a' := ?_) #[true, true, true, true, true, true, true, true, true, true, true, true, true, false, false, false, false, false, false, false, false, false, false] rfl rfl (any_of HT_.out (by kernel_rfl)) (fun _ _ _ h => h) (Or.inl ⟨by rfl, ?_⟩) ?_ ?_
                                                  rotate_left
                                                  · intro w'
                                                    go_simp
                                                    with_reducible rfl
                                                  rotate_left
                                                  · simp only [Act.put, List.setIfInBounds_toArray, List.set_cons_zero, List.set_cons_succ, i64_w, i32_w]
                                                    rfl
                                                  refine pure_ (i := 13) (N := some 122) (v := ?_) (a' := ?_) #[true, true, true, true, true, true, true, true, true, true, true, true, true, true, false, false, false, false, false, false, false, false, false] rfl rfl (any_of HT_.out (by kernel_rfl)) (fun _ _ _ h => h) (Or.inl ⟨by rfl, ?_⟩) ?_ ?_
                                                  rotate_left
                                                  · intro w'
                                                    go_simp
                                                    with_reducible rfl
                                                  rotate_left
                                                  · simp only [Act.put, List.setIfInBounds_toArray, List.set_cons_zero, List.set_cons_succ, i64_w, i32_w]
                                                    rfl
                                                  refine pure_ (i := 14) (N := some 123) (v := ?_) (a' := ?_) #[true, true, true, true, true, true, true, true, true, true, true, true, true, true, true, false, false, false, false, false, false, false, false] rfl rfl (any_of HT_.out (by kernel_rfl)) (fun _ _ _ h => h) (Or.inl ⟨by rfl, ?_⟩) ?_ ?_
                                                  rotate_left
                                                  · intro w'
                                                    go_simp
                                                    with_reducible rfl
                                                  rotate_left
                                                  · simp only [Act.put, List.setIfInBounds_toArray, List.set_cons_zero, List.set_cons_succ, i64_w, i32_w]
                                                    rfl
                                                  refine pure_ (i := 15) (N := some 124) (v := ?_) (a' := ?_) #[true, true, true, true, true, true, true, true, true, true, true, true, true, true, true, true, false, false, false, false, false, false, false] rfl rfl (any_of HT_.out (by kernel_rfl)) (fun _ _ _ h => h) (Or.inl ⟨by rfl, ?_⟩) ?_ ?_
                                                  rotate_left
                                                  · intro w'
                                                    go_simp
                                                    with_reducible rfl
                                                  rotate_left
                                                  · simp only [Act.put, List.setIfInBounds_toArray, List.set_cons_zero, List.set_cons_succ, i64_w, i32_w]
                                                    rfl
                                                  refine pure_ (i := 17) (N := some 126) (v := ?_) (a' := ?_) #[true, true, true, true, true, true, true, true, true, true, true, true, true, true, true, true, false, true, false, false, false, false, false] rfl rfl (any_of HT_.out (by kernel_rfl)) (fun _ _ _ h => h) (Or.inl ⟨by rfl, ?_⟩) ?_ ?_
                                                  rotate_left
                                                  · intro w'
                                                    go_simp
                                                    with_reducible rfl
                                                  rotate_left
                                                  · simp only [Act.put, List.setIfInBounds_toArray, List.set_cons_zero, List.set_cons_succ, i64_w, i32_w]
                                                    rfl
                                                  refine take_ (i := 16) (N := some 125) (v := ?_) (a' := ?_) #[true, true, true, true, true, true, true, true, true, true, true, true, true, true, true, true, true, true, false, false, false, false, false] rfl rfl (take_ofW HT_.out HW_.out (by kernel_rfl)) (fun _ _ _ h => h) (Or.inl ⟨by rfl, ?_⟩) hHeld ?_ ?_
                                                  rotate_left
                                                  · rintro w' ⟨s0, s1, s2, s3, s4, s5⟩
                                                    go_simp
                                                    with_reducible rfl
                                                  rotate_left
                                                  · simp only [Act.put, List.setIfInBounds_toArray, List.set_cons_zero, List.set_cons_succ, i64_w, i32_w]
                                                    rfl
                                                  refine take_ (i := 18) (N := some 127) (v := ?_) (a' := ?_) #[true, true, true, true, true, true, true, true, true, true, true, true, true, true, true, true, true, true, true, false, false, false, false] rfl rfl (take_ofW HT_.out HW_.out (by kernel_rfl)) (fun _ _ _ h => h) (Or.inl ⟨by rfl, ?_⟩) hHeld ?_ ?_
                                                  rotate_left
                                                  · rintro w' ⟨s0, s1, s2, s3, s4, s5⟩
                                                    go_simp
                                                    with_reducible rfl
                                                  rotate_left
                                                  · simp only [Act.put, List.setIfInBounds_toArray, List.set_cons_zero, List.set_cons_succ, i64_w, i32_w]
                                                    rfl
                                                  refine pure_ (i := 19) (N := some 128) (v := ?_) (a' := ?_) #[true, true, true, true, true, true, true, true, true, true, true, true, true, true, true, true, true, true, true, true, false, false, false] rfl rfl (any_of HT_.out (by kernel_rfl)) (fun _ _ _ h => h) (Or.inl ⟨by rfl, ?_⟩) ?_ ?_
                                                  rotate_left
                                                  · intro w'
                                                    go_simp
                                                    with_reducible rfl
                                                  rotate_left
                                                  · simp only [Act.put, List.setIfInBounds_toArray, List.set_cons_zero, List.set_cons_succ, i64_w, i32_w]
                                                    rfl
                                                  refine pure_ (i := 20) (N := some 129) (v := ?_) (a' := ?_) #[true, true, true, true, true, true, true, true, true, true, true, true, true, true, true, true, true, true, true, true, true, false, false] rfl rfl (any_of HT_.out (by kernel_rfl)) (fun _ _ _ h => h) (Or.inl ⟨by rfl, ?_⟩) ?_ ?_
                                                  rotate_left
                                                  · intro w'
                                                    go_simp
                                                    with_reducible rfl
                                                  rotate_left
                                                  · simp only [Act.put, List.setIfInBounds_toArray, List.set_cons_zero, List.set_cons_succ, i64_w, i32_w]
                                                    rfl
                                                  refine pure_ (i := 21) (N := some 130) (v := ?_) (a' := ?_) #[true, true, true, true, true, true, true, true, true, true, true, true, true, true, true, true, true, true, true, true, true, true, false] rfl rfl (any_of HT_.out (by kernel_rfl)) (fun _ _ _ h => h) (Or.inl ⟨by rfl, ?_⟩) ?_ ?_
                                                  rotate_left
                                                  · intro w'
                                                    go_simp
                                                    with_reducible rfl
                                                  rotate_left
                                                  · simp only [Act.put, List.setIfInBounds_toArray, List.set_cons_zero, List.set_cons_succ, i64_w, i32_w]
                                                    rfl
                                                  refine pure_ (i := 22) (N := some 2) (v := ?_) (a' := ?_) #[true, true, true, true, true, true, true, true, true, true, true, true, true, true, true, true, true, true, true, true, true, true, true] rfl rfl (any_of HT_.out (by kernel_rfl)) (fun _ _ _ h => h) (Or.inl ⟨by rfl, ?_⟩) ?_ ?_
                                                  rotate_left
                                                  · intro w'
                                                    go_simp
                                                    with_reducible rfl
                                                  rotate_left
                                                  · simp only [Act.put, List.setIfInBounds_toArray, List.set_cons_zero, List.set_cons_succ, i64_w, i32_w]
                                                    rfl
                                                  refine done_ (done_of HT_.out (by kernel_rfl)) ?_
                                                  try go_wp2
                                                  go_ret
                                                  exact ⟨by first | rfl | (simp [errW_none, errW_some] <;> rfl) | (simp only [← hji97, ← hji103]; first | rfl | (simp [errW_none, errW_some] <;> rfl)) | (simp [*, errW_none, errW_some] <;> rfl), by repeat (first | (with_reducible first | exact HB.out | apply below_alloc | apply pw_below_drewN | apply below_drew1 | refine below_set ?_ GE140.out) | exact HB.out)⟩
                                                · rw [if_neg c105] at H
                                                  exact absurd H (by simp)
                                              · rw [if_neg c104] at H
                                                exact absurd H (by simp)
                                            · rw [if_neg c102] at H
                                              have c102b0 : decide (1 < (t148.length : Int)) = false := decide_eq_false c102
                                              have c102b1 : decide (1 < t148.length) = false := decide_eq_false (by omega)
                                              clear c102
                                              obtain rfl := Option.some.inj H
                                              try go_wp2
                                              have n0_ := Aside0.mk (Kd.R_drew HO_5.out)
                                              have n1_ := Aside0.mk (Kd.R_drew HO_93.out)
                                              have n2_ := Aside0.mk (blk_drew BK140.out)
                                              have n3_ := Aside0.mk (below_drew1 HB.out)
                                              clear HO_5
                                              clear HO_93
                                              clear BK140
                                              clear HB
                                              have HO_5 := n0_
                                              have HO_93 := n1_
                                              have BK140 := n2_
                                              have HB := n3_
                                              clear n0_ n1_ n2_ n3_
                                              have p191 : 0 ≤ ((ji97) : Int) := of_decide_eq_true (by first | (with_reducible assumption) | assumption)
                                              have q191 : (ji97) < (t148.length : Int) := of_decide_eq_true (by first | (with_reducible assumption) | assumption)
                                              obtain ⟨ad191, e191, hx191_0⟩ := Kd.at_int (Kd.R_reads' HO_5.out).2.2 (ji97) p191 q191
                                              cases e191
                                              replace p191 := eq_true p191
                                              replace q191 := eq_true q191
                                              refine start_ (n := 23) (S := fun w' => w'.cell? ⟨gb140, 0, none⟩ = some (.slice A0_0 l0_0.length c0_0) ∧ w'.cell? ⟨gb140, 1, none⟩ = some (.int .i64 a0_1) ∧ w'.cell? ⟨gb140, 2, none⟩ = some (.int .i64 a0_2) ∧ w'.cell? ⟨gb140, 3, none⟩ = some (.int .i64 a0_3) ∧ w'.cell? (ad191.add ((ji97)).toNat) = some (.int .i64 (rd t148 (ji97)))) (ds := []) #[false, false, false, false, false, false, false, false, false, false, false, false, false, false, false, false, false, false, false, false, false, false, false] (by kernel_rfl) rfl rfl ⟨(blk_cell BK140.out 0).trans rfl, (blk_cell BK140.out 1).trans rfl, (blk_cell BK140.out 2).trans rfl, (blk_cell BK140.out 3).trans rfl, hx191_0⟩ (fun hHeld => ?_); refine with_tabW impl_ArnOk.tab26 impl_ArnOk.bits26 (fun HT_ HW_ => ?_)
                                              generalize wr.drew = w107 at HO_5 HO_93 BK140 HB hx191_0 hHeld ⊢
                                              refine pure_ (i := 0) (N := some 109) (v := ?_) (a' := ?_) #[true, false, false, false, false, false, false, false, false, false, false, false, false, false, false, false, false, false, false, false, false, false, false] rfl rfl (any_of HT_.out (by kernel_rfl)) (fun _ _ _ h => h) (Or.inl ⟨by rfl, ?_⟩) ?_ ?_
                                              rotate_left
                                              · intro w'
                                                go_simp
                                                with_reducible rfl
                                              rotate_left
                                              · simp only [Act.put, List.setIfInBounds_toArray, List.set_cons_zero, List.set_cons_succ, i64_w, i32_w]
                                                rfl
                                              refine pure_ (i := 1) (N := some 110) (v := ?_) (a' := ?_) #[true, true, false, false, false, false, false, false, false, false, false, false, false, false, false, false, false, false, false, false, false, false, false] rfl rfl (any_of HT_.out (by kernel_rfl)) (fun _ _ _ h => h) (Or.inl ⟨by rfl, ?_⟩) ?_ ?_
                                              rotate_left
                                              · intro w'
                                                go_simp
                                                with_reducible rfl
                                              rotate_left
                                              · simp only [Act.put, List.setIfInBounds_toArray, List.set_cons_zero, List.set_cons_succ, i64_w, i32_w]
                                                rfl
                                              refine pure_ (i := 2) (N := some 111) (v := ?_) (a' := ?_) #[true, true, true, false, false, false, false, false, false, false, false, false, false, false, false, false, false, false, false, false, false, false, false] rfl rfl (any_of HT_.out (by kernel_rfl)) (fun _ _ _ h => h) (Or.inl ⟨by rfl, ?_⟩) ?_ ?_
                                              rotate_left
                                              · intro w'
                                                go_simp
                                                with_reducible rfl
                                              rotate_left
                                              · simp only [Act.put, List.setIfInBounds_toArray, List.set_cons_zero, List.set_cons_succ, i64_w, i32_w]
                                                rfl
                                              refine pure_ (i := 3) (N := some 112) (v := ?_) (a' := ?_) #[true, true, true, true, false, false, false, false, false, false, false, false, false, false, false, false, false, false, false, false, false, false, false] rfl rfl (any_of HT_.out (by kernel_rfl)) (fun _ _ _ h => h) (Or.inl ⟨by rfl, ?_⟩) ?_ ?_
                                              rotate_left
                                              · intro w'
                                                go_simp
                                                with_reducible rfl
                                              rotate_left
                                              · simp only [Act.put, List.setIfInBounds_toArray, List.set_cons_zero, List.set_cons_succ, i64_w, i32_w]
                                                rfl
                                              refine pure_ (i := 5) (N := some 114) (v := ?_) (a' := ?_) #[true, true, true, true, false, true, false, false, false, false, false, false, false, false, false, false, false, false, false, false, false, false, false] rfl rfl (any_of HT_.out (by kernel_rfl)) (fun _ _ _ h => h) (Or.inl ⟨by rfl, ?_⟩) ?_ ?_
                                              rotate_left
                                              · intro w'
                                                go_simp
                                                with_reducible rfl
                                              rotate_left
                                              · simp only [Act.put, List.setIfInBounds_toArray, List.set_cons_zero, List.set_cons_succ, i64_w, i32_w]
                                                rfl
                                              refine take_ (i := 4) (N := some 113) (v := ?_) (a' := ?_) #[true, true, true, true, true, true, false, false, false, false, false, false, false, false, false, false, false, false, false, false, false, false, false] rfl rfl (take_ofW HT_.out HW_.out (by kernel_rfl)) (fun _ _ _ h => h) (Or.inl ⟨by rfl, ?_⟩) hHeld ?_ ?_
                                              rotate_left
                                              · rintro w' ⟨s0, s1, s2, s3, s4⟩
                                                go_simp
                                                with_reducible rfl
                                              rotate_left
                                              · simp only [Act.put, List.setIfInBounds_toArray, List.set_cons_zero, List.set_cons_succ, i64_w, i32_w]
                                                rfl
                                              refine take_ (i := 6) (N := some 115) (v := ?_) (a' := ?_) #[true, true, true, true, true, true, true, false, false, false, false, false, false, false, false, false, false, false, false, false, false, false, false] rfl rfl (take_ofW HT_.out HW_.out (by kernel_rfl)) (fun _ _ _ h => h) (Or.inl ⟨by rfl, ?_⟩) hHeld ?_ ?_
                                              rotate_left
                                              · rintro w' ⟨s0, s1, s2, s3, s4⟩
                                                go_simp
                                                with_reducible rfl
                                              rotate_left
                                              · simp only [Act.put, List.setIfInBounds_toArray, List.set_cons_zero, List.set_cons_succ, i64_w, i32_w]
                                                rfl
                                              refine pure_ (i := 7) (N := some 116) (v := ?_) (a' := ?_) #[true, true, true, true, true, true, true, true, false, false, false, false, false, false, false, false, false, false, false, false, false, false, false] rfl rfl (any_of HT_.out (by kernel_rfl)) (fun _ _ _ h => h) (Or.inl ⟨by rfl, ?_⟩) ?_ ?_
                                              rotate_left
                                              · intro w'
                                                go_simp
                                                with_reducible rfl
                                              rotate_left
                                              · simp only [Act.put, List.setIfInBounds_toArray, List.set_cons_zero, List.set_cons_succ, i64_w, i32_w]
                                                rfl
                                              refine pure_ (i := 8) (N := some 117) (v := ?_) (a' := ?_) #[true, true, true, true, true, true, true, true, true, false, false, false, false, false, false, false, false, false, false, false, false, false, false] rfl rfl (any_of HT_.out (by kernel_rfl)) (fun _ _ _ h => h) (Or.inl ⟨by rfl, ?_⟩) ?_ ?_
                                              rotate_left
                                              · intro w'
                                                go_simp
                                                with_reducible rfl
                                              rotate_left
                                              · simp only [Act.put, List.setIfInBounds_toArray, List.set_cons_zero, List.set_cons_succ, i64_w, i32_w]
                                                rfl
                                              refine pure_ (i := 9) (N := some 118) (v := ?_) (a' := ?_) #[true, true, true, true, true, true, true, true, true, true, false, false, false, false, false, false, false, false, false, false, false, false, false] rfl rfl (any_of HT_.out (by kernel_rfl)) (fun _ _ _ h => h) (Or.inl ⟨by rfl, ?_⟩) ?_ ?_
                                              rotate_left
                                              · intro w'
                                                go_simp
                                                with_reducible rfl
                                              rotate_left
                                              · simp only [Act.put, List.setIfInBounds_toArray, List.set_cons_zero, List.set_cons_succ, i64_w, i32_w]
                                                rfl
                                              refine pure_ (i := 10) (N := some 119) (v := ?_) (a' := ?_) #[true, true, true, true, true, true, true, true, true, true, true, false, false, false, false, false, false, false, false, false, false, false, false] rfl rfl (any_of HT_.out (by kernel_rfl)) (fun _ _ _ h => h) (Or.inl ⟨by rfl, ?_⟩) ?_ ?_
                                              rotate_left
                                              · intro w'
                                                go_simp
                                                with_reducible rfl
                                              rotate_left
                                              · simp only [Act.put, List.setIfInBounds_toArray, List.set_cons_zero, List.set_cons_succ, i64_w, i32_w]
                                                rfl
                                              refine pure_ (i := 11) (N := some 120) (v := ?_) (a' := ?_) #[true, true, true, true, true, true, true, true, true, true, true, true, false, false, false, false, false, false, false, false, false, false, false] rfl rfl (any_of HT_.out (by kernel_rfl)) (fun _ _ _ h => h) (Or.inl ⟨by rfl, ?_⟩) ?_ ?_
                                              rotate_left
                                              · intro w'
                                                go_simp
                                                with_reducible rfl
                                              rotate_left
                                              · simp only [Act.put, List.setIfInBounds_toArray, List.set_cons_zero, List.set_cons_succ, i64_w, i32_w]
                                                rfl
                                              refine pure_ (i := 12) (N := some 121) (v := undef) (a' := ?_) #[true, true, true, true, true, true, true, true, true, true, true, true, true, false, false, false, false, false, false, false, false, false, false] rfl rfl (any_of HT_.out (by kernel_rfl)) (fun _ _ _ h => h) (Or.inr ⟨by rfl, rfl⟩) ?_ ?_
                                              rotate_left
                                              · simp only [Act.put, List.setIfInBounds_toArray, List.set_cons_zero, List.set_cons_succ, i64_w, i32_w]
                                                rfl
                                              refine pure_ (i := 13) (N := some 122) (v := undef) (a' := ?_) #[true, true, true, true, true, true, true, true, true, true, true, true, true, true, false, false, false, false, false, false, false, false, false] rfl rfl (any_of HT_.out (by kernel_rfl)) (fun _ _ _ h => h) (Or.inr ⟨by rfl, rfl⟩) ?_ ?_
                                              rotate_left
                                              · simp only [Act.put, List.setIfInBounds_toArray, List.set_cons_zero, List.set_cons_succ, i64_w, i32_w]
                                                rfl
                                              refine pure_ (i := 14) (N := some 123) (v := undef) (a' := ?_) #[true, true, true, true, true, true, true, true, true, true, true, true, true, true, true, false, false, false, false, false, false, false, false] rfl rfl (any_of HT_.out (by kernel_rfl)) (fun _ _ _ h => h) (Or.inr ⟨by rfl, rfl⟩) ?_ ?_
                                              rotate_left
                                              · simp only [Act.put, List.setIfInBounds_toArray, List.set_cons_zero, List.set_cons_succ, i64_w, i32_w]
                                                rfl
                                              refine pure_ (i := 15) (N := some 124) (v := undef) (a' := ?_) #[true, true, true, true, true, true, true, true, true, true, true, true, true, true, true, true, false, false, false, false, false, false, false] rfl rfl (any_of HT_.out (by kernel_rfl)) (fun _ _ _ h => h) (Or.inr ⟨by rfl, rfl⟩) ?_ ?_
                                              rotate_left
                                              · simp only [Act.put, List.setIfInBounds_toArray, List.set_cons_zero, List.set_cons_succ, i64_w, i32_w]
                                                rfl
                                              refine pure_ (i := 16) (N := some 125) (v := undef) (a' := ?_) #[true, true, true, true, true, true, true, true, true, true, true, true, true, true, true, true, true, false, false, false, false, false, false] rfl rfl (any_of HT_.out (by kernel_rfl)) (fun _ _ _ h => h) (Or.inr ⟨by rfl, rfl⟩) ?_ ?_
                                              rotate_left
                                              · simp only [Act.put, List.setIfInBounds_toArray, List.set_cons_zero, List.set_cons_succ, i64_w, i32_w]
                                                rfl
                                              refine pure_ (i := 17) (N := some 126) (v := undef) (a' := ?_) #[true, true, true, true, true, true, true, true, true, true, true, true, true, true, true, true, true, true, false, false, false, false, false] rfl rfl (any_of HT_.out (by kernel_rfl)) (fun _ _ _ h => h) (Or.inr ⟨by rfl, rfl⟩) ?_ ?_
                                              rotate_left
                                              · simp only [Act.put, List.setIfInBounds_toArray, List.set_cons_zero, List.set_cons_succ, i64_w, i32_w]
                                                rfl
                                              refine pure_ (i := 18) (N := some 127) (v := undef) (a' := ?_) #[true, true, true, true, true, true, true, true, true, true, true, true, true, true, true, true, true, true, true, false, false, false, false] rfl rfl (any_of HT_.out (by kernel_rfl)) (fun _ _ _ h => h) (Or.inr ⟨by rfl, rfl⟩) ?_ ?_
                                              rotate_left
                                              · simp only [Act.put, List.setIfInBounds_toArray, List.set_cons_zero, List.set_cons_succ, i64_w, i32_w]
                                                rfl
                                              refine pure_ (i := 19) (N := some 128) (v := undef) (a' := ?_) #[true, true, true, true, true, true, true, true, true, true, true, true, true, true, true, true, true, true, true, true, false, false, false] rfl rfl (any_of HT_.out (by kernel_rfl)) (fun _ _ _ h => h) (Or.inr ⟨by rfl, rfl⟩) ?_ ?_
                                              rotate_left
                                              · simp only [Act.put, List.setIfInBounds_toArray, List.set_cons_zero, List.set_cons_succ, i64_w, i32_w]
                                                rfl
                                              refine pure_ (i := 20) (N := some 129) (v := ?_) (a' := ?_) #[true, true, true, true, true, true, true, true, true, true, true, true, true, true, true, true, true, true, true, true, true, false, false] rfl rfl (any_of HT_.out (by kernel_rfl)) (fun _ _ _ h => h) (Or.inl ⟨by rfl, ?_⟩) ?_ ?_
                                              rotate_left
                                              · intro w'
                                                go_simp
                                                with_reducible rfl
                                              rotate_left
                                              · simp only [Act.put, List.setIfInBounds_toArray, List.set_cons_zero, List.set_cons_succ, i64_w, i32_w]
                                                rfl
                                              refine pure_ (i := 21) (N := some 130) (v := ?_) (a' := ?_) #[true, true, true, true, true, true, true, true, true, true, true, true, true, true, true, true, true, true, true, true, true, true, false] rfl rfl (any_of HT_.out (by kernel_rfl)) (fun _ _ _ h => h) (Or.inl ⟨by rfl, ?_⟩) ?_ ?_
                                              rotate_left
                                              · intro w'
                                                go_simp
                                                with_reducible rfl
                                              rotate_left
                                              · simp only [Act.put, List.setIfInBounds_toArray, List.set_cons_zero, List.set_cons_succ, i64_w, i32_w]
                                                rfl
                                              refine pure_ (i := 22) (N := some 2) (v := ?_) (a' := ?_) #[true, true, true, true, true, true, true, true, true, true, true, true, true, true, true, true, true, true, true, true, true, true, true] rfl rfl (any_of HT_.out (by kernel_rfl)) (fun _ _ _ h => h) (Or.inl ⟨by rfl, ?_⟩) ?_ ?_
                                              rotate_left
                                              · intro w'
                                                go_simp
                                                with_reducible rfl
                                              rotate_left
                                              · simp only [Act.put, List.setIfInBounds_toArray, List.set_cons_zero, List.set_cons_succ, i64_w, i32_w]
                                                rfl
                                              refine done_ (done_of HT_.out (by kernel_rfl)) ?_
                                              try go_wp2
                                              go_ret
                                              exact ⟨by first | rfl | (simp [errW_none, errW_some] <;> rfl) | (simp only [← hji97]; first | rfl | (simp [errW_none, errW_some] <;> rfl)) | (simp [*, errW_none, errW_some] <;> rfl), by repeat (first | (with_reducible first | exact HB.out | apply below_alloc | apply pw_below_drewN | apply below_drew1 | refine below_set ?_ GE140.out) | exact HB.out)⟩
                                        · rw [if_neg c99] at H
                                          exact absurd H (by simp)
                                      · rw [if_neg c98] at H
                                        exact absurd H (by simp)
                              · rw [if_neg c82] at H
                                exact absurd H (by simp)
                            · rw [if_neg c81] at H
                              exact absurd H (by simp)
              · rw [if_neg c41] at H
                exact absurd H (by simp)
            · rw [if_neg c40] at H
              exact absurd H (by simp)
          · rw [if_neg c39] at H
            exact absurd H (by simp)
  · replace c3 := Bool.eq_false_iff.mpr c3
    subst c3
    have H1 : (some false) = some r := by rw [if_neg (show ¬ (false = true) by decide)] at H; exact H
    clear H
    have H := H1
    clear H1
    obtain rfl := Option.some.inj H
    go_enter Try.func10, Try.ntmps10
    go_wp2_with (first | ((with_reducible refine gate_dst (N := 1) rfl ?_); refine box_event ?hg (N := 1) ?hd (cs := #[.slice A0_0 l0_0.length c0_0, .int .i64 a0_1, .int .i64 a0_2, .int .i64 a0_3]) (t := 29) ?hr ?_; (case hd => rfl); (case hg => rfl); (case hr => first | (go_simp; done) | (go_simp; rfl)); intro gb140 hg w108 hbox hb; have n0_ := Aside0.mk (below_step (by repeat (first | (with_reducible first | exact HB.out | apply below_alloc | apply pw_below_drewN | apply below_drew1) | exact HB.out)) hb); have n1_ := Aside0.mk (hbox); have n2_ := Aside0.mk ((by rw [hg]; exact (below_size (by repeat (first | (with_reducible first | exact HB.out | apply below_alloc | apply pw_below_drewN | apply below_drew1) | exact HB.out))) : w.heap.size ≤ gb140)); have n3_ := Aside0.mk ((by rw [hg]; exact (below_size (by repeat (first | (with_reducible first | exact HB.out | apply below_alloc | apply pw_below_drewN | apply below_drew1) | exact HB.out))) : w.heap.size ≤ gb140)); clear HB; have HB := n0_; have BK140 := n1_; have GW140 := n2_; have GE140 := n3_; clear n0_ n1_ n2_ n3_; clear hb hbox hg; have hcz109_0 : w108.cell? ⟨gb140, 0, none⟩ = some (.slice A0_0 l0_0.length c0_0) := (blk_cell BK140.out 0).trans rfl; have hcz109_1 : w108.cell? ⟨gb140, 1, none⟩ = some (.int .i64 a0_1) := (blk_cell BK140.out 1).trans rfl; have hcz109_2 : w108.cell? ⟨gb140, 2, none⟩ = some (.int .i64 a0_2) := (blk_cell BK140.out 2).trans rfl; have hcz109_3 : w108.cell? ⟨gb140, 3, none⟩ = some (.int .i64 a0_3) := (blk_cell BK140.out 3).trans rfl; have hfz109_0 := blk_frozen BK140.out 0; have hfz109_1 := blk_frozen BK140.out 1; have hfz109_2 := blk_frozen BK140.out 2; have hfz109_3 := blk_frozen BK140.out 3) | ((with_reducible refine gate_callee (f := 46) rfl ?_); refine goesL_ (some 14) rfl rfl Try.func46 (by kernel_rfl) rfl #[.agg #[.slice A0_0 l0_0.length c0_0, .int .i64 a0_1, .int .i64 a0_2, .int .i64 a0_3]] rfl (by (try simp only [List.map_toArray, List.map_cons, List.map_nil]); first | done | rfl | (simp only [List.length_drop, List.length_take]; rfl)) ?_; (with_reducible refine (impl_ArnArena_shaped.calls k _ _ l0_0 a0_1 a0_2 a0_3 false _ ?side1 ?side2 A2.out).mono ?_); (case side1 => repeat (first | exact (Kd.C_below HR0_0.out HB.out) | (with_reducible refine Kd.C_alloc ?_ _) | (with_reducible refine Kd.C_drewN ?_ _) | (with_reducible refine Kd.C_drew ?_))); (case side2 => exact HC0_0.out); rintro e w110 ⟨rfl, hb⟩; refine ⟨_, rfl, ?_⟩; have n0_ := Aside0.mk (blk_below (g := gb140) (o := .cells #[.slice A0_0 l0_0.length c0_0, .int .i64 a0_1, .int .i64 a0_2, .int .i64 a0_3] 29 (0, 0)) (by (with_reducible repeat (first | refine blk_drewN ?_ _ | refine blk_drew ?_ | refine blk_alloc ?_ _)); exact BK140.out) hb); have n1_ := Aside0.mk (below_step (by repeat (first | (with_reducible first | exact HB.out | apply below_alloc | apply pw_below_drewN | apply below_drew1 | refine below_set ?_ GE140.out) | exact HB.out)) hb); clear BK140; clear HB; have BK140 := n0_; have HB := n1_; clear n0_ n1_; (try clear hb); (try clear hb2); (try clear hk); (try clear hi)))
    go_ret
    exact ⟨by first | rfl | (simp [errW_none, errW_some] <;> rfl) | (simp [*, errW_none, errW_some] <;> rfl), by repeat (first | (with_reducible first | exact HB.out | apply below_alloc | apply pw_below_drewN | apply below_drew1 | refine below_set ?_ GE140.out) | exact HB.out)⟩

end Go.Proofs.Ytenehkjbopdapaa.GFnArnNew
