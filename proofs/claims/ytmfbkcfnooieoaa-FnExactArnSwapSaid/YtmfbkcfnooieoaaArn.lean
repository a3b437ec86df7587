/-
  The methods of a pointer to an arena that store into its places: (*ArnArena).give: function 66, turn: 70, take: 72 (round r4's numbers). The arena stands in a block of four cells, its places in a row of the call's own. Conditions: as stated.
-/
import Derived.Test.YtmfbkcfnooieoaaProg
import Derived.Test.YtmfbkcfnooieoaaOwn
import Derived.Test.YtmfbkcfnooieoaaWWords
import Derived.Test.YtmfbkcfnooieoaaWLast
import Derived.Test.YtmfbkcfnooieoaaWMore
import Derived.Lib.SliceRun
import Derived.Great.Walk
set_option linter.unusedVariables false
set_option linter.unusedSimpArgs false
namespace Go.Proofs.Ytmfbkcfnooieoaa.Arn
open Go.RowKit Go.Lib Go.Proofs.YtmfbkcfnooieoaaW.PrintWords Go.Proofs.YtmfbkcfnooieoaaW.PrintLast Go.Proofs.YtmfbkcfnooieoaaW.PrintMore

set_option maxHeartbeats 4000000 in
set_option maxRecDepth 100000 in
/-- give, where the place stands in the row and is used. -/
theorem giveYes (w : World) (b g n c i : Nat) (x1 x2 x3 : Int) (k v wd ver gen : Int) (hb : w.heap[b]? = some (.cells #[.slice (some ⟨g, 0, none⟩) n c, .int .i64 x1, .int .i64 x2, .int .i64 x3] 24 (0, 0))) (hi : i < n) (h1 : 1 ≤ i) (hn : n ≤ maxLen)
    (hc0 : w.cell? ⟨g, i * 6 + 0, none⟩ = some (.int .i64 k)) (hc1 : w.cell? ⟨g, i * 6 + 1, none⟩ = some (.int .i64 v)) (hc2 : w.cell? ⟨g, i * 6 + 2, none⟩ = some (.int .i64 wd)) (hc3 : w.cell? ⟨g, i * 6 + 3, none⟩ = some (.int .i64 ver))
    (hc4 : w.cell? ⟨g, i * 6 + 4, none⟩ = some (.bool true)) (hc5 : w.cell? ⟨g, i * 6 + 5, none⟩ = some (.int .i64 gen)) (hf : ∀ j, w.frozen? ⟨g, j, none⟩ = false) :
    Calls Try.prog 66 #[.pointer (some ⟨b, 0, none⟩), .int .i64 i] w fun e w' => e = .returned (.tuple #[]) ∧ w' = ((((((w.setCell ⟨g, i * 6, none⟩ (.int .i64 0)).setCell ⟨g, i * 6 + 1, none⟩ (.int .i64 0)).setCell ⟨g, i * 6 + 2, none⟩ (.int .i64 0)).setCell ⟨g, i * 6 + 3, none⟩ (.int .i64 0)).setCell ⟨g, i * 6 + 4, none⟩ (.bool false)).setCell ⟨g, i * 6 + 5, none⟩ (.int .i64 gen)).drew := by
  have u24 := Try.underlying24
  have u22 := Try.underlying22
  have u63 := Try.underlying63
  have hcb : w.cell? ⟨b, 0, none⟩ = some (.slice (some ⟨g, 0, none⟩) n c) := by rw [World.cell?, hb]; rfl
  have mixed : Try.prog.follows .mixedOrders = true := by kernel_rfl
  have hge : (1 : Int) ≤ (i : Int) := by omega
  have hlt : (i : Int) < (n : Int) := by omega
  have h0 : (0 : Int) ≤ (i : Int) := by omega
  go_enter Try.func66, Try.ntmps66
  go_wp2
  have d0 : w.drew.cell? ⟨g, i * 6, none⟩ = some (.int .i64 k) := hc0
  have d1 : w.drew.cell? ⟨g, i * 6 + 1, none⟩ = some (.int .i64 v) := hc1
  have d2 : w.drew.cell? ⟨g, i * 6 + 2, none⟩ = some (.int .i64 wd) := hc2
  have d3 : w.drew.cell? ⟨g, i * 6 + 3, none⟩ = some (.int .i64 ver) := hc3
  have d4 : w.drew.cell? ⟨g, i * 6 + 4, none⟩ = some (.bool true) := hc4
  have d5 : w.drew.cell? ⟨g, i * 6 + 5, none⟩ = some (.int .i64 gen) := hc5
  have db : w.drew.cell? ⟨b, 0, none⟩ = some (.slice (some ⟨g, 0, none⟩) n c) := hcb
  have df : ∀ j, w.drew.frozen? ⟨g, j, none⟩ = false := hf
  go_region_law_o (skip)
  all_goals exact Go.Great.bodyPost_end0 rfl rfl ⟨rfl, rfl⟩

set_option maxHeartbeats 4000000 in
set_option maxRecDepth 100000 in
/-- give, where there is no such place. -/
theorem giveNo (w : World) (b : Nat) (A : Option Addr) (n c : Nat) (i : Int) (x1 x2 x3 : Int) (hb : w.heap[b]? = some (.cells #[.slice A n c, .int .i64 x1, .int .i64 x2, .int .i64 x3] 24 (0, 0))) (hi : i < 1 ∨ (n : Int) ≤ i) :
    Calls Try.prog 66 #[.pointer (some ⟨b, 0, none⟩), .int .i64 i] w fun e w' => e = .returned (.tuple #[]) ∧ w' = w := by
  have u24 := Try.underlying24
  have u22 := Try.underlying22
  have hcb : w.cell? ⟨b, 0, none⟩ = some (.slice A n c) := by rw [World.cell?, hb]; rfl
  by_cases h1 : i < 1
  · have hge : ¬ (1 : Int) ≤ i := by omega
    go_enter Try.func66, Try.ntmps66
    go_wp2
    all_goals exact Go.Great.bodyPost_end0 rfl rfl ⟨rfl, rfl⟩
  · have hge : (1 : Int) ≤ i := by omega
    have hlt : ¬ i < (n : Int) := by omega
    go_enter Try.func66, Try.ntmps66
    go_wp2
    all_goals exact Go.Great.bodyPost_end0 rfl rfl ⟨rfl, rfl⟩

set_option maxHeartbeats 4000000 in
set_option maxRecDepth 100000 in
/-- give, where the place is not used. -/
theorem giveFree (w : World) (b g n c i : Nat) (x1 x2 x3 : Int) (hb : w.heap[b]? = some (.cells #[.slice (some ⟨g, 0, none⟩) n c, .int .i64 x1, .int .i64 x2, .int .i64 x3] 24 (0, 0))) (hi : i < n) (h1 : 1 ≤ i) (hn : n ≤ maxLen)
    (hc4 : w.cell? ⟨g, i * 6 + 4, none⟩ = some (.bool false)) :
    Calls Try.prog 66 #[.pointer (some ⟨b, 0, none⟩), .int .i64 i] w fun e w' => e = .returned (.tuple #[]) ∧ w' = w := by
  have u24 := Try.underlying24
  have u22 := Try.underlying22
  have u63 := Try.underlying63
  have hcb : w.cell? ⟨b, 0, none⟩ = some (.slice (some ⟨g, 0, none⟩) n c) := by rw [World.cell?, hb]; rfl
  have hge : (1 : Int) ≤ (i : Int) := by omega
  have hlt : (i : Int) < (n : Int) := by omega
  have h0 : (0 : Int) ≤ (i : Int) := by omega
  go_enter Try.func66, Try.ntmps66
  go_wp2
  all_goals exact Go.Great.bodyPost_end0 rfl rfl ⟨rfl, rfl⟩

set_option maxHeartbeats 4000000 in
set_option maxRecDepth 100000 in
/-- turn, where the word is as it was thought to be. -/
theorem turnYes (w : World) (b g n c i : Nat) (x1 x2 x3 : Int) (old word ver : Int) (hb : w.heap[b]? = some (.cells #[.slice (some ⟨g, 0, none⟩) n c, .int .i64 x1, .int .i64 x2, .int .i64 x3] 24 (0, 0))) (hbg : b ≠ g) (hi : i < n) (hn : n ≤ maxLen)
    (hc2 : w.cell? ⟨g, i * 6 + 2, none⟩ = some (.int .i64 old)) (hc3 : w.cell? ⟨g, i * 6 + 3, none⟩ = some (.int .i64 ver)) (hf : ∀ j, w.frozen? ⟨g, j, none⟩ = false) :
    Calls Try.prog 70 #[.pointer (some ⟨b, 0, none⟩), .int .i64 i, .int .i64 old, .int .i64 word] w fun e w' => e = .returned (.bool true) ∧ w' = (w.setCell ⟨g, i * 6 + 2, none⟩ (.int .i64 word)).setCell ⟨g, i * 6 + 3, none⟩ (.int .i64 (wrap64 (ver + 1))) := by
  have u24 := Try.underlying24
  have u22 := Try.underlying22
  have u63 := Try.underlying63
  have hcb : w.cell? ⟨b, 0, none⟩ = some (.slice (some ⟨g, 0, none⟩) n c) := by rw [World.cell?, hb]; rfl
  have hlt : (i : Int) < (n : Int) := by omega
  have h0 : (0 : Int) ≤ (i : Int) := by omega
  have mixed : Try.prog.follows .mixedOrders = true := by kernel_rfl
  go_enter Try.func70, Try.ntmps70
  go_wp2
  go_ret
  exact ⟨rfl, rfl⟩

set_option maxHeartbeats 4000000 in
set_option maxRecDepth 100000 in
/-- turn, where there is no such place. -/
theorem turnOut (w : World) (b : Nat) (A : Option Addr) (n c : Nat) (i : Int) (x1 x2 x3 : Int) (old word : Int) (hb : w.heap[b]? = some (.cells #[.slice A n c, .int .i64 x1, .int .i64 x2, .int .i64 x3] 24 (0, 0))) (hi : i < 0 ∨ (n : Int) ≤ i) :
    Calls Try.prog 70 #[.pointer (some ⟨b, 0, none⟩), .int .i64 i, .int .i64 old, .int .i64 word] w fun e w' => e = .returned (.bool false) ∧ w' = w := by
  have u24 := Try.underlying24
  have u22 := Try.underlying22
  have hcb : w.cell? ⟨b, 0, none⟩ = some (.slice A n c) := by rw [World.cell?, hb]; rfl
  by_cases h1 : i < 0
  · go_enter Try.func70, Try.ntmps70
    go_wp2
    go_ret
    exact ⟨rfl, rfl⟩
  · have hge : (n : Int) ≤ i := by omega
    go_enter Try.func70, Try.ntmps70
    go_wp2
    go_ret
    exact ⟨rfl, rfl⟩
set_option maxHeartbeats 4000000 in
set_option maxRecDepth 100000 in
/-- turn, where the word is another. -/
theorem turnNot (w : World) (b g n c i : Nat) (x1 x2 x3 : Int) (was old word : Int) (hb : w.heap[b]? = some (.cells #[.slice (some ⟨g, 0, none⟩) n c, .int .i64 x1, .int .i64 x2, .int .i64 x3] 24 (0, 0))) (hi : i < n) (hn : n ≤ maxLen)
    (hc2 : w.cell? ⟨g, i * 6 + 2, none⟩ = some (.int .i64 was)) (hne : ¬ was = old) :
    Calls Try.prog 70 #[.pointer (some ⟨b, 0, none⟩), .int .i64 i, .int .i64 old, .int .i64 word] w fun e w' => e = .returned (.bool false) ∧ w' = w := by
  have u24 := Try.underlying24
  have u22 := Try.underlying22
  have u63 := Try.underlying63
  have hcb : w.cell? ⟨b, 0, none⟩ = some (.slice (some ⟨g, 0, none⟩) n c) := by rw [World.cell?, hb]; rfl
  have hlt : (i : Int) < (n : Int) := by omega
  have h0 : (0 : Int) ≤ (i : Int) := by omega
  go_enter Try.func70, Try.ntmps70
  go_wp2
  all_goals first
    | exact absurd (‹(0 ≤ (i : Int) ∧ ¬ n ≤ i) ∧ (was != old) = false›).2 (by simp [hne])
    | (go_ret; exact ⟨rfl, rfl⟩)

set_option maxHeartbeats 4000000 in
set_option maxRecDepth 100000 in
/-- take, where no place is left. -/
theorem takeNo (w : World) (b : Nat) (A : Option Addr) (n c : Nat) (x1 x2 x3 : Int) (hb : w.heap[b]? = some (.cells #[.slice A n c, .int .i64 x1, .int .i64 x2, .int .i64 x3] 24 (0, 0)))
    (hI : Calls Try.prog 89 #[.slice A n c, .func (.func 90) #[] #[]] w fun e w' => e = .returned (.int .i64 (-1)) ∧ Below w.heap.size w w') :
    Calls Try.prog 72 #[.pointer (some ⟨b, 0, none⟩)] w fun e w' => e = .returned (.int .i64 0) ∧ Below w.heap.size w w' := by
  have u24 := Try.underlying24
  have u22 := Try.underlying22
  have hcb : w.cell? ⟨b, 0, none⟩ = some (.slice A n c) := by rw [World.cell?, hb]; rfl
  go_enter Try.func72, Try.ntmps72
  go_wp2_with (first | ((with_reducible refine gate_callee (f := 89) rfl ?_); refine goesL_ (some 8) rfl rfl Try.func89 (by kernel_rfl) rfl #[.slice A n c, .func (.func 90) #[] #[]] rfl (by (try simp only [List.map_toArray, List.map_cons, List.map_nil]); first | done | rfl) ?_; (with_reducible refine hI.mono ?_); rintro e w1 ⟨rfl, hbl⟩; refine ⟨_, rfl, ?_⟩))
  go_ret
  exact ⟨rfl, hbl⟩

set_option maxHeartbeats 4000000 in
set_option maxRecDepth 100000 in
/-- take, where a place is left. -/
theorem takeYes (w : World) (b g n c i : Nat) (x1 x2 x3 : Int) (k v wd ver gen : Int) (us : Bool) (hb : w.heap[b]? = some (.cells #[.slice (some ⟨g, 0, none⟩) n c, .int .i64 x1, .int .i64 x2, .int .i64 x3] 24 (0, 0))) (hi : i < n) (hn : n ≤ maxLen)
    (hI : Calls Try.prog 89 #[.slice (some ⟨g, 0, none⟩) n c, .func (.func 90) #[] #[]] w fun e w' => e = .returned (.int .i64 i) ∧ Below w.heap.size w w')
    (hc0 : w.cell? ⟨g, i * 6 + 0, none⟩ = some (.int .i64 k)) (hc1 : w.cell? ⟨g, i * 6 + 1, none⟩ = some (.int .i64 v)) (hc2 : w.cell? ⟨g, i * 6 + 2, none⟩ = some (.int .i64 wd)) (hc3 : w.cell? ⟨g, i * 6 + 3, none⟩ = some (.int .i64 ver))
    (hc4 : w.cell? ⟨g, i * 6 + 4, none⟩ = some (.bool us)) (hc5 : w.cell? ⟨g, i * 6 + 5, none⟩ = some (.int .i64 gen)) (hf : ∀ j, w.frozen? ⟨g, j, none⟩ = false) :
    Calls Try.prog 72 #[.pointer (some ⟨b, 0, none⟩)] w fun e w' => e = .returned (.int .i64 i) ∧ ∃ w1, Below w.heap.size w w1 ∧ w' = ((((((w1.setCell ⟨g, i * 6, none⟩ (.int .i64 0)).setCell ⟨g, i * 6 + 1, none⟩ (.int .i64 0)).setCell ⟨g, i * 6 + 2, none⟩ (.int .i64 0)).setCell ⟨g, i * 6 + 3, none⟩ (.int .i64 0)).setCell ⟨g, i * 6 + 4, none⟩ (.bool true)).setCell ⟨g, i * 6 + 5, none⟩ (.int .i64 (IntKind.i64.wrap (gen + 1)))).drew := by
  have u24 := Try.underlying24
  have u22 := Try.underlying22
  have u63 := Try.underlying63
  have hcb : w.cell? ⟨b, 0, none⟩ = some (.slice (some ⟨g, 0, none⟩) n c) := by rw [World.cell?, hb]; rfl
  have mixed : Try.prog.follows .mixedOrders = true := by kernel_rfl
  have hlt : (i : Int) < (n : Int) := by omega
  have h0 : (0 : Int) ≤ (i : Int) := by omega
  have hnl : ¬ (i : Int) < 0 := by omega
  go_enter Try.func72, Try.ntmps72
  go_wp2_with (first | ((with_reducible refine gate_callee (f := 89) rfl ?_); refine goesL_ (some 8) rfl rfl Try.func89 (by kernel_rfl) rfl #[.slice (some ⟨g, 0, none⟩) n c, .func (.func 90) #[] #[]] rfl (by (try simp only [List.map_toArray, List.map_cons, List.map_nil]); first | done | rfl) ?_; (with_reducible refine hI.mono ?_); rintro e w1 ⟨rfl, hbl⟩; refine ⟨_, rfl, ?_⟩))
  have below : ∀ p v, w.cell? p = some v → w1.cell? p = some v := fun p v h => (hbl.cell (World.block_lt_of_cell? w p h)).trans h
  have d0 : w1.drew.cell? ⟨g, i * 6, none⟩ = some (.int .i64 k) := below _ _ hc0
  have d1 : w1.drew.cell? ⟨g, i * 6 + 1, none⟩ = some (.int .i64 v) := below _ _ hc1
  have d2 : w1.drew.cell? ⟨g, i * 6 + 2, none⟩ = some (.int .i64 wd) := below _ _ hc2
  have d3 : w1.drew.cell? ⟨g, i * 6 + 3, none⟩ = some (.int .i64 ver) := below _ _ hc3
  have d4 : w1.drew.cell? ⟨g, i * 6 + 4, none⟩ = some (.bool us) := below _ _ hc4
  have d5 : w1.drew.cell? ⟨g, i * 6 + 5, none⟩ = some (.int .i64 gen) := below _ _ hc5
  have db : w1.drew.cell? ⟨b, 0, none⟩ = some (.slice (some ⟨g, 0, none⟩) n c) := below _ _ hcb
  have df1 : ∀ j, w1.frozen? ⟨g, j, none⟩ = false := fun j => (hbl.frozen (p := ⟨g, j, none⟩) (show g < w.heap.size from World.block_lt_of_cell? w ⟨g, i * 6 + 0, none⟩ hc0)).trans (hf j)
  have df : ∀ j, w1.drew.frozen? ⟨g, j, none⟩ = false := df1
  go_region_law_o (skip)
  all_goals (go_wp2; go_ret; exact ⟨rfl, w1, hbl, rfl⟩)
end Go.Proofs.Ytmfbkcfnooieoaa.Arn
