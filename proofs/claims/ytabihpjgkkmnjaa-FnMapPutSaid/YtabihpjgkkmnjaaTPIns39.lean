/- What this claim's texts name, out of the words that the kit's print laid (and of this seat's own texts). Conditions: as stated. -/
import Derived.Shelf.Spec.SlicesInsertGrow
import Derived.Maps.AppendAt
import Derived.Test.YtabihpjgkkmnjaaProg
import Derived.Test.YtabihpjgkkmnjaaTPMem
import Derived.Test.YtabihpjgkkmnjaaTPOwn
import Derived.Test.YtabihpjgkkmnjaaTPWWords
import Derived.Test.YtabihpjgkkmnjaaTPWLast
import Derived.Test.YtabihpjgkkmnjaaTPWMore
import Derived.Lib.SliceRun
set_option linter.unusedVariables false
set_option linter.unusedSimpArgs false
namespace Go.Proofs.Ytabihpjgkkmnjaa.Ins39
open Go.RowKit Go.Lib Go.Proofs.YtabihpjgkkmnjaaW.PrintWords Go.Proofs.YtabihpjgkkmnjaaW.PrintLast Go.Proofs.YtabihpjgkkmnjaaW.PrintMore Go.Proofs.Ytabihpjgkkmnjaa.Mem
theorem elemInfo : ∃ i : TypeInfo, Try.prog.info? 39 = some i ∧ i.zero = some (.agg #[.int .i64 0, .int .i64 0]) ∧ i.size = 2 ∧ i.bytes = 16 := by
  have h : (Try.prog.info? 39).map (fun i => (i.zero, i.size, i.bytes)) = some (some (.agg #[.int .i64 0, .int .i64 0]), 2, 16) := by kernel_rfl
  obtain ⟨i0, hi, hzz⟩ := Option.map_eq_some_iff.1 h
  simp only [Prod.mk.injEq] at hzz
  exact ⟨i0, hi, hzz.1, hzz.2.1, hzz.2.2⟩
theorem insEnd (w : World) (base n : Nat) (v : Value) (cs vs : List Value) (HO : w.ownsRow base 39 2 v n cs) (ad : Addr) (c2 : Nat) (hvl : vs.length = 2) (hvs : ∀ j u, vs[j]? = some u → w.cell? (ad.add j) = some u)
    (h1 : ∀ u ∈ vs, u.oneCell' = true) (hb : base ≤ w.heap.size) (hn : n ≤ 1000000) :
    Calls Try.prog 47 #[v, .int .i64 n, .slice (some ad) 1 c2] w fun e w' => ∃ v', e = .returned v' ∧ w'.ownsRow base 39 2 v' (n + 1) (cs ++ vs) ∧ w.grownBy w' v.ownBlock ∧ (v'.ownBlock = v.ownBlock ∨ v'.ownBlock = some w.heap.size) := by
  obtain ⟨i0, hi0, hz0, hzs, hzb⟩ := elemInfo
  obtain ⟨A, c, rfl⟩ := own_slice HO
  have hnc := own_le HO
  have u22 := Try.underlying23
  have key : ∀ (A : Option Addr) (c : Nat), w.ownsRow base 39 2 (.slice A n c) n cs → (A = none → c = n) →
      Calls Try.prog 47 #[.slice A n c, .int .i64 n, .slice (some ad) 1 c2] w fun e w' => ∃ v', e = .returned v' ∧ w'.ownsRow base 39 2 v' (n + 1) (cs ++ vs) ∧ w.grownBy w' (Value.slice A n c).ownBlock ∧ (v'.ownBlock = (Value.slice A n c).ownBlock ∨ v'.ownBlock = some w.heap.size) := by
    intro A c HO hA
    have hnc := own_le HO
    by_cases hcn : c = n
    · subst hcn
      go_enter Try.func47, Try.ntmps47
      go_wp2_with (at_builtin; refine wpList_append_own_at _ rfl _ _ 23 rfl base 39 i0 (.agg #[.int .i64 0, .int .i64 0]) 2 16 Try.underlying23 hi0 hz0 hzs hzb (by rfl) (by decide) _ c cs rfl HO ad 1 c2 vs rfl (by rw [hvl, Nat.one_mul]) hvs h1 (by unfold maxLen; omega) (by omega) hb ?_; intro v1 w1 hown hgr hnil hat)
      go_ret
      exact ⟨_, rfl, hown, hgr, hat⟩
    · cases A with
      | none => exact absurd (hA rfl) hcn
      | some a0 =>
        obtain ⟨g, off, sp⟩ := a0
        go_enter Try.func47, Try.ntmps47
        go_wp2_with (at_builtin; refine wpList_append_own_at _ rfl _ _ 23 rfl base 39 i0 (.agg #[.int .i64 0, .int .i64 0]) 2 16 Try.underlying23 hi0 hz0 hzs hzb (by rfl) (by decide) _ n cs rfl HO ad 1 c2 vs rfl (by rw [hvl, Nat.one_mul]) hvs h1 (by unfold maxLen; omega) (by omega) hb ?_; intro v1 w1 hown hgr hnil hat)
        go_ret
        exact ⟨_, rfl, hown, hgr, hat⟩
  refine key A c HO (fun hA => ?_)
  rcases HO.2 with ⟨he, h0⟩ | ⟨g, cap, cur, he, _⟩
  · injection he with _ h2 h3
    omega
  · injection he with h2
    rw [hA] at h2
    cases h2
theorem rows_ (k i n : Nat) (cs vs X : List Value) (hi : i ≤ n) (hcs : cs.length = n * k) (hvs : vs.length = k) (hX : (n + 1) * k ≤ X.length) (hpre : X.take (i * k) = cs.take (i * k)) :
    (((X.take (i * k) ++ vs ++ X.drop (i * k + k)).take ((i + 1) * k) ++ cs.drop (i * k) ++ (X.take (i * k) ++ vs ++ X.drop (i * k + k)).drop ((i + 1) * k + (cs.drop (i * k)).length))).take ((n + 1) * k) = cs.take (i * k) ++ vs ++ cs.drop (i * k) := by
  have hik : i * k ≤ n * k := Nat.mul_le_mul_right _ hi
  have e1 : (i + 1) * k = i * k + k := Nat.succ_mul i k
  have e2 : (n + 1) * k = n * k + k := Nat.succ_mul n k
  have l1 : (X.take (i * k)).length = i * k := by rw [List.length_take]; omega
  have ht : (X.take (i * k) ++ vs ++ X.drop (i * k + k)).take ((i + 1) * k) = X.take (i * k) ++ vs := by
    rw [e1, List.take_append_of_le_length (by rw [List.length_append]; omega), List.take_of_length_le (by rw [List.length_append]; omega)]
  rw [ht, hpre]
  rw [List.take_append_of_le_length (by simp only [List.length_append, List.length_take, List.length_drop]; omega), List.take_of_length_le (by simp only [List.length_append, List.length_take, List.length_drop]; omega)]
theorem rows2_ (k i n : Nat) (cs vs X : List Value) (hi : i ≤ n) (hcs : cs.length = n * k) (hvs : vs.length = k) (hX : (n + 1) * k ≤ X.length) (hpre : X.take (i * k) = cs.take (i * k)) :
    (((X.take ((i + 1) * k) ++ cs.drop (i * k) ++ X.drop ((i + 1) * k + (cs.drop (i * k)).length)).take (i * k) ++ vs ++ (X.take ((i + 1) * k) ++ cs.drop (i * k) ++ X.drop ((i + 1) * k + (cs.drop (i * k)).length)).drop (i * k + vs.length))).take ((n + 1) * k) = cs.take (i * k) ++ vs ++ cs.drop (i * k) := by
  have hik : i * k ≤ n * k := Nat.mul_le_mul_right _ hi
  have e1 : (i + 1) * k = i * k + k := Nat.succ_mul i k
  have e2 : (n + 1) * k = n * k + k := Nat.succ_mul n k
  have l1 : (X.take ((i + 1) * k)).length = (i + 1) * k := by rw [List.length_take]; omega
  have ht : (X.take ((i + 1) * k) ++ cs.drop (i * k) ++ X.drop ((i + 1) * k + (cs.drop (i * k)).length)).take (i * k) = cs.take (i * k) := by
    rw [List.append_assoc, List.take_append_of_le_length (by omega), List.take_take, Nat.min_eq_left (by omega), hpre]
  have hd : (X.take ((i + 1) * k) ++ cs.drop (i * k) ++ X.drop ((i + 1) * k + (cs.drop (i * k)).length)).drop (i * k + vs.length) = cs.drop (i * k) ++ X.drop ((i + 1) * k + (cs.drop (i * k)).length) := by
    rw [List.append_assoc, show i * k + vs.length = (X.take ((i + 1) * k)).length from by omega, List.drop_left]
  rw [ht, hd, ← List.append_assoc]
  rw [List.take_append_of_le_length (by simp only [List.length_append, List.length_take, List.length_drop]; omega), List.take_of_length_le (by simp only [List.length_append, List.length_take, List.length_drop]; omega)]
set_option maxHeartbeats 4000000 in
set_option maxRecDepth 100000 in
theorem insRoom (w : World) (g n c i : Nat) (cur : Array Value) (cs vs : List Value) (hh : w.heap[g]? = some (.cells cur 39 (0, 0))) (hnc : n + 1 ≤ c) (hcm : c ≤ maxLen) (hcu : cur.size = c * 2) (ht : cur.toList.take (n * 2) = cs) (hi : i < n)
    (hcl : ∀ u ∈ cs, u.oneCell' = true) (ad : Addr) (c2 : Nat) (hne : ad.block ≠ g) (hvl : vs.length = 2) (hvs : ∀ j u, vs[j]? = some u → w.cell? (ad.add j) = some u) (h1 : ∀ u ∈ vs, u.oneCell' = true) :
    Calls Try.prog 47 #[.slice (some ⟨g, 0, none⟩) n c, .int .i64 i, .slice (some ad) 1 c2] w fun e w' => e = .returned (.slice (some ⟨g, 0, none⟩) (n + 1) c) ∧
      ∃ W X, w.drew.heap.size = W.heap.size ∧ W = w.drew.setRow g (cur.toList.take ((i + 1) * 2) ++ cs.drop (i * 2) ++ cur.toList.drop ((i + 1) * 2 + (cs.drop (i * 2)).length)).toArray ∧ w' = W.setRow g X ∧ X.size = c * 2 ∧ X.toList.take ((n + 1) * 2) = cs.take (i * 2) ++ vs ++ cs.drop (i * 2) := by
  obtain ⟨i0, hi0, hz0, hzs, hzb⟩ := elemInfo
  unfold maxLen at hcm
  have hsz : (Try.prog.info? 39).map (·.size) = some 2 := by rw [hi0]; simp [hzs]
  have hsiz : ∀ w, (Go.sizeOf 39).run Try.prog w = .ok 2 w := fun w => by simp [Go.sizeOf, typeInfo, hi0, hzs]
  have u22 := Try.underlying23
  have hl : cs.length = n * 2 := by rw [← ht, List.length_take, Array.length_toList, hcu]; omega
  have hdl : (cs.drop (i * 2)).length = (n - i) * 2 := by rw [List.length_drop, hl]; omega
  obtain ⟨tA, kA, hsa, hkA⟩ := shape_of_cell (a := ad.add 0) (hvs 0 _ (List.getElem?_eq_getElem (show 0 < vs.length by omega)))
  have hov : ∀ o lb cb, (callFunc 61 #[.slice (some ad) 1 c2, .slice (some ⟨g, o, none⟩) lb cb]).run Try.prog w = .ok (.value (.bool false)) w := fun o lb cb => by
    rw [run_callFunc_extern Try.func61 (by kernel_rfl) (by kernel_rfl) (by kernel_rfl) (e := Extern.SlicesOverlaps.overlaps #[23, 23] #[4]) (by kernel_rfl),
      run_overlaps_own w 23 4 39 Try.underlying23 2 hsiz ad ⟨g, o, none⟩ 1 c2 lb cb hne tA kA cur 39 hsa hkA hh (by omega)]
    rfl
  have hadd : ∀ j, (ad.add j).block = ad.block := fun j => by unfold Addr.add; split <;> rfl
  obtain ⟨R1, hR1⟩ : ∃ R1, R1 = (cur.toList.take ((i + 1) * 2) ++ cs.drop (i * 2) ++ cur.toList.drop ((i + 1) * 2 + (cs.drop (i * 2)).length)).toArray := ⟨_, rfl⟩
  obtain ⟨W1, hW1⟩ : ∃ W1, W1 = w.drew.setRow g R1 := ⟨_, rfl⟩
  have hR1s : R1.size = c * 2 := by rw [hR1]; simp only [List.size_toArray, List.length_append, List.length_take, List.length_drop, Array.length_toList]; omega
  have hh1 : W1.heap[g]? = some (.cells R1 39 (0, 0)) := by rw [hW1]; exact setRow_heap w.drew g cur R1 39 (0, 0) hh
  have hcp1 : ∀ ty dc sc o1 o2 dl, o1 = (i + 1) * 2 → o2 = i * 2 → dl = n - i → (Builtin.copy_ #[23, 23] ty #[.slice (some ⟨g, o1, none⟩) dl dc, .slice (some ⟨g, o2, none⟩) (n + 1 - i) sc]).run Try.prog w.drew = .ok (goInt (n - i)) W1 := fun ty dc sc o1 o2 dl e1 e2 e3 => by
    subst e1; subst e2; subst e3
    rw [run_copy_rowK w.drew 23 23 ty 39 2 g ((i + 1) * 2) (n - i) dc ⟨g, i * 2, none⟩ (n + 1 - i) sc cur 39 (cs.drop (i * 2)) Try.underlying23 hsz hh (by rw [hdl]; congr 1; simp only [Nat.min_def]; split <;> omega)
      (fun j v hj => by
        rw [Addr.add_lit]
        rw [List.getElem?_drop, ← ht, List.getElem?_take] at hj
        split at hj
        · show w.cell? _ = _
          rw [World.cell?, hh]; simpa using hj
        · cases hj)
      (by rw [hdl, hcu]; omega) (fun u hu => hcl u (List.mem_of_mem_drop hu)), ← hR1, ← hW1]
    congr 2
    simp only [Nat.min_def]; split <;> omega
  obtain ⟨R2, hR2⟩ : ∃ R2, R2 = (R1.toList.take (i * 2) ++ vs ++ R1.toList.drop (i * 2 + vs.length)).toArray := ⟨_, rfl⟩
  obtain ⟨W2, hW2⟩ : ∃ W2, W2 = W1.setRow g R2 := ⟨_, rfl⟩
  have hcp2 : ∀ (W : World), W = W1 → ∀ ty dc o1, o1 = i * 2 → (Builtin.copy_ #[23, 23] ty #[.slice (some ⟨g, o1, none⟩) (n + 1 - i) dc, .slice (some ad) 1 c2]).run Try.prog W = .ok (goInt 1) W2 := fun W hW ty dc o1 e1 => by
    rw [hW]; subst e1
    rw [run_copy_rowK W1 23 23 ty 39 2 g (i * 2) (n + 1 - i) dc ad 1 c2 R1 39 vs Try.underlying23 hsz hh1 (by rw [hvl, show Nat.min 1 (n + 1 - i) = 1 from by simp only [Nat.min_def]; split <;> omega])
      (fun j v hj => by rw [hW1, cell_setRow_other _ _ _ (ad.add j) (by rw [hadd]; exact hne)]; exact hvs j v hj) (by rw [hvl, hR1s]; omega) h1, ← hR2, ← hW2]
    congr 2
    simp only [Nat.min_def]; split <;> omega
  have hz2 : ¬ ((i : Int) = (n : Int)) := by omega
  have hw1 : IntKind.i64.wrap ((i : Int) + 1) = (i : Int) + 1 := by rw [IntKind.wrap_i64]; omega
  have hw2 : IntKind.i64.wrap ((n : Int) + 1) = (n : Int) + 1 := by rw [IntKind.wrap_i64]; omega
  have hb1 : (0 : Int) ≤ (i : Int) + 1 := by omega
  have hin : i ≤ n := by omega
  have htn : ((i : Int) + 1).toNat = i + 1 := by omega
  have htn2 : ((n : Int) + 1).toNat = n + 1 := by omega
  have hb2 : ¬ (c = i + 1) := by omega
  have hb3 : (i : Int) ≤ (n : Int) + 1 := by omega
  have hb4 : ¬ (c = i) := by omega
  have hb5 : ¬ ((c : Int) < (n : Int) + 1) := by omega
  have mixed : Try.prog.follows .mixedOrders = true := by kernel_rfl
  have E1 := Aside0.mk hR1
  have E2 := Aside0.mk hW1
  have E3 := Aside0.mk hR2
  have E4 := Aside0.mk hW2
  clear hR1 hW1 hR2 hW2
  go_enter Try.func47, Try.ntmps47
  go_wp2_with (simp only [hov])
  go_region_law_o (refine step_copy_runI rfl _ _ 23 23 rfl _ _ (by simp [Act.eval, Act.put]) (by simp [Act.eval, Act.put]) (hcp1 _ _ _ _ _ _ (by omega) (by omega) (by omega)) ?_)
  go_wp2_with (at_builtin; refine wpList_copy_runI _ rfl _ _ 23 23 rfl _ _ rfl rfl (hcp2 _ rfl _ _ _ (by omega)) ?_)
  go_ret
  refine ⟨rfl, W1, R2, ?_, by rw [E2.out, E1.out], E4.out, ?_, ?_⟩
  · rw [E2.out, setRow_size]
  · rw [E3.out]; simp only [List.size_toArray, List.length_append, List.length_take, List.length_drop, Array.length_toList]; omega
  · rw [E3.out, E1.out, List.toList_toArray]
    exact rows2_ 2 i n cs vs cur.toList hin hl hvl (by rw [Array.length_toList, hcu]; omega) (by rw [← ht, List.take_take]; congr 1; omega)
set_option maxHeartbeats 4000000 in
set_option maxRecDepth 100000 in
theorem insGrow (w : World) (g n c i : Nat) (cur : Array Value) (cs vs : List Value) (hh : w.heap[g]? = some (.cells cur 39 (0, 0))) (hnc : n ≤ c) (hroom : c < n + 1) (hcu : cur.size = c * 2) (ht : cur.toList.take (n * 2) = cs) (hi : i < n) (hn : n ≤ 1000000)
    (hcl : ∀ u ∈ cs, u.oneCell' = true) (ad : Addr) (c2 : Nat) (hvl : vs.length = 2) (hvs : ∀ j u, vs[j]? = some u → w.cell? (ad.add j) = some u) (h1 : ∀ u ∈ vs, u.oneCell' = true) :
    Calls Try.prog 47 #[.slice (some ⟨g, 0, none⟩) n c, .int .i64 i, .slice (some ad) 1 c2] w fun e w' => ∃ G W1 R0 R2 R3, e = .returned (.slice (some ⟨w.heap.size, 0, none⟩) (n + 1) G) ∧ W1 = w.drew.alloc (.cells R0 39) ∧ n + 1 ≤ G ∧ G ≤ maxLen ∧ w' = (W1.setRow w.heap.size R2).drew.setRow w.heap.size R3 ∧ R3.size = G * 2 ∧ R3.toList.take ((n + 1) * 2) = cs.take (i * 2) ++ vs ++ cs.drop (i * 2) := by
  obtain ⟨i0, hi0, hz0, hzs, hzb⟩ := elemInfo
  have hsz : (Try.prog.info? 39).map (·.size) = some 2 := by rw [hi0]; simp [hzs]
  have u22 := Try.underlying23
  have hl : cs.length = n * 2 := by rw [← ht, List.length_take, Array.length_toList, hcu]; omega
  have hdl : (cs.drop (i * 2)).length = (n - i) * 2 := by rw [List.length_drop, hl]; omega
  have hadd : ∀ j, (ad.add j).block = ad.block := fun j => by unfold Addr.add; split <;> rfl
  have hgw : g < w.heap.size := (Array.getElem?_eq_some_iff.1 hh).1
  have hvw : ad.block < w.heap.size := by
    have := block_lt_of_cell (hvs 0 _ (List.getElem?_eq_getElem (show 0 < vs.length by omega)))
    rwa [hadd] at this
  have hcc : ∀ (W : World), W.heap[g]? = some (.cells cur 39 (0, 0)) → ∀ j v, cs[j]? = some v → W.cell? ⟨g, j, none⟩ = some v := fun W hW j v hj => by
    rw [← ht, List.getElem?_take] at hj
    split at hj
    · rw [World.cell?, hW]; simpa using hj
    · cases hj
  have hkk : (n : Int) + 1 - (i : Int) = ((n + 1 - i : Nat) : Int) := by omega
  have hik : i + (n + 1 - i) = n + 1 := by omega
  have hold : (Builtin.firstCells i0.size i (.slice (some ⟨g, 0, none⟩) i c)).run Try.prog w.drew = .ok (cs.take (i * 2)).toArray w.drew := by
    rw [hzs]
    exact run_firstCells_some w.drew 2 i ⟨g, 0, none⟩ i c (cs.take (i * 2)) (by rw [List.length_take]; omega) (fun j v hj => by
      rw [Addr.add_lit]
      rw [List.getElem?_take] at hj
      split at hj
      · rw [Nat.zero_add]; exact hcc w.drew hh j v hj
      · cases hj)
  obtain ⟨G, hG⟩ : ∃ G, G = grownCap w (n + 1) c 39 := ⟨_, rfl⟩
  obtain ⟨R0, hR0⟩ : ∃ R0 : Array Value, R0 = (cs.take (i * 2)).toArray ++ Builtin.zeroCells (Value.cells (.agg #[.int .i64 0, .int .i64 0])) (n + 1 - i) ++ Builtin.zeroCells (Value.cells (.agg #[.int .i64 0, .int .i64 0])) (G - (n + 1)) := ⟨_, rfl⟩
  obtain ⟨W1, hW1⟩ : ∃ W1, W1 = w.drew.alloc (.cells R0 39) := ⟨_, rfl⟩
  have hrz : ∀ ty, (Builtin.append_ #[23, 3] ty #[.slice (some ⟨g, 0, none⟩) i c, .int .i64 ((n : Int) + 1 - (i : Int))]).run Try.prog w = .ok (.slice (some ⟨w.heap.size, 0, none⟩) (n + 1) G) W1 := fun ty => by
    have h := Lib.run_append_grow_zeros w 23 3 ty 39 i0 _ .i64 .i64 Try.underlying23 Try.underlying3 hi0 hz0 (some ⟨g, 0, none⟩) i c (cs.take (i * 2)).toArray.toList hold (n + 1 - i) (by omega) (by omega) (by omega) (by omega) (by rw [hzb]; omega) (by rw [hzb, hik]; exact growslice_fits hroom (by omega))
    rw [hik] at h
    rw [hkk, hW1, hR0, hG]
    exact h
  have hGn : n + 1 ≤ G := by rw [hG]; exact grownCap_ge w _ _ _
  have hGm : G ≤ maxLen := by rw [hG]; exact grownCap_le_maxLen w (n + 1) c 39 (by unfold maxLen; omega)
  have hR0s : R0.size = G * 2 := by
    rw [hR0]
    simp only [Array.size_append, List.size_toArray, List.length_take, Builtin.zeroCells, Array.size_map, Array.size_range, Value.cells]
    simp
    omega
  have hh1 : W1.heap[w.heap.size]? = some (.cells R0 39 (0, 0)) := by rw [hW1]; exact Array.getElem?_push_size
  have hold1 : ∀ k, k < w.heap.size → W1.heap[k]? = w.heap[k]? := fun k hk => by rw [hW1]; simp [World.alloc, Array.getElem?_push, Nat.ne_of_lt hk]; rfl
  have hov1 : ∀ j v, vs[j]? = some v → W1.cell? (ad.add j) = some v := fun j v hj => by
    have := hvs j v hj
    unfold World.cell? at this ⊢
    rw [hadd, hold1 _ hvw, ← hadd j]
    exact this
  obtain ⟨R2, hR2⟩ : ∃ R2, R2 = (R0.toList.take (i * 2) ++ vs ++ R0.toList.drop (i * 2 + vs.length)).toArray := ⟨_, rfl⟩
  have hR2s : R2.size = G * 2 := by rw [hR2]; simp only [List.size_toArray, List.length_append, List.length_take, List.length_drop, Array.length_toList]; omega
  obtain ⟨W2, hW2⟩ : ∃ W2, W2 = W1.setRow w.heap.size R2 := ⟨_, rfl⟩
  have hcpA : ∀ ty dc sl o1, o1 = i * 2 → sl = n + 1 - i → (Builtin.copy_ #[23, 23] ty #[.slice (some ⟨w.heap.size, o1, none⟩) sl dc, .slice (some ad) 1 c2]).run Try.prog W1 = .ok (goInt 1) W2 := fun ty dc sl o1 e1 e2 => by
    subst e1; subst e2
    rw [run_copy_rowK W1 23 23 ty 39 2 w.heap.size (i * 2) (n + 1 - i) dc ad 1 c2 R0 39 vs Try.underlying23 hsz hh1 (by rw [hvl, show Nat.min 1 (n + 1 - i) = 1 from by simp only [Nat.min_def]; split <;> omega])
      hov1 (by rw [hvl, hR0s]; omega) h1, ← hR2, ← hW2]
    congr 2
    simp only [Nat.min_def]; split <;> omega
  have hh2 : W2.heap[w.heap.size]? = some (.cells R2 39 (0, 0)) := by rw [hW2]; exact setRow_heap W1 _ R0 R2 39 (0, 0) hh1
  have hg2 : W2.drew.heap[g]? = some (.cells cur 39 (0, 0)) := by
    show W2.heap[g]? = _
    rw [hW2, setRow_other _ _ _ _ (Nat.ne_of_lt hgw), hold1 g hgw]; exact hh
  obtain ⟨R3, hR3⟩ : ∃ R3, R3 = (R2.toList.take ((i + 1) * 2) ++ cs.drop (i * 2) ++ R2.toList.drop ((i + 1) * 2 + (cs.drop (i * 2)).length)).toArray := ⟨_, rfl⟩
  obtain ⟨W3, hW3⟩ : ∃ W3, W3 = W2.drew.setRow w.heap.size R3 := ⟨_, rfl⟩
  have hcpB : ∀ ty dc sc dl sl o1 o2, o1 = (i + 1) * 2 → o2 = i * 2 → dl = n - i → sl = n - i → (Builtin.copy_ #[23, 23] ty #[.slice (some ⟨w.heap.size, o1, none⟩) dl dc, .slice (some ⟨g, o2, none⟩) sl sc]).run Try.prog W2.drew = .ok (goInt (n - i)) W3 := fun ty dc sc dl sl o1 o2 e1 e2 e3 e4 => by
    subst e1; subst e2; subst e3; subst e4
    rw [run_copy_rowK W2.drew 23 23 ty 39 2 w.heap.size ((i + 1) * 2) (n - i) dc ⟨g, i * 2, none⟩ (n - i) sc R2 39 (cs.drop (i * 2)) Try.underlying23 hsz hh2 (by rw [hdl, show Nat.min (n - i) (n - i) = n - i from Nat.min_self _])
      (fun j v hj => by
        rw [Addr.add_lit]
        rw [List.getElem?_drop] at hj
        exact hcc W2.drew hg2 _ v hj)
      (by rw [hdl, hR2s]; omega) (fun u hu => hcl u (List.mem_of_mem_drop hu)), ← hR3, ← hW3, show Nat.min (n - i) (n - i) = n - i from Nat.min_self _]
    congr 2
    omega
  have hfin : R3.size = G * 2 ∧ R3.toList.take ((n + 1) * 2) = cs.take (i * 2) ++ vs ++ cs.drop (i * 2) := by
    refine ⟨by rw [hR3]; simp only [List.size_toArray, List.length_append, List.length_take, List.length_drop, Array.length_toList]; omega, ?_⟩
    rw [hR3, hR2, List.toList_toArray, hvl]
    exact rows_ 2 i n cs vs R0.toList (Nat.le_of_lt hi) hl hvl (by rw [Array.length_toList, hR0s]; omega) (by
      rw [hR0]
      simp only [Array.toList_append, List.append_assoc]
      rw [List.take_append_of_le_length (by rw [List.length_take]; omega), List.take_take, Nat.min_self])
  have E0 := Aside0.mk hfin
  have E1 := Aside0.mk hW1
  have E2 := Aside0.mk hW2
  have E3 := Aside0.mk hW3
  have E4 := Aside0.mk hGm
  unfold maxLen at hGm
  have hz2 : ¬ ((i : Int) = (n : Int)) := by omega
  have hw1 : IntKind.i64.wrap ((i : Int) + 1) = (i : Int) + 1 := by rw [IntKind.wrap_i64]; omega
  have hw2 : IntKind.i64.wrap ((n : Int) + 1) = (n : Int) + 1 := by rw [IntKind.wrap_i64]; omega
  have hw3 : IntKind.i64.wrap ((n : Int) + 1 - (i : Int)) = (n : Int) + 1 - (i : Int) := by rw [IntKind.wrap_i64]; omega
  have hb1 : (0 : Int) ≤ (i : Int) + 1 := by omega
  have hin : i ≤ n := by omega
  have htn : ((i : Int) + 1).toNat = i + 1 := by omega
  have hb3 : (i : Int) ≤ (n : Int) := by omega
  have hci : ¬ (c = i) := by omega
  have hb5 : (c : Int) < (n : Int) + 1 := by omega
  have hGi : ¬ (G = i) := by omega
  have hGim : ¬ (G = i + 1) := by omega
  have mixed : Try.prog.follows .mixedOrders = true := by kernel_rfl
  clear hkk hik hold hR0 hG hR0s hfin hW1 hW2 hW3 hR2 hR3 hR2s hh1 hh2 hg2 hold1 hov1 hcc hh hcu ht hadd hgw hvw
  go_enter Try.func47, Try.ntmps47
  go_wp2_with (first
    | (at_builtin; refine Lib.wpList_append_run _ rfl _ _ _ _ rfl _ _ rfl rfl _ _ (hrz _) ?_)
    | (at_builtin; refine wpList_copy_runI _ rfl _ _ 23 23 rfl _ _ rfl rfl (hcpA _ _ _ _ (by omega) (by omega)) ?_))
  go_region_law_o (refine step_copy_runI rfl _ _ 23 23 rfl _ _ (by simp [Act.eval, Act.put]) (by simp [Act.eval, Act.put]) (hcpB _ _ _ _ _ _ _ (by omega) (by omega) (by omega) (by omega)) ?_)
  go_wp2
  go_ret
  exact ⟨G, W1, R0, R2, R3, rfl, E1.out, hGn, E4.out, by rw [E3.out, E2.out], E0.out⟩
theorem insRaw (w : World) (base n i : Nat) (v : Value) (cs vs : List Value) (HO : w.ownsRow base 39 2 v n cs) (hcl : ∀ u ∈ cs, u.oneCell' = true) (hi : i ≤ n) (ad : Addr) (c2 : Nat) (hne : ∀ g, v.ownBlock = some g → ad.block ≠ g) (hvl : vs.length = 2)
    (hvs : ∀ j u, vs[j]? = some u → w.cell? (ad.add j) = some u) (h1 : ∀ u ∈ vs, u.oneCell' = true) (hb : base ≤ w.heap.size) (hn : n ≤ 1000000) :
    Calls Try.prog 47 #[v, .int .i64 i, .slice (some ad) 1 c2] w fun e w' => ∃ v', e = .returned v' ∧ w'.ownsRow base 39 2 v' (n + 1) (cs.take (i * 2) ++ vs ++ cs.drop (i * 2)) ∧ w.grownBy w' v.ownBlock ∧ (v'.ownBlock = v.ownBlock ∨ v'.ownBlock = some w.heap.size) := by
  rcases Nat.eq_or_lt_of_le hi with rfl | hlt
  · refine (insEnd w base i v cs vs HO ad c2 hvl hvs h1 hb hn).mono ?_
    rintro e w' ⟨v', h2, h3, h4, h5⟩
    refine ⟨v', h2, ?_, h4, h5⟩
    rw [List.take_of_length_le (by rw [HO.1]; exact Nat.le_refl _), List.drop_eq_nil_of_le (by rw [HO.1]; exact Nat.le_refl _), List.append_nil]
    exact h3
  · obtain ⟨hl, ⟨rfl, h0⟩ | ⟨g, cap, cur, rfl, hg0, hh, hnc, hcm, hcu, ht⟩⟩ := HO
    · omega
    · have hgw : g < w.heap.size := (Array.getElem?_eq_some_iff.1 hh).1
      have hlen : (cs.take (i * 2) ++ vs ++ cs.drop (i * 2)).length = (n + 1) * 2 := by simp only [List.length_append, List.length_take, List.length_drop]; omega
      rcases Nat.lt_or_ge cap (n + 1) with hroom | hroom
      · refine (insGrow w g n cap i cur cs vs hh hnc hroom hcu ht hlt hn hcl ad c2 hvl hvs h1).mono ?_
        rintro e w' ⟨G, W1, R0, R2, R3, rfl, rfl, hG, hGm, rfl, hs, hr⟩
        refine ⟨_, rfl, ⟨hlen, .inr ⟨w.heap.size, G, R3, rfl, hb, ?_, hG, hGm, hs, hr⟩⟩, ⟨rfl, rfl, rfl, ?_, fun k hk _ => ?_⟩, .inr rfl⟩
        · refine setRow_heap _ _ R2 R3 _ (0, 0) ?_
          show (World.setRow _ _ _).heap[_]? = _
          refine setRow_heap _ _ R0 R2 _ (0, 0) ?_
          exact Array.getElem?_push_size
        · rw [setRow_size]
          show _ ≤ (World.setRow _ _ _).heap.size
          rw [setRow_size]
          show _ ≤ (w.heap.push _).size
          rw [Array.size_push]; omega
        · rw [setRow_other _ _ _ _ (Nat.ne_of_lt hk)]
          show (World.setRow _ _ _).heap[k]? = _
          rw [setRow_other _ _ _ _ (Nat.ne_of_lt hk)]
          show (w.heap.push _)[k]? = _
          rw [Array.getElem?_push, if_neg (Nat.ne_of_lt hk)]
      · refine (insRoom w g n cap i cur cs vs hh hroom hcm hcu ht hlt hcl ad c2 (hne g rfl) hvl hvs h1).mono ?_
        rintro e w' ⟨rfl, W, X, hsz, rfl, rfl, hX, hr⟩
        refine ⟨_, rfl, ⟨hlen, .inr ⟨g, cap, X, rfl, hg0, ?_, hroom, hcm, hX, hr⟩⟩, ⟨rfl, rfl, rfl, ?_, fun k hk hne' => ?_⟩, .inl rfl⟩
        · exact setRow_heap _ _ _ X _ (0, 0) (setRow_heap w.drew g cur _ _ (0, 0) hh)
        · rw [setRow_size, setRow_size]; exact Nat.le_refl _
        · have hkg : k ≠ g := fun he => hne' (by rw [he]; rfl)
          rw [setRow_other _ _ _ _ hkg, setRow_other _ _ _ _ hkg]; rfl
def f {α : Type} (l0 : List α) (a1 : Int) (l2 : List α) : Option (List α) :=
  if 0 ≤ a1 then if a1 ≤ (l0.length : Int) then if l0.length ≤ 1000000 then if l2.length = 1 then some (l0.take a1.toNat ++ l2 ++ l0.drop a1.toNat) else none else none else none else none
theorem calls {α : Type} (d : Kd α) (hd : Own.Flat d) (hsz : d.sz = 2) (S : Nat → Prop) (v : Value) (l0 : List α) (a1 : Int) (A2 : Option Addr) (c2 : Nat) (l2 r : List α) (w0 w : World) (hB : Below w0.heap.size w0 w) (ho0 : Kd.R d 39 w w0.heap.size S v l0)
    (hr2 : ∀ W, Kept w W (fun k => S k) → Kd.C d W A2 l2.length l2) (h : f l0 a1 l2 = some r) :
    Calls Try.prog 47 #[v, .int .i64 a1, .slice A2 l2.length c2] w fun e w' => ∃ v', e = .returned v' ∧ Kd.R d 39 w' w0.heap.size (fun k => S k ∨ w.heap.size ≤ k) v' r ∧ Below w0.heap.size w0 w' ∧ Kept w w' (fun k => S k) := by
  unfold f at h
  by_cases h0 : 0 ≤ a1
  case neg => rw [if_neg h0] at h; cases h
  rw [if_pos h0] at h
  by_cases hle : a1 ≤ (l0.length : Int)
  case neg => rw [if_neg hle] at h; cases h
  rw [if_pos hle] at h
  by_cases hn : l0.length ≤ 1000000
  case neg => rw [if_neg hn] at h; cases h
  rw [if_pos hn] at h
  by_cases h1 : l2.length = 1
  case neg => rw [if_neg h1] at h; cases h
  rw [if_pos h1] at h
  obtain ⟨i, rfl⟩ := Int.eq_ofNat_of_zero_le h0
  rw [Int.toNat_natCast] at h
  have hi : i ≤ l0.length := by omega
  injection h with h
  subst h
  obtain ⟨hS, inner, ho, hr⟩ := ho0
  obtain ⟨ad, c, rfl, hcl, hM, hc1, hcell, haway⟩ := Own.away_ hd hr2 h1
  obtain ⟨y, rfl⟩ : ∃ y, l2 = [y] := List.length_eq_one_iff.1 h1
  have ho1 := ho
  rw [hsz] at ho1
  have hbase : w0.heap.size ≤ w.heap.size := hB.size
  refine (insRaw w w0.heap.size l0.length i v inner c ho1 (Own.Reps.one_ hd hr) hi ad c2 (fun g hg => haway g (hS g hg) ?_) (hcl.trans hsz) hcell hc1 hbase hn).mono ?_
  · obtain ⟨cells, hce⟩ := own_typed ho g hg
    exact ⟨cells, 39, hce⟩
  rintro e w' ⟨v', rfl, hown, hgr, hat⟩
  refine ⟨v', rfl, ?_, hB.grown hgr hbase (own_base ho), Kept.of_grown hgr (Kept.refl w _) (fun k hk => .inl (hS k hk))⟩
  refine Own.R_edit hd (w := w) ⟨hS, inner, ho, hr⟩ i i hi ho (cs := c) (fun w base ok => ?_) (n := l0.length + 1) ?_ (by rw [hsz]; exact hown) (fun k hk => ?_)
  · refine ⟨by rw [hcl]; simp, fun j p hj => ?_⟩
    have hj0 : j = 0 := by
      have := (List.getElem?_eq_some_iff.1 hj).1
      simpa using this
    subst hj0
    have hp : y = p := by simpa using hj
    subst hp
    rw [Nat.zero_mul, List.drop_zero, ← hcl, List.take_length]
    exact hM y rfl _ _ _
  · simp only [List.length_append, List.length_take, List.length_drop, List.length_singleton]; omega
  · rcases hat with hat | hat
    · exact .inl (hS k (hat ▸ hk))
    · rw [hat] at hk
      injection hk with hk
      exact .inr (by omega)
end Go.Proofs.Ytabihpjgkkmnjaa.Ins39
