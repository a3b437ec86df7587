/- What this claim's texts name, out of the words that the kit's print laid (and of this seat's own texts). Conditions: as stated. -/
import Derived.Shelf.Spec.SlicesInsert
import Derived.Maps.AppendAt
import Derived.Test.YtabihpjgkkmnjaaProg
import Derived.Test.YtabihpjgkkmnjaaTDMem
import Derived.Test.YtabihpjgkkmnjaaTDOwn
import Derived.Test.YtabihpjgkkmnjaaTDWWords
import Derived.Test.YtabihpjgkkmnjaaTDWLast
import Derived.Test.YtabihpjgkkmnjaaTDWMore
import Derived.Lib.SliceRun
set_option linter.unusedVariables false
set_option linter.unusedSimpArgs false
namespace Go.Proofs.Ytabihpjgkkmnjaa.Del39
open Go.RowKit Go.Lib Go.Proofs.YtabihpjgkkmnjaaW.PrintWords Go.Proofs.YtabihpjgkkmnjaaW.PrintLast Go.Proofs.YtabihpjgkkmnjaaW.PrintMore Go.Proofs.Ytabihpjgkkmnjaa.Mem
theorem elemInfo : ∃ i : TypeInfo, Try.prog.info? 39 = some i ∧ i.zero = some (.agg #[.int .i64 0, .int .i64 0]) ∧ i.size = 2 ∧ i.bytes = 16 := by
  have h : (Try.prog.info? 39).map (fun i => (i.zero, i.size, i.bytes)) = some (some (.agg #[.int .i64 0, .int .i64 0]), 2, 16) := by kernel_rfl
  obtain ⟨i0, hi, hzz⟩ := Option.map_eq_some_iff.1 h
  simp only [Prod.mk.injEq] at hzz
  exact ⟨i0, hi, hzz.1, hzz.2.1, hzz.2.2⟩
theorem wp_clear_run (w : World) {P : Program} {o : Oper} {a : Act} {K : Act → World → Prop} {Q : Exit → Act → World → Prop} (s : Operand) (t : TypeId)
    (ho : o.op = .call { callee := .builtin .clear, args := #[s], argTypes := #[t] }) (v : Value) (hs : a.eval s = v) {v' : Value} {w' : World}
    (hr : (Builtin.clear_ #[t] o.type #[v]).run P w = .ok v' w') (h : K (a.put o.dst v') w') : o.wp P a w K Q := by
  unfold Oper.wp execOp
  simp only [ho, resolve, invoke, builtin, Sem.run_bind, Sem.run_pure, Result.andThen_ok, List.map_toArray, List.map_cons, List.map_nil, hs, hr]
  exact h
theorem wpList_clear_run (w : World) {P : Program} {ops : Array Oper} {rest : List Oper} {o : Oper} {a : Act} {Q : Exit → Act → World → Prop} (hgd : o.guard = none) (s : Operand) (t : TypeId)
    (ho : o.op = .call { callee := .builtin .clear, args := #[s], argTypes := #[t] }) (v : Value) (hs : a.eval s = v) {v' : Value} {w' : World}
    (hr : (Builtin.clear_ #[t] o.type #[v]).run P w = .ok v' w') (h : wpList P ops Q rest (a.put o.dst v') w') : wpList P ops Q (o :: rest) a w :=
  wpList_plain hgd fun _ hK => wp_clear_run w s t ho v hs hr (hK _ _ h)
theorem step_append_runI {P : Program} {ops : Array Oper} {o : Oper} {a : Act} {w : World} {K : Act → World → Prop} {Q : Exit → Act → World → Prop} {E : Prop}
    (hg : o.guard = none) (d x : Operand) (dT sT : TypeId) (hop : o.op = Op.call { callee := Callee.builtin Builtin.append, args := #[d, x], argTypes := #[dT, sT] })
    (v u : Value) (hd : a.eval d = v) (hx : a.eval x = u) {v' : Value} {w' : World} (hr : (Builtin.append_ #[dT, sT] o.type #[v, u]).run P w = .ok v' w') (hK : K (a.put o.dst v') w') :
    if Region.wanted o (yielded ops a.tmps) = true then Oper.wp P o a w K Q else E := by
  have hw : Region.wanted o (yielded ops a.tmps) = true := by simp [Region.wanted, hg]
  rw [if_pos hw]
  unfold Oper.wp
  simp [execOp, hop, resolve, invoke, builtin, hd, hx, hr, Result.andThen]
  exact hK
set_option maxHeartbeats 4000000 in
set_option maxRecDepth 100000 in
theorem delRow (w : World) (g n c i j : Nat) (cur : Array Value) (cs : List Value) (hh : w.heap[g]? = some (.cells cur 39 (0, 0))) (hnc : n ≤ c) (hcm : c ≤ maxLen) (hcu : cur.size = c * 2) (ht : cur.toList.take (n * 2) = cs) (hij : i < j) (hj : j < n)
    (hcl : ∀ u ∈ cs, u.oneCell' = true) :
    Calls Try.prog 40 #[.slice (some ⟨g, 0, none⟩) n c, .int .i64 i, .int .i64 j] w fun e w' => ∃ m R1 R2, m = n - (j - i) ∧ e = .returned (.slice (some ⟨g, 0, none⟩) m c) ∧ w' = (w.drew.setRow g R1).setRow g R2 ∧ R2.size = c * 2 ∧ R2.toList.take (m * 2) = cs.take (i * 2) ++ cs.drop (j * 2) := by
  obtain ⟨i0, hi0, hz0, hzs, hzb⟩ := elemInfo
  unfold maxLen at hcm
  have u22 := Try.underlying23
  have hl : cs.length = n * 2 := by rw [← ht, List.length_take, Array.length_toList, hcu]; omega
  have hdl : (cs.drop (j * 2)).length = (n - j) * 2 := by rw [List.length_drop, hl]; omega
  have hzv : ∀ w, (zeroValue 39).run Try.prog w = .ok (.agg #[.int .i64 0, .int .i64 0]) w := fun w => by simp [zeroValue, typeInfo, hi0, hz0]
  obtain ⟨R1, hR1⟩ : ∃ R1, R1 = (cur.toList.take (i * 2) ++ cs.drop (j * 2) ++ cur.toList.drop (i * 2 + (cs.drop (j * 2)).length)).toArray := ⟨_, rfl⟩
  have hR1s : R1.size = c * 2 := by rw [hR1]; simp only [List.size_toArray, List.length_append, List.length_take, List.length_drop, Array.length_toList]; omega
  have hh1 : (w.drew.setRow g R1).heap[g]? = some (.cells R1 39 (0, 0)) := setRow_heap w.drew g cur R1 39 (0, 0) hh
  obtain ⟨m, hm⟩ : ∃ m, m = i + (n - j) := ⟨_, rfl⟩
  have hR1t : R1.toList.take (m * 2) = cs.take (i * 2) ++ cs.drop (j * 2) := by
    rw [hR1, List.toList_toArray, List.take_append_of_le_length (by simp only [List.length_append, List.length_take, List.length_drop, Array.length_toList]; omega), List.take_of_length_le (by simp only [List.length_append, List.length_take, List.length_drop, Array.length_toList]; omega), ← ht, List.take_take, Nat.min_eq_left (by omega)]
  have hlz : (Builtin.zeroCells (Value.cells (.agg #[.int .i64 0, .int .i64 0])) (n - m)).size = (n - m) * 2 := by simp [Builtin.zeroCells, Value.cells]
  obtain ⟨R2, hR2⟩ : ∃ R2, R2 = (R1.toList.take (m * 2) ++ (Builtin.zeroCells (Value.cells (.agg #[.int .i64 0, .int .i64 0])) (n - m)).toList ++ R1.toList.drop (m * 2 + (Builtin.zeroCells (Value.cells (.agg #[.int .i64 0, .int .i64 0])) (n - m)).toList.length)).toArray := ⟨_, rfl⟩
  have hR2s : R2.size = c * 2 := by rw [hR2]; simp only [List.size_toArray, List.length_append, List.length_take, List.length_drop, Array.length_toList, hlz]; omega
  have hR2t : R2.toList.take (m * 2) = R1.toList.take (m * 2) := by
    rw [hR2, List.toList_toArray, List.append_assoc, List.take_append_of_le_length (by rw [List.length_take, Array.length_toList]; omega), List.take_take, Nat.min_self]
  have hclr0 : ∀ ty dc, (Builtin.clear_ #[23] ty #[.slice (some ⟨g, m * 2, none⟩) (n - m) dc]).run Try.prog (w.drew.setRow g R1) = .ok (.tuple #[]) ((w.drew.setRow g R1).setRow g R2) := fun ty dc => by
    rw [hR2]
    exact run_clear_row (P := Try.prog) (w.drew.setRow g R1) 23 39 ty (.agg #[.int .i64 0, .int .i64 0]) Try.underlying23 hzv g (m * 2) (n - m) dc R1 (by omega) (by decide) (by decide) hh1 (by rw [hR1s]; simp [Value.cells]; omega)
  have happ : ∀ ty ad dl dc, dl = n - j → (n - j = 0 ∨ ad = ⟨g, j * 2, none⟩) → (Builtin.append_ #[23, 23] ty #[.slice (some ⟨g, 0, none⟩) i c, .slice (some ad) dl dc]).run Try.prog w.drew = .ok (.slice (some ⟨g, 0, none⟩) m c) (w.drew.setRow g R1) := fun ty ad dl dc e0 e1 => by
    subst e0
    have := run_append_room (P := Try.prog) w.drew 23 ty 39 i0 Try.underlying23 hi0 g i c cur hh ad (n - j) dc (cs.drop (j * 2)) (by rw [hdl, hzs]) (fun q u hq => by
      rcases e1 with e1 | e1
      · rw [List.eq_nil_of_length_eq_zero (show (cs.drop (j * 2)).length = 0 by rw [hdl, e1, Nat.zero_mul])] at hq
        simp at hq
      · rw [e1, Addr.add_lit]
        rw [List.getElem?_drop, ← ht, List.getElem?_take] at hq
        split at hq
        · show w.cell? _ = _
          rw [World.cell?, hh]; simpa using hq
        · cases hq) (fun u hu => hcl u (List.mem_of_mem_drop hu)) (by omega) (by rw [hzs, hdl, hcu]; omega)
    rw [this, hzs, hm, hR1]
  have hclr : ∀ ty o dl dc, o = m * 2 → dl = n - m → (Builtin.clear_ #[23] ty #[.slice (some ⟨g, o, none⟩) dl dc]).run Try.prog (w.drew.setRow g R1) = .ok (.tuple #[]) ((w.drew.setRow g R1).setRow g R2) := fun ty o dl dc e0 e1 => by
    subst e0; subst e1
    exact hclr0 ty dc
  obtain ⟨W1, hW1⟩ : ∃ W1, W1 = w.drew.setRow g R1 := ⟨_, rfl⟩
  obtain ⟨W2, hW2⟩ : ∃ W2, W2 = W1.setRow g R2 := ⟨_, rfl⟩
  rw [← hW1, ← hW2] at hclr
  rw [← hW1] at happ
  have E1 := Aside0.mk hW1
  have E2 := Aside0.mk hW2
  have E3 := Aside0.mk hR1t
  have E4 := Aside0.mk hR2t
  have E5 := Aside0.mk hR2s
  have E6 := Aside0.mk hR1s
  have E7 := Aside0.mk hm
  have hmn : m < n := by omega
  have hmc : ¬ (c = m) := by omega
  have hci : ¬ (c = i) := by omega
  have hin : i ≤ n := by omega
  have hic : i ≤ c := by omega
  have hb1 : (i : Int) ≤ (j : Int) := by omega
  have hne : ¬ ((i : Int) = (j : Int)) := by omega
  have hcj : ¬ (c = j) := by omega
  have hjn : j ≤ n := by omega
  have hjc : j ≤ c := by omega
  clear hR1 hR1t hR2t hR2s hR1s hm hR2 hlz hclr0 hh1 hW1 hW2 hh hcu ht hdl hl
  have mixed : Try.prog.follows .mixedOrders = true := by kernel_rfl
  go_enter Try.func40, Try.ntmps40
  go_wp2
  go_region_law_o (refine step_append_runI rfl _ _ 23 23 rfl (.slice (some ⟨g, 0, none⟩) i c) (.slice (some ⟨g, j * 2, none⟩) (n - j) (c - j)) (by simp [Act.eval, Act.put]) (by simp [Act.eval, Act.put]) (happ _ _ _ _ rfl (Or.inr rfl)) ?_)
  go_wp2_with (at_builtin; refine wpList_clear_run _ rfl _ _ rfl _ rfl (hclr _ _ _ _ (by omega) (by omega)) ?_)
  go_ret
  exact ⟨m, R1, R2, by have := E7.out; omega, rfl, by rw [E2.out, E1.out], E5.out, by rw [E4.out, E3.out]⟩
set_option maxHeartbeats 4000000 in
set_option maxRecDepth 100000 in
theorem delEnd (w : World) (g n c i : Nat) (cur : Array Value) (cs : List Value) (hh : w.heap[g]? = some (.cells cur 39 (0, 0))) (hnc : n ≤ c) (hcm : c ≤ maxLen) (hcu : cur.size = c * 2) (ht : cur.toList.take (n * 2) = cs) (hij : i < n) :
    Calls Try.prog 40 #[.slice (some ⟨g, 0, none⟩) n c, .int .i64 i, .int .i64 n] w fun e w' => ∃ R2, e = .returned (.slice (some ⟨g, 0, none⟩) i c) ∧ w' = w.drew.setRow g R2 ∧ R2.size = c * 2 ∧ R2.toList.take (i * 2) = cs.take (i * 2) := by
  obtain ⟨i0, hi0, hz0, hzs, hzb⟩ := elemInfo
  unfold maxLen at hcm
  have u22 := Try.underlying23
  have hzv : ∀ w, (zeroValue 39).run Try.prog w = .ok (.agg #[.int .i64 0, .int .i64 0]) w := fun w => by simp [zeroValue, typeInfo, hi0, hz0]
  have hlz : (Builtin.zeroCells (Value.cells (.agg #[.int .i64 0, .int .i64 0])) (n - i)).size = (n - i) * 2 := by simp [Builtin.zeroCells, Value.cells]
  obtain ⟨R2, hR2⟩ : ∃ R2, R2 = (cur.toList.take (i * 2) ++ (Builtin.zeroCells (Value.cells (.agg #[.int .i64 0, .int .i64 0])) (n - i)).toList ++ cur.toList.drop (i * 2 + (Builtin.zeroCells (Value.cells (.agg #[.int .i64 0, .int .i64 0])) (n - i)).toList.length)).toArray := ⟨_, rfl⟩
  have hR2s : R2.size = c * 2 := by rw [hR2]; simp only [List.size_toArray, List.length_append, List.length_take, List.length_drop, Array.length_toList, hlz]; omega
  have hR2t : R2.toList.take (i * 2) = cs.take (i * 2) := by
    rw [hR2, List.toList_toArray, List.append_assoc, List.take_append_of_le_length (by rw [List.length_take, Array.length_toList]; omega), List.take_take, Nat.min_self, ← ht, List.take_take, Nat.min_eq_left (by omega)]
  have hclr : ∀ ty o dl dc, o = i * 2 → dl = n - i → (Builtin.clear_ #[23] ty #[.slice (some ⟨g, o, none⟩) dl dc]).run Try.prog w.drew = .ok (.tuple #[]) (w.drew.setRow g R2) := fun ty o dl dc e0 e1 => by
    subst e0; subst e1
    rw [hR2]
    exact run_clear_row (P := Try.prog) w.drew 23 39 ty (.agg #[.int .i64 0, .int .i64 0]) Try.underlying23 hzv g (i * 2) (n - i) dc cur (by omega) (by decide) (by decide) hh (by rw [hcu]; simp [Value.cells]; omega)
  obtain ⟨W2, hW2⟩ : ∃ W2, W2 = w.drew.setRow g R2 := ⟨_, rfl⟩
  rw [← hW2] at hclr
  have E2 := Aside0.mk hW2
  have E4 := Aside0.mk hR2t
  have E5 := Aside0.mk hR2s
  have hci : ¬ (c = i) := by omega
  have hin : i ≤ n := by omega
  have hic : i ≤ c := by omega
  have hb1 : (i : Int) ≤ (n : Int) := by omega
  have hne : ¬ ((i : Int) = (n : Int)) := by omega
  have mixed : Try.prog.follows .mixedOrders = true := by kernel_rfl
  clear hR2 hlz hR2t hR2s hW2 hh hcu ht
  by_cases hcj : c = n
  · subst hcj
    go_enter Try.func40, Try.ntmps40
    go_wp2
    go_region_law_o (skip)
    go_wp2_with (at_builtin; refine wpList_clear_run _ rfl _ _ rfl _ rfl (hclr _ _ _ _ (by omega) (by omega)) ?_)
    go_ret
    exact ⟨R2, rfl, E2.out, E5.out, E4.out⟩
  · go_enter Try.func40, Try.ntmps40
    go_wp2
    go_region_law_o (skip)
    go_wp2_with (at_builtin; refine wpList_clear_run _ rfl _ _ rfl _ rfl (hclr _ _ _ _ (by omega) (by omega)) ?_)
    go_ret
    exact ⟨R2, rfl, E2.out, E5.out, E4.out⟩
theorem delRaw (w : World) (base n i j : Nat) (v : Value) (cs : List Value) (HO : w.ownsRow base 39 2 v n cs) (hcl : ∀ u ∈ cs, u.oneCell' = true) (hij : i < j) (hj : j ≤ n) :
    Calls Try.prog 40 #[v, .int .i64 i, .int .i64 j] w fun e w' => ∃ v', e = .returned v' ∧ w'.ownsRow base 39 2 v' (n - (j - i)) (cs.take (i * 2) ++ [] ++ cs.drop (j * 2)) ∧ w.grownBy w' v.ownBlock ∧ v'.ownBlock = v.ownBlock := by
  obtain ⟨hl, ⟨rfl, h0⟩ | ⟨g, cap, cur, rfl, hg0, hh, hnc, hcm, hcu, ht⟩⟩ := HO
  · omega
  · have hlen : (cs.take (i * 2) ++ [] ++ cs.drop (j * 2)).length = (n - (j - i)) * 2 := by simp only [List.length_append, List.length_take, List.length_drop, List.length_nil]; omega
    rcases Nat.eq_or_lt_of_le hj with rfl | hlt
    · refine (delEnd w g j cap i cur cs hh hnc hcm hcu ht hij).mono ?_
      rintro e w' ⟨R2, rfl, rfl, hs, hr⟩
      refine ⟨_, rfl, ?_, ⟨rfl, rfl, rfl, by rw [setRow_size]; exact Nat.le_refl _, fun k hk hne' => ?_⟩, rfl⟩
      · rw [show j - (j - i) = i from by omega] at hlen ⊢
        refine ⟨hlen, .inr ⟨g, cap, R2, rfl, hg0, setRow_heap w.drew g cur R2 _ (0, 0) hh, by omega, hcm, hs, ?_⟩⟩
        rw [hr, List.append_nil, List.drop_eq_nil_of_le (by omega), List.append_nil]
      · have hkg : k ≠ g := fun he => hne' (by rw [he]; rfl)
        rw [setRow_other _ _ _ _ hkg]; rfl
    · refine (delRow w g n cap i j cur cs hh hnc hcm hcu ht hij hlt hcl).mono ?_
      rintro e w' ⟨m, R1, R2, rfl, rfl, rfl, hs, hr⟩
      refine ⟨_, rfl, ⟨hlen, .inr ⟨g, cap, R2, rfl, hg0, setRow_heap _ g R1 R2 _ (0, 0) (setRow_heap w.drew g cur R1 _ (0, 0) hh), by omega, hcm, hs, by rw [List.append_nil]; exact hr⟩⟩, ⟨rfl, rfl, rfl, by rw [setRow_size, setRow_size]; exact Nat.le_refl _, fun k hk hne' => ?_⟩, rfl⟩
      have hkg : k ≠ g := fun he => hne' (by rw [he]; rfl)
      rw [setRow_other _ _ _ _ hkg, setRow_other _ _ _ _ hkg]; rfl
def f {α : Type} (l0 : List α) (a1 : Int) (a2 : Int) : Option (List α) :=
  if 0 ≤ a1 then if a1 < a2 then if a2 ≤ (l0.length : Int) then some (l0.take a1.toNat ++ [] ++ l0.drop a2.toNat) else none else none else none
theorem calls {α : Type} (d : Kd α) (hd : Own.Flat d) (hsz : d.sz = 2) (S : Nat → Prop) (v : Value) (l0 : List α) (a1 a2 : Int) (r : List α) (w0 w : World) (hB : Below w0.heap.size w0 w) (ho0 : Kd.R d 39 w w0.heap.size S v l0) (h : f l0 a1 a2 = some r) :
    Calls Try.prog 40 #[v, .int .i64 a1, .int .i64 a2] w fun e w' => ∃ v', e = .returned v' ∧ Kd.R d 39 w' w0.heap.size (fun k => S k ∨ w.heap.size ≤ k) v' r ∧ Below w0.heap.size w0 w' ∧ Kept w w' (fun k => S k) := by
  unfold f at h
  by_cases h0 : 0 ≤ a1
  case neg => rw [if_neg h0] at h; cases h
  rw [if_pos h0] at h
  by_cases hlt : a1 < a2
  case neg => rw [if_neg hlt] at h; cases h
  rw [if_pos hlt] at h
  by_cases hle : a2 ≤ (l0.length : Int)
  case neg => rw [if_neg hle] at h; cases h
  rw [if_pos hle] at h
  obtain ⟨i, rfl⟩ := Int.eq_ofNat_of_zero_le h0
  obtain ⟨j, rfl⟩ := Int.eq_ofNat_of_zero_le (show 0 ≤ a2 by omega)
  rw [Int.toNat_natCast, Int.toNat_natCast] at h
  injection h with h
  subst h
  obtain ⟨hS, inner, ho, hr⟩ := ho0
  have ho1 := ho
  rw [hsz] at ho1
  have hbase : w0.heap.size ≤ w.heap.size := hB.size
  refine (delRaw w w0.heap.size l0.length i j v inner ho1 (Own.Reps.one_ hd hr) (by omega) (by omega)).mono ?_
  rintro e w' ⟨v', rfl, hown, hgr, hat⟩
  refine ⟨v', rfl, ?_, hB.grown hgr hbase (own_base ho), Kept.of_grown hgr (Kept.refl w _) (fun k hk => .inl (hS k hk))⟩
  exact Own.R_edit hd (w := w) ⟨hS, inner, ho, hr⟩ i j (by omega) ho (cs := []) (fun _ _ _ => Reps.none _ _) (n := l0.length - (j - i)) (by simp only [List.length_append, List.length_take, List.length_drop, List.length_nil]; omega) (by rw [hsz]; exact hown) (fun k hk => .inl (hS k (hat ▸ hk)))
end Go.Proofs.Ytabihpjgkkmnjaa.Del39
