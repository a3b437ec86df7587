/- What this claim's texts name, out of the words that the kit's print laid (and of this seat's own texts). Conditions: as stated. -/
import Derived.Lib.AppendZerosOnto
import Derived.Lib.SliceRun
import Derived.Test.YtenehkjbopdapaaProg
import Derived.Test.YtenehkjbopdapaaTAWWords
import Derived.Test.YtenehkjbopdapaaTAWLast
import Derived.Test.YtenehkjbopdapaaTAWMore
import Derived.Test.YtenehkjbopdapaaTAWGuard
set_option linter.unusedVariables false
set_option linter.unusedSimpArgs false
namespace Go.Proofs.Ytenehkjbopdapaa.PCat
open Go.RowKit Go.Lib Go.Proofs.YtenehkjbopdapaaW.PrintWords Go.Proofs.YtenehkjbopdapaaW.PrintLast Go.Proofs.YtenehkjbopdapaaW.PrintMore
theorem info3 : (Try.prog.info? 3).map (fun i => (i.zero, i.size, i.bytes)) = some (some (.int .i64 0), 1, 8) := by kernel_rfl
theorem R_empty {w : World} {g G base : Nat} {cur : Array Value} (hb : base ≤ g) (hh : w.heap[g]? = some (.cells cur 3 (0, 0))) (hG : G ≤ maxLen) (hs : cur.size = G) : (Kd.int .i64).R 3 w base (fun _ => True) (.slice (some ⟨g, 0, none⟩) 0 G) [] :=
  ⟨fun _ _ => trivial, [], ⟨rfl, .inr ⟨g, G, cur, rfl, hb, hh, Nat.zero_le _, hG, by rw [hs]; exact (Nat.mul_one G).symm, by simp⟩⟩, ⟨rfl, fun j p hj => by simp at hj⟩⟩
set_option maxHeartbeats 4000000 in
set_option maxRecDepth 100000 in
theorem growNil (w : World) (n : Nat) (hn : n < 17592186044416) : Calls Try.prog 77 #[.slice none 0 0, .int .i64 n] w fun e w' => ∃ v, e = .returned v ∧ (Kd.int .i64).R 3 w' w.heap.size (fun _ => True) v [] ∧ Below w.heap.size w w' := by
  have hu33 := Try.underlying33
  have mixed : Try.prog.follows .mixedOrders = true := by kernel_rfl
  by_cases h0 : n = 0
  · subst h0
    go_enter Try.func77, Try.ntmps77
    go_wp2
    go_ret
    exact ⟨_, rfl, Kd.R_nil _ _ _ _ _, Below.refl _ _⟩
  · obtain ⟨i0, hi0, hzb⟩ : ∃ i0, Try.prog.info? 3 = some i0 ∧ (i0.zero, i0.size, i0.bytes) = (some (.int .i64 0), 1, 8) := by
      have h := info3
      cases hi : Try.prog.info? 3 with
      | none => rw [hi] at h; cases h
      | some i0 => rw [hi] at h; exact ⟨i0, rfl, by simpa using h⟩
    have hz0 : i0.zero = some (.int .i64 0) := congrArg (·.1) hzb
    have hs0 : i0.size = 1 := congrArg (·.2.1) hzb
    have hb0 : i0.bytes = 8 := congrArg (·.2.2) hzb
    have hn0 : ¬ ((n : Int) < 0) := by omega
    have hpos : (n : Int) > 0 := by omega
    have hold : (Builtin.firstCells i0.size 0 (.slice none 0 0)).run Try.prog w.drew = .ok #[] w.drew := run_firstCells_none w.drew i0.size 0 0 0
    obtain ⟨G, hG⟩ : ∃ G, G = grownCap w n 0 3 := ⟨_, rfl⟩
    obtain ⟨R0, hR0⟩ : ∃ R0 : Array Value, R0 = (#[] : Array Value) ++ Builtin.zeroCells (Value.cells (.int .i64 0)) n ++ Builtin.zeroCells (Value.cells (.int .i64 0)) (G - n) := ⟨_, rfl⟩
    have hrz : ∀ ty, (Builtin.append_ #[33, 3] ty #[.slice none 0 0, .int .i64 n]).run Try.prog w = .ok (.slice (some ⟨w.heap.size, 0, none⟩) n G) (w.drew.alloc (.cells R0 3)) := fun ty => by
      have h := Lib.run_append_grow_zeros w 33 3 ty 3 i0 _ .i64 .i64 Try.underlying33 Try.underlying3 hi0 hz0 none 0 0 [] hold n (by omega) (by omega) (by omega) (by omega) (by rw [hb0]; omega) (by rw [hb0, Nat.zero_add]; exact growslice_fits (by omega) (by omega))
      rw [Nat.zero_add] at h
      rw [hR0, hG]
      exact h
    have hGn : n ≤ G := by rw [hG]; exact grownCap_ge w _ _ _
    have hGm : G ≤ maxLen := by rw [hG]; exact grownCap_le_maxLen w n 0 3 (by unfold maxLen; omega)
    have hR0s : R0.size = G := by
      rw [hR0]
      simp only [Array.size_append, Builtin.zeroCells, Value.cells]
      simp
      omega
    have hG63 : G ≤ 9223372036854775807 := by unfold maxLen at hGm; omega
    clear hold hG hR0
    go_enter Try.func77, Try.ntmps77
    go_wp2_with (at_builtin; refine Lib.wpList_append_run _ rfl _ _ _ _ rfl _ _ rfl rfl _ _ (hrz _) ?_)
    all_goals (go_ret; exact ⟨_, rfl, R_empty (cur := R0) (Nat.le_refl _) (blk_new w.drew _) hGm hR0s, below_alloc (below_drew1 (Below.refl _ _)) _⟩)
theorem flat_take (xss : List (List Int)) (i : Nat) (h : i < xss.length) : (xss.take (i + 1)).flatten = (xss.take i).flatten ++ xss[i] := by
  rw [List.take_succ_eq_append_getElem h, List.flatten_append]; simp
theorem sum_take_ (ns : List Nat) (i : Nat) (h : i < ns.length) : (ns.take (i + 1)).sum = (ns.take i).sum + ns[i] := by
  rw [List.take_succ_eq_append_getElem h, List.sum_append]; simp
theorem sum_le_ (ns : List Nat) (i : Nat) : (ns.take i).sum ≤ ns.sum := by
  have := List.sum_append (l₁ := ns.take i) (l₂ := ns.drop i)
  rw [List.take_append_drop] at this
  omega
theorem flat_len (xss : List (List Int)) : xss.flatten.length = (xss.map List.length).sum := List.length_flatten
set_option maxHeartbeats 8000000 in
set_option maxRecDepth 100000 in
theorem concat_calls (w : World) (g n c : Nat) (cso : Array Value) (xss : List (List Int)) (hg : w.heap[g]? = some (.cells cso 33 (0, 0))) (hn : n = xss.length)
    (hj : ∀ (j : Nat) (h : j < xss.length), ∃ A cj, cso[j]? = some (.slice A xss[j].length cj) ∧ (Kd.int .i64).C w A xss[j].length xss[j]) (hs : (xss.map List.length).sum < 17592186044416) (hl : xss.length ≤ 1000) :
    Calls Try.prog 50 #[.slice (some ⟨g, 0, none⟩) n c] w fun e w' => ∃ v, e = .returned v ∧ (Kd.int .i64).R 3 w' w.heap.size (fun _ => True) v xss.flatten ∧ Below w.heap.size w w' := by
  have hu33 := Try.underlying33
  have hu102 := Try.underlying102
  have mixed : Try.prog.follows .mixedOrders = true := by kernel_rfl
  have HG := Aside0.mk hg
  have HN := Aside0.mk hn
  have HJ := Aside0.mk hj
  have HS := Aside0.mk hs
  have HL := Aside0.mk hl
  clear hg hn hj hs hl
  have hM : ∀ i, ((xss.map List.length).take i).sum < 17592186044416 := fun i => Nat.lt_of_le_of_lt (sum_le_ _ i) HS.out
  have HM := Aside0.mk hM
  clear hM
  go_enter Try.func50, Try.ntmps50
  go_wp2
  go_loopg [3, 11] (n + 1) (fun kq v3 v11 w' => ∃ i : Nat, v3 = .int .i64 ((((xss.map List.length).take i).sum : Nat) : Int) ∧ v11 = .int .i64 (i : Int) ∧ Aside0 (i ≤ n) ∧ Aside0 (kq = n - i + 1) ∧ Aside0 (Below w.heap.size w w'))
  case atStart => exact ⟨0, by simp, rfl, ⟨Nat.zero_le _⟩, ⟨by omega⟩, ⟨by repeat (first | exact Below.refl _ _ | apply below_drew1)⟩⟩
  case round =>
    obtain ⟨i, rfl, rfl, HI, HK, HB⟩ := hrel
    by_cases hlt : i < n
    · have hin : (i : Int) < (n : Int) := by omega
      have hi0 : (0 : Int) ≤ (i : Int) := by omega
      have hi : i < xss.length := by have := HN.out; omega
      have hi' : i < (xss.map List.length).length := by rw [List.length_map]; exact hi
      obtain ⟨A, cj, hc, hC⟩ := HJ.out i hi
      have HGr := Aside0.mk ((HB.out.block g (blk_lt HG.out)).trans HG.out)
      have d0 : wr.cell? ⟨g, i, none⟩ = some (.slice A xss[i].length cj) := by unfold World.cell?; rw [HGr.out]; exact hc
      have hsum := sum_take_ (xss.map List.length) i hi'
      rw [List.getElem_map] at hsum
      have hle := HM.out (i + 1)
      have hnn : ¬ (((((xss.map List.length).take i).sum : Nat) : Int) + (xss[i].length : Int) < 0) := by omega
      have hww : wrap64 (((((xss.map List.length).take i).sum : Nat) : Int) + (xss[i].length : Int)) = ((((xss.map List.length).take i).sum : Nat) : Int) + (xss[i].length : Int) := by unfold wrap64; omega
      have HSm := Aside0.mk hsum
      clear hc hC hsum hle
      go_wp2
      go_roundg (n - i)
      case measure => have := HK.out; omega
      case rel =>
        refine ⟨i + 1, ?_, ?_, ⟨hlt⟩, ⟨by omega⟩, ⟨by repeat (first | exact HB.out | apply below_drew1)⟩⟩
        · exact congrArg (Value.int .i64) (by rw [HSm.out]; push_cast; first | rfl | omega)
        · exact congrArg (Value.int .i64) (by have := HL.out; first | omega | (unfold wrap64; omega))
    · have hin : ¬ (i : Int) < (n : Int) := by omega
      have e : i = n := by have := HI.out; omega
      subst e
      have e2 : (xss.map List.length).take i = xss.map List.length := by rw [HN.out]; exact List.take_of_length_le (by simp)
      rw [e2]
      have HC := Aside0.mk (growNil wr (xss.map List.length).sum HS.out)
      go_wp2_with (first | (go_at_call 77; (with_reducible refine HC.out.mono ?_); rintro e w9 ⟨v9, rfl, ho, hb⟩; have HO := Aside0.mk (Kd.R_lower ho (below_size HB.out)); have HB2 := Aside0.mk (below_step HB.out hb); clear ho hb))
      go_loopg [6, 27] (i + 1) (fun kq v6 v27 w' => ∃ q : Nat, v27 = .int .i64 (q : Int) ∧ Aside0 (q ≤ i) ∧ Aside0 (kq = i - q + 1) ∧ Aside0 ((Kd.int .i64).R 3 w' w.heap.size (fun _ => True) v6 (xss.take q).flatten) ∧ Aside0 (Below w.heap.size w w'))
      case atStart => exact ⟨0, rfl, ⟨Nat.zero_le _⟩, ⟨by omega⟩, ⟨by (with_reducible repeat (first | apply Kd.R_alloc | apply Kd.R_drewN | apply Kd.R_drew)); exact HO.out⟩, ⟨by repeat (first | exact HB2.out | apply below_drew1)⟩⟩
      case round =>
        obtain ⟨q, rfl, HQ, HK2, HR, HB3⟩ := hrel
        by_cases hlt : q < i
        · have hin : (q : Int) < (i : Int) := by omega
          have hi0 : (0 : Int) ≤ (q : Int) := by omega
          have hi : q < xss.length := by have := HN.out; omega
          obtain ⟨A, cj, hc, hC⟩ := HJ.out q hi
          have HGr := Aside0.mk ((HB3.out.block g (blk_lt HG.out)).trans HG.out)
          have d0 : wr.cell? ⟨g, q, none⟩ = some (.slice A xss[q].length cj) := by unfold World.cell?; rw [HGr.out]; exact hc
          have HCr := Aside0.mk (Kd.C_below hC HB3.out)
          have hfl := flat_take xss q hi
          have hlen : ((xss.take q).flatten.length + xss[q].length) * 8 ≤ 140737488355328 := by
            have h1 := congrArg List.length hfl
            rw [List.length_append, flat_len] at h1
            have h2 := HM.out (q + 1)
            rw [← List.map_take] at h2
            omega
          have HLn := Aside0.mk hlen
          have HF := Aside0.mk hfl
          clear hc hC hfl hlen
          go_wp2_with (first | (at_builtin; refine Kd.R_append_rows (Kd.int .i64) (w0 := w) w.heap.size rfl (.tmp 31) (.tmp 32) 33 3 (.int .i64 0) 8 rfl Try.underlying33 info3 rfl (by decide) (by omega) _ (xss.take q).flatten xss[q] _ _ _ (fun _ => True) (fun _ => False) rfl rfl ?aO ?aR (fun _ _ h => h) (fun _ h => h.elim) ?aF ?aB ?aS ?aL ?_; (case aR => repeat (first | exact HCr.out | (with_reducible refine Kd.C_alloc ?_ _) | (with_reducible refine Kd.C_drewN ?_ _) | (with_reducible refine Kd.C_drew ?_))); (case aB => exact HB3.out); (case aF => exact (fun _ _ => trivial)); (case aO => exact HR.out); (case aS => exact below_size HB3.out); (case aL => exact HLn.out); intro v9 w12 ho hb hg hat; have HO4 := Aside0.mk ho; have HB4 := Aside0.mk hb; clear ho hb hg hat))
          go_roundg (i - q)
          case measure => have := HK2.out; omega
          case rel => exact ⟨q + 1, congrArg (Value.int .i64) (by have := HL.out; first | omega | (unfold wrap64; omega)), ⟨hlt⟩, ⟨by omega⟩, ⟨by rw [HF.out]; (with_reducible repeat (first | apply Kd.R_alloc | apply Kd.R_drewN | apply Kd.R_drew)); exact HO4.out⟩, ⟨by repeat (first | exact HB4.out | apply below_drew1)⟩⟩
        · have hin : ¬ (q : Int) < (i : Int) := by omega
          have e3 : q = i := by have := HQ.out; omega
          subst e3
          have e4 : xss.take q = xss := by rw [HN.out]; exact List.take_length
          rw [e4] at HR
          go_wp2
          go_ret
          exact ⟨_, rfl, HR.out, HB3.out⟩
section
variable {P : Program} {ops : Array Oper} {rest : List Oper} {o : Oper} {a : Act} {Q : Exit → Act → World → Prop}
theorem slice_event {W : World} (hgd : o.guard = none) {N : Tmp} (_hd : o.dst = some N) {cs : Array Value} {t : TypeId} {m : Nat}
    (hrun : (execOp a.eval o).run P W = .ok (.value (.slice (some ⟨W.heap.size, 0, none⟩) m m)) (W.alloc (.cells cs t (0, 0))))
    (h : ∀ g, g = W.heap.size → ∀ w1, w1.heap[g]? = some (.cells cs t (0, 0)) → Below W.heap.size W w1 → wpList P ops Q rest (a.put o.dst (.slice (some ⟨g, 0, none⟩) m m)) w1) : wpList P ops Q (o :: rest) a W :=
  Kd.event_run hgd hrun (h _ rfl _ (blk_new W _) (below_alloc (Below.refl _ _) _))
end
theorem concat3 (w : World) (g : Nat) (A1 A2 A3 : Option Addr) (c1 c2 c3 : Nat) (x1 x2 x3 : List Int) (hg : w.heap[g]? = some (.cells #[.slice A1 x1.length c1, .slice A2 x2.length c2, .slice A3 x3.length c3] 33 (0, 0)))
    (h1 : (Kd.int .i64).C w A1 x1.length x1) (h2 : (Kd.int .i64).C w A2 x2.length x2) (h3 : (Kd.int .i64).C w A3 x3.length x3) (hs : x1.length + x2.length + x3.length < 17592186044416) :
    Calls Try.prog 50 #[.slice (some ⟨g, 0, none⟩) 3 3] w fun e w' => ∃ v, e = .returned v ∧ (Kd.int .i64).R 3 w' w.heap.size (fun _ => True) v (x1 ++ x2 ++ x3) ∧ Below w.heap.size w w' := by
  have h := concat_calls w g 3 3 _ [x1, x2, x3] hg rfl (fun j hj => by
    match j, hj with
    | 0, _ => exact ⟨A1, c1, rfl, h1⟩
    | 1, _ => exact ⟨A2, c2, rfl, h2⟩
    | 2, _ => exact ⟨A3, c3, rfl, h3⟩
    | j + 3, hj => exact absurd hj (by simp)) (by simp; omega) (by simp)
  have e : [x1, x2, x3].flatten = x1 ++ x2 ++ x3 := by simp
  rw [e] at h
  exact h
theorem concat2 (w : World) (g : Nat) (A1 A2 : Option Addr) (c1 c2 : Nat) (x1 x2 : List Int) (hg : w.heap[g]? = some (.cells #[.slice A1 x1.length c1, .slice A2 x2.length c2] 33 (0, 0)))
    (h1 : (Kd.int .i64).C w A1 x1.length x1) (h2 : (Kd.int .i64).C w A2 x2.length x2) (hs : x1.length + x2.length < 17592186044416) :
    Calls Try.prog 50 #[.slice (some ⟨g, 0, none⟩) 2 2] w fun e w' => ∃ v, e = .returned v ∧ (Kd.int .i64).R 3 w' w.heap.size (fun _ => True) v (x1 ++ x2) ∧ Below w.heap.size w w' := by
  have h := concat_calls w g 2 2 _ [x1, x2] hg rfl (fun j hj => by
    match j, hj with
    | 0, _ => exact ⟨A1, c1, rfl, h1⟩
    | 1, _ => exact ⟨A2, c2, rfl, h2⟩
    | j + 2, hj => exact absurd hj (by simp)) (by simp; omega) (by simp)
  have e : [x1, x2].flatten = x1 ++ x2 := by simp
  rw [e] at h
  exact h
end Go.Proofs.Ytenehkjbopdapaa.PCat
