/- What this claim's texts name, out of the words that the kit's print laid (and of this seat's own texts). Conditions: as stated. -/
import Derived.Maps.OwnSet
import Derived.Maps.Keyed
import Derived.Maps.Views
import Derived.Carry
import Derived.Test.YtenehkjbopdapaaProg
import Derived.Test.YtenehkjbopdapaaTAWWords
import Derived.Test.YtenehkjbopdapaaTAWLast
import Derived.Test.YtenehkjbopdapaaTAWMore
import Derived.Test.YtenehkjbopdapaaTAWGuard
set_option linter.unusedVariables false
namespace Go.Proofs.Ytenehkjbopdapaa.PMap
open Go.RowKit Go.Proofs.YtenehkjbopdapaaW.PrintWords Go.Proofs.YtenehkjbopdapaaW.PrintLast Go.Proofs.YtenehkjbopdapaaW.PrintMore
def D (xs : List Int) : DataW Unit := Maps.setOf (.lit (.bool true)) (xs.map (Lit.int .i64))
theorem keyLit (i : Int) : WideAt.IsKeyLit (Lit.int .i64 i) := trivial
theorem D_snoc (xs : List Int) (x : Int) : D (xs ++ [x]) = (D xs).put (.int .i64 x) (.lit (.bool true)) := by
  unfold D; rw [List.map_append, List.map_cons, List.map_nil, Maps.setOf_snoc]
theorem D_isMap (xs : List Int) : Maps.IsMap (D xs) := (Maps.tidy_setOf _ _ (fun x hx => by obtain ⟨i, _, rfl⟩ := List.mem_map.1 hx; exact keyLit i)).isMap
theorem D_at (xs : List Int) (x : Int) : (D xs).atKey (.int .i64 x) (.lit (.bool false)) = .lit (.bool (decide (x ∈ xs))) := by
  obtain ⟨ys, rfl⟩ : ∃ ys, xs = List.reverse ys := ⟨xs.reverse, by simp⟩
  induction ys with
  | nil => rfl
  | cons y ys ih =>
    rw [List.reverse_cons, D_snoc]
    by_cases h : x = y
    · subst h
      rw [Maps.atKey_put_same (D_isMap _) (keyLit _)]; simp
    · rw [Maps.atKey_put_other (fun e => h (by injection e)), ih]
      simp [h]
def MapR (w : World) (base b : Nat) (xs : List Int) : Prop := base ≤ b ∧ w.ownsMap Try.prog 3 (plainElem Try.prog 4) b xs.length (D xs)
theorem map_own (b : Nat) : (Value.map (some b)).ownBlock = none := rfl
namespace MapR
variable {w w1 : World} {base b : Nat} {xs : List Int}
theorem grown (h : MapR w base b xs) {row : Option Nat} (hg : w.grownBy w1 row) (hne : some b ≠ row) : MapR w1 base b xs := ⟨h.1, h.2.kept hg hne⟩
theorem below (h : MapR w base b xs) (hb : Below w.heap.size w w1) : MapR w1 base b xs := h.grown (row := none) ⟨hb.os, hb.tape, hb.output, hb.size, fun k hk _ => hb.block k hk⟩ (by simp)
theorem alloc (h : MapR w base b xs) (o : Obj) : MapR (w.alloc o) base b xs := ⟨h.1, h.2.alloc o⟩
theorem drew (h : MapR w base b xs) : MapR w.drew base b xs := h
theorem drewN (h : MapR w base b xs) (n : Nat) : MapR (w.drewN n) base b xs := h
theorem lower (h : MapR w base b xs) {base' : Nat} (hb : base' ≤ base) : MapR w base' b xs := ⟨Nat.le_trans hb h.1, h.2⟩
theorem ne (h : MapR w base b xs) {g t : Nat} {cs : Array Value} (hg : w.heap[g]? = some (.cells cs t (0, 0))) : b ≠ g := by
  rintro rfl
  obtain ⟨es, clock, hb, _⟩ := h.2
  rw [hb] at hg
  cases hg
theorem ne_typed (h : MapR w base b xs) {g t : Nat} (hg : ∃ cs, w.heap[g]? = some (.cells cs t (0, 0))) : g ≠ b := by
  obtain ⟨cs, hc⟩ := hg
  exact (h.ne hc).symm
theorem far (h : MapR w base b xs) {p : Addr} (hne : b ≠ p.block) (u : Value) : MapR (w.setCell p u) base b xs := ⟨h.1, h.2.setCell hne u⟩
end MapR
section
variable {ops : Array Oper} {rest : List Oper} {o : Oper} {a : Act} {Q : Exit → Act → World → Prop}
theorem map_event {W : World} (hgd : o.guard = none) {N : Tmp} (_hd : o.dst = some N) (hop : o.op = .makeMap 65 none)
    (h : ∀ g, g = W.heap.size → ∀ w1, MapR w1 W.heap.size g [] → Below W.heap.size W w1 → wpList Try.prog ops Q rest (a.put o.dst (.map (some g))) w1) : wpList Try.prog ops Q (o :: rest) a W :=
  Kd.event_run (w1 := W.alloc (.map #[] 0)) (v := .map (some W.heap.size)) hgd (by unfold execOp; rw [hop]; rfl) (h _ rfl _ ⟨Nat.le_refl _, World.ownsMap_made W _ _ _⟩ (below_alloc (Below.refl _ _) _))
theorem K3 : Maps.Keyed Try.prog 3 := Maps.int_keyed (q := .i64) Try.underlying3
theorem zero4 (W : World) : (zeroValue 4).run Try.prog W = .ok (.bool false) W := by have h := Try.zeroValue4; simp [h]
theorem plainElem_bool_inv {P : Program} {e : TypeId} (hu : P.underlying e = some .bool) {v : Value} {r : Bool} {ps : List MemPlace} (h : plainElem (H := Unit) P e v = some (.lit (.bool r), ps)) : v = .bool r := by
  unfold plainElem at h
  rw [hu] at h
  cases v with
  | bool x => simp at h; rw [h.1]
  | _ => simp at h
theorem look_event {W : World} {m x : Operand} (hgd : o.guard = none) {N : Tmp} (_hd : o.dst = some N) (hop : o.op = .lookup 65 m x false) (base b : Nat) (i : Int) (xs : List Int) (r : Bool) (hm : a.eval m = .map (some b)) (hx : a.eval x = .int .i64 i)
    (hwf : (Lit.int .i64 i).wf = true) (h0 : MapR W base b xs) (hr : decide (i ∈ xs) = r) (h : wpList Try.prog ops Q rest (a.put o.dst (.bool r)) W) : wpList Try.prog ops Q (o :: rest) a W := by
  obtain ⟨v, ps, hrun, hv⟩ := h0.2.lookup (t := 65) (e := 4) (z := .bool false) K3 Try.underlying65 (zero4 W) (plainElem_bool Try.underlying4 false) (Maps.keyOf_int_mk Try.underlying3 hwf)
  rw [D_at, hr] at hv
  have e : v = .bool r := by
    have hi := plainElem_bool_inv Try.underlying4 hv
    exact hi
  subst e
  refine Kd.event_run (w1 := W) (v := .bool r) hgd ?_ h
  unfold execOp
  rw [hop]
  simp [hm, hx, hrun, Result.andThen]
theorem gate_update {W : World} {t : TypeId} {m x v : Operand} (_ho : o.op = .mapUpdate t m x v) (h : wpList Try.prog ops Q (o :: rest) a W) : wpList Try.prog ops Q (o :: rest) a W := h
theorem wf_of {i : Int} (h1 : decide (i < 1) = false) (h2 : decide (9 < i) = false) : (Lit.int .i64 i).wf = true := by
  have h1 := of_decide_eq_false h1
  have h2 := of_decide_eq_false h2
  have : i = 1 ∨ i = 2 ∨ i = 3 ∨ i = 4 ∨ i = 5 ∨ i = 6 ∨ i = 7 ∨ i = 8 ∨ i = 9 := by omega
  rcases this with rfl | rfl | rfl | rfl | rfl | rfl | rfl | rfl | rfl <;> decide
theorem set_event {W : World} {m x v : Operand} (hgd : o.guard = none) (hop : o.op = .mapUpdate 65 m x v) (base b : Nat) (i : Int) (xs : List Int) (hm : a.eval m = .map (some b)) (hx : a.eval x = .int .i64 i) (hv : a.eval v = .bool true)
    (hwf : (Lit.int .i64 i).wf = true) (hl : xs.length < maxLen) (h0 : MapR W base b xs) (h : ∀ w1, MapR w1 base b (xs ++ [i]) → W.grownBy w1 (some b) → wpList Try.prog ops Q rest (a.put o.dst undef) w1) : wpList Try.prog ops Q (o :: rest) a W := by
  refine wpList_mapUpdate_own W hgd m x v 65 hop 3 4 K3 Try.underlying65 (plainElem Try.prog 4) b xs.length (D xs) hm h0.2 hl (.int .i64 i) (.bool true) (.int .i64 i) hx hv (Maps.keyOf_int_mk Try.underlying3 hwf) (.lit (.bool true)) [] (plainElem_bool Try.underlying4 true) ?_
  intro w' hw hg
  refine h w' ⟨h0.1, ?_⟩ hg
  rw [D_snoc, List.length_append]
  exact hw
end
end Go.Proofs.Ytenehkjbopdapaa.PMap
