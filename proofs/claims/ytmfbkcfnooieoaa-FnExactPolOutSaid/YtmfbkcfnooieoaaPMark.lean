/-
  laws.markPolOldS and markPolOldSS (functions 82 and 53 of round r4): whatever the rows hold, and wherever they lie, the number that comes back; only the rows' own blocks turn, and keep their form. Conditions: as stated.
-/
import Derived.Test.YtmfbkcfnooieoaaProg
import Derived.Test.YtmfbkcfnooieoaaWWords
import Derived.Test.YtmfbkcfnooieoaaWLast
import Derived.Test.YtmfbkcfnooieoaaWMore
import Derived.Test.YtmfbkcfnooieoaaWKept
import Derived.Test.YtmfbkcfnooieoaaWApart
import Derived.Lib.SliceRun
set_option linter.unusedVariables false
set_option linter.unusedSimpArgs false
namespace Go.Proofs.Ytmfbkcfnooieoaa.PMark
open Go.RowKit Go.Lib Go.Proofs.YtmfbkcfnooieoaaW.PrintWords Go.Proofs.YtmfbkcfnooieoaaW.PrintLast Go.Proofs.YtmfbkcfnooieoaaW.PrintMore
/-- A block of elements of type 82, made since. -/
def T82 (base : Nat) (w : World) (k : Nat) : Prop := base ≤ k ∧ ∃ cs, w.heap[k]? = some (.cells cs 82 (0, 0))
theorem T82.not {base : Nat} {w : World} {k t : Nat} {cs : Array Value} (h : w.heap[k]? = some (.cells cs t (0, 0))) (ht : t ≠ 82) : ¬ T82 base w k := by
  rintro ⟨_, cs', h'⟩
  rw [h] at h'
  injection h' with h'
  injection h' with _ h'
  exact ht h'
/-- Only such blocks have turned, and they keep their form. -/
structure Turn (base : Nat) (w w' : World) : Prop where
  os : w'.os = w.os
  tape : w'.tape = w.tape
  output : w'.output = w.output
  size : w'.heap.size = w.heap.size
  other : ∀ k, ¬ T82 base w k → w'.heap[k]? = w.heap[k]?
  shape : ∀ (k : Nat) (cs : Array Value), w.heap[k]? = some (.cells cs 82 (0, 0)) → ∃ cs' : Array Value, w'.heap[k]? = some (.cells cs' 82 (0, 0)) ∧ cs'.size = cs.size
namespace Turn
variable {base : Nat} {w w1 w2 : World}
theorem refl (base : Nat) (w : World) : Turn base w w := ⟨rfl, rfl, rfl, rfl, fun _ _ => rfl, fun k cs h => ⟨cs, h, rfl⟩⟩
theorem back (h : Turn base w w1) {k : Nat} (hk : T82 base w1 k) : T82 base w k := Classical.byContradiction fun hn => hn ⟨hk.1, by
  obtain ⟨cs, hc⟩ := hk.2
  exact ⟨cs, (h.other k hn).symm.trans hc⟩⟩
theorem trans (h : Turn base w w1) (k : Turn base w1 w2) : Turn base w w2 :=
  ⟨k.os.trans h.os, k.tape.trans h.tape, k.output.trans h.output, k.size.trans h.size, fun q hq => (k.other q (fun h1 => hq (h.back h1))).trans (h.other q hq), fun q cs hc => by
    obtain ⟨cs1, h1, e1⟩ := h.shape q cs hc
    obtain ⟨cs2, h2, e2⟩ := k.shape q cs1 h1
    exact ⟨cs2, h2, e2.trans e1⟩⟩
theorem set (g q : Nat) (u : Value) (hg : base ≤ g) {cs : Array Value} (hc : w.heap[g]? = some (.cells cs 82 (0, 0))) : Turn base w (w.setCell ⟨g, q, none⟩ u) := by
  refine ⟨rfl, rfl, rfl, by simp [World.setCell], fun k hk => Below.heap_setCell w _ u k (fun e => hk (e ▸ ⟨hg, cs, hc⟩)), fun k cs' hk => ?_⟩
  by_cases e : k = g
  · subst e
    rw [hc] at hk
    injection hk with hk
    injection hk with hk
    subst hk
    refine ⟨cs.setIfInBounds q u, ?_, by simp⟩
    unfold World.setCell
    simp only [Array.getElem?_modify, if_pos, hc, Option.map_some]
    rfl
  · exact ⟨cs', (Below.heap_setCell w _ u k e).trans hk, rfl⟩
theorem kept (h : Turn base w w1) : Kept w w1 (fun k => T82 base w k) := ⟨Nat.le_of_eq h.size.symm, fun i _ hn => h.other i hn⟩
theorem below (h : Turn base w w1) {w0 : World} (hb : Below base w0 w) : Below base w0 w1 := ⟨h.os.trans hb.os, h.tape.trans hb.tape, h.output.trans hb.output, Nat.le_trans hb.size (Nat.le_of_eq h.size.symm), fun k hk => (h.other k (fun ht => by have := ht.1; omega)).trans (hb.block k hk)⟩
theorem blk (h : Turn base w w1) {g t : Nat} {cs : Array Value} (hb : w.heap[g]? = some (.cells cs t (0, 0))) (ht : t ≠ 82) : w1.heap[g]? = some (.cells cs t (0, 0)) := (h.other g (T82.not hb ht)).trans hb
end Turn
/-- A slice of such elements, n long, its block made since. -/
def Row (w : World) (base : Nat) (A : Option Addr) (n : Nat) : Prop := n = 0 ∨ ∃ (g : Nat) (cs : Array Value), A = some ⟨g, 0, none⟩ ∧ base ≤ g ∧ w.heap[g]? = some (.cells cs 82 (0, 0)) ∧ n * 2 ≤ cs.size
theorem Row.turn {base : Nat} {w w1 : World} {A : Option Addr} {n : Nat} (h : Row w base A n) (ht : Turn base w w1) : Row w1 base A n := by
  rcases h with h | ⟨g, cs, e, hb, hc, hn⟩
  · exact .inl h
  · obtain ⟨cs', h', e'⟩ := ht.shape g cs hc
    exact .inr ⟨g, cs', e, hb, h', by omega⟩
theorem cell_of {w : World} {g q : Nat} {cs : Array Value} (hc : w.heap[g]? = some (.cells cs 82 (0, 0))) (hq : q < cs.size) : ∃ u, w.cell? ⟨g, q, none⟩ = some u := by
  refine ⟨cs[q], ?_⟩
  unfold World.cell?
  rw [hc]
  simp [hq]
set_option maxHeartbeats 8000000 in
set_option maxRecDepth 100000 in
theorem mark82 (w : World) (base : Nat) (A : Option Addr) (n c : Nat) (a1 : Int) (hrow : Row w base A n) (hn : n ≤ 4000000) (h0 : 0 ≤ a1) (h1 : a1 ≤ 10000000) :
    Calls Try.prog 82 #[.slice A n c, .int .i64 a1] w fun e w' => e = .returned (.int .i64 (a1 + 2 * (n : Int))) ∧ Turn base w w' := by
  have hu82 := Try.underlying82
  have hu66 := Try.underlying66
  have HR := Aside0.mk hrow
  clear hrow
  go_enter Try.func82, Try.ntmps82
  go_wp2
  go_loopg [1, 5] (n + 1) (fun kq v1 v5 w' => ∃ i : Nat, v1 = .int .i64 (a1 + 2 * (i : Int)) ∧ v5 = .int .i64 (i : Int) ∧ Aside0 (i ≤ n) ∧ Aside0 (kq = n - i + 1) ∧ Aside0 (Turn base w w'))
  case atStart => exact ⟨0, by simp, rfl, ⟨Nat.zero_le _⟩, ⟨by omega⟩, ⟨Turn.refl _ _⟩⟩
  case round =>
    obtain ⟨i, rfl, rfl, HI, HK, HT⟩ := hrel
    by_cases hlt : i < n
    · have hin : (i : Int) < (n : Int) := by omega
      have hi0 : (0 : Int) ≤ (i : Int) := by omega
      rcases HR.out.turn HT.out with hz | ⟨g, cs, rfl, hb, hc, hs⟩
      · omega
      · have HG := Aside0.mk hc
        have HB := Aside0.mk hb
        have HS := Aside0.mk hs
        obtain ⟨u0, d0⟩ := cell_of (q := i * 2) hc (by omega)
        obtain ⟨u1, d1⟩ := cell_of (q := i * 2 + 1) hc (by omega)
        have f0 := blk_frozen hc (i * 2)
        have f1 := blk_frozen hc (i * 2 + 1)
        clear hc hb hs
        go_wp2
        go_roundg (n - i)
        case measure => have := HK.out; omega
        case rel =>
          obtain ⟨cs1, hc1⟩ : ∃ cs1, (wr.setCell ⟨g, i * 2, none⟩ (.int .i64 (a1 + 2 * (i : Int)))).heap[g]? = some (.cells cs1 82 (0, 0)) := ((Turn.set (base := base) g (i * 2) (.int .i64 (a1 + 2 * (i : Int))) HB.out HG.out).shape g cs HG.out).imp fun _ h => h.1
          refine ⟨i + 1, ?_, ?_, ⟨hlt⟩, ⟨by omega⟩, ⟨(HT.out.trans (Turn.set g (i * 2) (.int .i64 (a1 + 2 * (i : Int))) HB.out HG.out)).trans (Turn.set g (i * 2 + 1) _ HB.out hc1)⟩⟩
          · exact congrArg (Value.int .i64) (by first | omega | (unfold wrap64; omega))
          · exact congrArg (Value.int .i64) (by first | omega | (unfold wrap64; omega))
    · have hin : ¬ (i : Int) < (n : Int) := by omega
      have e : i = n := by have := HI.out; omega
      subst e
      go_wp2
      go_ret
      exact ⟨rfl, HT.out⟩
/-- A slice of such slices, as long as ns tells, its own block of type 66. -/
def Rows (w : World) (base : Nat) (A : Option Addr) (ns : List Nat) : Prop := ns = [] ∨ ∃ (go : Nat) (cso : Array Value), A = some ⟨go, 0, none⟩ ∧ w.heap[go]? = some (.cells cso 66 (0, 0)) ∧ ∀ (j : Nat) (h : j < ns.length), ∃ Aj cj, cso[j]? = some (.slice Aj ns[j] cj) ∧ Row w base Aj ns[j]
theorem Rows.turn {base : Nat} {w w1 : World} {A : Option Addr} {ns : List Nat} (h : Rows w base A ns) (ht : Turn base w w1) : Rows w1 base A ns := by
  rcases h with h | ⟨go, cso, e, hc, hr⟩
  · exact .inl h
  · exact .inr ⟨go, cso, e, ht.blk hc (by decide), fun j hj => by
      obtain ⟨Aj, cj, h1, h2⟩ := hr j hj
      exact ⟨Aj, cj, h1, h2.turn ht⟩⟩
theorem sum_take (ns : List Nat) (i : Nat) (h : i < ns.length) : (ns.take (i + 1)).sum = (ns.take i).sum + ns[i] := by
  rw [List.take_succ_eq_append_getElem h, List.sum_append]; simp
theorem sum_le (ns : List Nat) (i : Nat) (h : i < ns.length) : (ns.take i).sum + ns[i] ≤ ns.sum := by
  rw [← sum_take ns i h]
  have := List.sum_append (l₁ := ns.take (i + 1)) (l₂ := ns.drop (i + 1))
  rw [List.take_append_drop] at this
  omega
set_option maxHeartbeats 8000000 in
set_option maxRecDepth 100000 in
theorem mark53 (w : World) (base : Nat) (A : Option Addr) (n c : Nat) (ns : List Nat) (a1 : Int) (hrow : Rows w base A ns) (hl : n = ns.length) (hn : n ≤ 4000000) (hs : ns.sum ≤ 4000000) (h0 : 0 ≤ a1) (h1 : a1 ≤ 2000000) :
    Calls Try.prog 53 #[.slice A n c, .int .i64 a1] w fun e w' => e = .returned (.int .i64 (a1 + 2 * (ns.sum : Int))) ∧ Turn base w w' := by
  have hu66 := Try.underlying66
  have hu30 := Try.underlying30
  have HR := Aside0.mk hrow
  have HL := Aside0.mk hl
  have HS := Aside0.mk hs
  clear hrow hl hs
  go_enter Try.func53, Try.ntmps53
  go_wp2
  go_loopg [1, 5] (n + 1) (fun kq v1 v5 w' => ∃ i : Nat, v1 = .int .i64 (a1 + 2 * ((ns.take i).sum : Int)) ∧ v5 = .int .i64 (i : Int) ∧ Aside0 (i ≤ n) ∧ Aside0 (kq = n - i + 1) ∧ Aside0 (Turn base w w'))
  case atStart => exact ⟨0, by simp, rfl, ⟨Nat.zero_le _⟩, ⟨by omega⟩, ⟨Turn.refl _ _⟩⟩
  case round =>
    obtain ⟨i, rfl, rfl, HI, HK, HT⟩ := hrel
    by_cases hlt : i < n
    · have hin : (i : Int) < (n : Int) := by omega
      have hi0 : (0 : Int) ≤ (i : Int) := by omega
      have hi : i < ns.length := by have := HL.out; omega
      have hsum := sum_le ns i hi
      rcases HR.out.turn HT.out with hz | ⟨go, cso, rfl, hc, hr⟩
      · rw [hz] at hi; exact absurd hi (by simp)
      · obtain ⟨Aj, cj, hcell, hrow⟩ := hr i hi
        have d0 : wr.cell? ⟨go, i, none⟩ = some (.slice Aj ns[i] cj) := by unfold World.cell?; rw [hc]; exact hcell
        have HW := Aside0.mk hrow
        have HC := mark82 wr base Aj ns[i] cj (a1 + 2 * ((ns.take i).sum : Int)) hrow (by have := HS.out; omega) (by omega) (by have := HS.out; omega)
        have HC := Aside0.mk HC
        clear hr hc hcell hrow
        go_wp2_with (first | (go_at_call 82; (with_reducible refine HC.out.mono ?_); rintro e w9 ⟨rfl, ht⟩; have HT9 := Aside0.mk (HT.out.trans ht); clear ht))
        go_roundg (n - i)
        case measure => have := HK.out; omega
        case rel =>
          refine ⟨i + 1, ?_, ?_, ⟨hlt⟩, ⟨by omega⟩, HT9⟩
          · exact congrArg (Value.int .i64) (by rw [sum_take ns i hi]; push_cast; omega)
          · exact congrArg (Value.int .i64) (by first | omega | (unfold wrap64; omega))
    · have hin : ¬ (i : Int) < (n : Int) := by omega
      have e : i = n := by have := HI.out; omega
      subst e
      have e2 : ns.take i = ns := by rw [HL.out]; exact List.take_length
      rw [e2]
      go_wp2
      go_ret
      exact ⟨rfl, HT.out⟩
theorem rows_of {α : Type} {d : Kd α} (hsz : d.sz = 2) {W : World} {base n c : Nat} {ok : Nat → Prop} {A : Option Addr} {l : List (List α)} (h : (Kd.slice 82 d).R 66 W base ok (.slice A n c) l) : Rows W base A (l.map List.length) := by
  obtain ⟨hS, inner, ho, hr⟩ := h
  obtain ⟨hl, ⟨he, hz⟩ | ⟨g, cap, cur, he, hb, hh, hnc, hcm, hcu, ht⟩⟩ := ho
  · exact .inl (by rw [List.eq_nil_of_length_eq_zero hz]; rfl)
  · injection he with he _ _
    subst he
    refine .inr ⟨g, cur, rfl, hh, fun j hj => ?_⟩
    have hj' : j < l.length := by rw [List.length_map] at hj; exact hj
    have e1 : (Kd.slice 82 d).sz = 1 := rfl
    rw [e1] at hl ht
    obtain ⟨v, hv, hR⟩ := hr.2 j l[j] (List.getElem?_eq_getElem hj')
    have hcur : cur[j]? = some v := by
      have h2 : ((inner.drop (j * 1)).take 1)[0]? = some v := by
        have : (inner.drop (j * (Kd.slice 82 d).sz)).take (Kd.slice 82 d).sz = [v] := hv
        rw [e1] at this
        rw [this]; rfl
      rw [List.getElem?_take, if_pos (by omega), List.getElem?_drop, Nat.mul_one, Nat.add_zero, ← ht, List.getElem?_take, if_pos (by omega)] at h2
      rw [← Array.getElem?_toList]; exact h2
    obtain ⟨_, inner2, ho2, _⟩ := hR
    obtain ⟨hl2, ⟨he2, hz2⟩ | ⟨g2, cap2, cur2, he2, hb2, hh2, hnc2, hcm2, hcu2, ht2⟩⟩ := ho2
    · refine ⟨none, 0, ?_, .inl (by rw [List.getElem_map]; exact hz2)⟩
      rw [hcur, he2, List.getElem_map, hz2]
    · refine ⟨some ⟨g2, 0, none⟩, cap2, ?_, .inr ⟨g2, cur2, rfl, hb2, hh2, ?_⟩⟩
      · rw [hcur, he2, List.getElem_map]
      · rw [List.getElem_map, hcu2, hsz]; exact Nat.mul_le_mul_right _ hnc2
end Go.Proofs.Ytmfbkcfnooieoaa.PMark
