/-
  A row of the call's own into which one element (or none) is laid, or from which some are cut, in the kinds' words; no program in sight. Conditions: the elements' cells say the same in every world (no rows inside).
-/
import Derived.Laws.Tables
import Derived.Test.YtmfbkcfnooieoaaWWords
import Derived.Test.YtmfbkcfnooieoaaWKept
namespace Go.Proofs.Ytmfbkcfnooieoaa.Own
open Go.RowKit Go.Proofs.YtmfbkcfnooieoaaW.PrintWords
section
variable {α : Type}
/-- The kinds whose elements' cells say the same in every world. -/
structure Flat (d : Kd α) : Prop where
  pos : 0 < d.sz
  M_any : ∀ w base ok w' base' ok' x cs, d.M w base ok x cs → d.M w' base' ok' x cs
  M_K : ∀ w w' base ok x cs, d.K w x cs → d.M w' base ok x cs

theorem Flat.scalar (enc : α → Value) (h1 : ∀ x, (enc x).oneCell' = true) : Flat (Kd.scalar enc h1) := ⟨Nat.one_pos, fun _ _ _ _ _ _ _ _ h => h, fun _ _ _ _ _ _ h => h⟩
theorem Flat.pair {β : Type} {a : Kd α} {b : Kd β} (ha : Flat a) (hb : Flat b) : Flat (Kd.pair a b) :=
  ⟨Nat.lt_of_lt_of_le ha.pos (Nat.le_add_right _ _), fun _ _ _ _ _ _ _ _ ⟨c0, c1, e, h0, h1⟩ => ⟨c0, c1, e, ha.M_any _ _ _ _ _ _ _ _ h0, hb.M_any _ _ _ _ _ _ _ _ h1⟩, fun _ _ _ _ _ _ ⟨c0, c1, e, h0, h1⟩ => ⟨c0, c1, e, ha.M_K _ _ _ _ _ _ h0, hb.M_K _ _ _ _ _ _ h1⟩⟩
theorem Flat.iso {β : Type} {d : Kd α} (h : Flat d) (f : β → α) : Flat (Kd.iso d f) := ⟨h.pos, fun w base ok w' base' ok' x cs hm => h.M_any w base ok w' base' ok' (f x) cs hm, fun w w' base ok x cs hk => h.M_K w w' base ok (f x) cs hk⟩
/-- The cells of a row of the call's own are of one cell each. -/
theorem Reps.one_ {d : Kd α} (hd : Flat d) {w : World} {base : Nat} {ok : Nat → Prop} {ps : List α} {cs : List Value} (h : Reps (d.M w base ok) d.sz ps cs) : ∀ u ∈ cs, u.oneCell' = true := by
  intro u hu
  obtain ⟨m, hm, rfl⟩ := List.getElem_of_mem hu
  have hp := hd.pos
  have hq : m / d.sz < ps.length := Nat.div_lt_of_lt_mul (by have := h.1; rw [Nat.mul_comm]; omega)
  have h2 := h.2 (m / d.sz) _ (List.getElem?_eq_getElem hq)
  refine d.K_one (d.K_of_M h2) _ ?_
  have e : m = m / d.sz * d.sz + m % d.sz := by rw [Nat.mul_comm]; exact (Nat.div_add_mod m d.sz).symm
  have hr : m % d.sz < d.sz := Nat.mod_lt _ hp
  refine List.mem_of_getElem? (i := m % d.sz) ?_
  rw [List.getElem?_take, if_pos hr, List.getElem?_drop, ← e]
  exact List.getElem?_eq_getElem hm
theorem Reps.append_ {R : α → List Value → Prop} {k : Nat} {ps qs : List α} {cs ds : List Value} (h : Reps R k ps cs) (h' : Reps R k qs ds) : Reps R k (ps ++ qs) (cs ++ ds) := by
  refine ⟨by rw [List.length_append, List.length_append, h.1, h'.1, Nat.add_mul], fun j p hj => ?_⟩
  rcases Nat.lt_or_ge j ps.length with hlt | hge
  · rw [List.getElem?_append_left hlt] at hj
    have h1 : j * k + k ≤ cs.length := by rw [h.1, ← Nat.succ_mul]; exact Nat.mul_le_mul_right _ hlt
    rw [List.drop_append_of_le_length (by omega), List.take_append_of_le_length (by rw [List.length_drop]; omega)]
    exact h.2 j p hj
  · rw [List.getElem?_append_right hge] at hj
    have e : j * k = cs.length + (j - ps.length) * k := by rw [h.1, ← Nat.add_mul]; congr 1; omega
    rw [e, ← List.drop_drop, List.drop_left]
    exact h'.2 _ p hj
theorem Reps.take_ {R : α → List Value → Prop} {k : Nat} {ps : List α} {cs : List Value} (h : Reps R k ps cs) (i : Nat) (hi : i ≤ ps.length) : Reps R k (ps.take i) (cs.take (i * k)) := by
  have hik : i * k ≤ ps.length * k := Nat.mul_le_mul_right _ hi
  refine ⟨by rw [List.length_take, List.length_take, h.1, Nat.min_eq_left hi, Nat.min_eq_left hik], fun j p hj => ?_⟩
  rw [List.getElem?_take] at hj
  split at hj
  · rename_i hlt
    have h1 : j * k + k ≤ i * k := by rw [← Nat.succ_mul]; exact Nat.mul_le_mul_right _ hlt
    rw [List.drop_take, List.take_take, Nat.min_eq_left (by omega)]
    exact h.2 j p hj
  · cases hj
theorem Reps.drop_ {R : α → List Value → Prop} {k : Nat} {ps : List α} {cs : List Value} (h : Reps R k ps cs) (i : Nat) : Reps R k (ps.drop i) (cs.drop (i * k)) := by
  refine ⟨by rw [List.length_drop, List.length_drop, h.1, Nat.sub_mul], fun j p hj => ?_⟩
  rw [List.getElem?_drop] at hj
  rw [List.drop_drop, ← Nat.add_mul]
  exact h.2 _ p hj

/-- What reads its one element whatever stands in the blocks S has it in none of them. -/
theorem away_ {d : Kd α} (hd : Flat d) {w : World} {S : Nat → Prop} {A : Option Addr} {x : List α} (h : ∀ W, Kept w W S → d.C W A x.length x) (hx : x.length = 1) :
    ∃ ad c, A = some ad ∧ c.length = d.sz ∧ (∀ y, x = [y] → ∀ w' base ok, d.M w' base ok y c) ∧ (∀ u ∈ c, u.oneCell' = true) ∧ (∀ j u, c[j]? = some u → w.cell? (ad.add j) = some u) ∧ ∀ g, S g → (∃ cells t, w.heap[g]? = some (.cells cells t (0, 0))) → ad.block ≠ g := by
  obtain ⟨ad, e, hc⟩ := (h w (Kept.refl w S)).2.2 (by omega)
  obtain ⟨y, rfl⟩ : ∃ y, x = [y] := List.length_eq_one_iff.1 hx
  obtain ⟨c, hcl, hk, hcell⟩ := hc 0 y rfl
  have hadd : ∀ j, (ad.add j).block = ad.block := fun j => by unfold Addr.add; split <;> rfl
  refine ⟨ad, c, e, hcl, ?_, d.K_one hk, fun j u hj => by have := hcell j u hj; rwa [Nat.zero_mul, Nat.zero_add] at this, ?_⟩
  · intro y' hy w' base ok
    injection hy with hy
    subst hy
    exact hd.M_K _ _ _ _ _ _ hk
  · rintro g hg ⟨cells, t, hcells⟩ hb
    have hW : Kept w (w.setRow g #[]) S := ⟨by rw [setRow_size]; exact Nat.le_refl _, fun i _ hn => setRow_other _ _ _ _ (fun he => hn (he ▸ hg))⟩
    obtain ⟨ad', e', hc'⟩ := (h _ hW).2.2 (by simp)
    rw [e] at e'
    injection e' with e'
    subst e'
    obtain ⟨c', hcl', _, hcell'⟩ := hc' 0 y rfl
    have := hcell' 0 _ (List.getElem?_eq_getElem (by rw [hcl']; exact hd.pos))
    rw [World.cell?, hadd, hb, setRow_heap w g cells #[] t (0, 0) hcells] at this
    simp at this

/-- A row that stood for xs now stands for what is left ahead of i, the news, and what stood from j on. -/
theorem R_edit {d : Kd α} (hd : Flat d) {e base : Nat} {S S' : Nat → Prop} {w w' : World} {v v' : Value} {xs ys : List α} (h : d.R e w base S v xs) (i j : Nat) (hi : i ≤ xs.length)
    {inner cs : List Value} (ho : w.ownsRow base e d.sz v xs.length inner) (hcs : ∀ w base ok, Reps (d.M w base ok) d.sz ys cs)
    {n : Nat} (hn : n = (xs.take i ++ ys ++ xs.drop j).length) (ho' : w'.ownsRow base e d.sz v' n (inner.take (i * d.sz) ++ cs ++ inner.drop (j * d.sz))) (hS : ∀ k, v'.ownBlock = some k → S' k) :
    d.R e w' base S' v' (xs.take i ++ ys ++ xs.drop j) := by
  obtain ⟨h0, inner2, ho2, hr⟩ := h
  have : inner2 = inner := by
    obtain ⟨hl2, h2⟩ := ho2
    obtain ⟨hl1, h1⟩ := ho
    rcases h1 with ⟨rfl, hz⟩ | ⟨g, cap, cur, rfl, hb, hh, hnc, hcm, hcs, ht⟩
    · rw [hz, Nat.zero_mul] at hl1 hl2
      rw [List.eq_nil_of_length_eq_zero hl1, List.eq_nil_of_length_eq_zero hl2]
    · rcases h2 with ⟨hc, _⟩ | ⟨g', cap', cur', he, hb', hh', hnc', hcm', hcs', ht'⟩
      · cases hc
      · injection he with he
        injection he with he
        injection he with he
        subst he
        rw [hh] at hh'
        injection hh' with hh'
        injection hh' with hh'
        rw [← ht, ← ht', hh']
  subst this
  subst hn
  refine ⟨hS, _, ho', ?_⟩
  have hr' : Reps (d.M w' base (fun k => S' k ∧ some k ≠ v'.ownBlock)) d.sz xs inner2 := hr.imp_ (fun _ _ hp => hd.M_any _ _ _ _ _ _ _ _ hp)
  exact Reps.append_ (Reps.append_ (Reps.take_ hr' i hi) (hcs _ _ _)) (Reps.drop_ hr' j)
/-- One element of a row is written. -/
theorem row_put {w : World} {base n c k g : Nat} {e : TypeId} {cs vs : List Value} (h : w.ownsRow base e k (.slice (some ⟨g, 0, none⟩) n c) n cs) (i : Nat) (hi : i < n) (hv : vs.length = k) :
    (w.setCells g (i * k) vs).ownsRow base e k (.slice (some ⟨g, 0, none⟩) n c) n (cs.take (i * k) ++ vs ++ cs.drop ((i + 1) * k)) ∧ w.grownBy (w.setCells g (i * k) vs) (some g) := by
  obtain ⟨hl, ⟨hc, _⟩ | ⟨g', cap, cur, he, hb, hh, hnc, hcm, hcu, ht⟩⟩ := h
  · cases hc
  · injection he with he he1 he2
    injection he with he
    injection he with he
    subst he; subst he2
    have e1 : (i + 1) * k = i * k + k := Nat.succ_mul i k
    have e2 : (i + 1) * k ≤ n * k := Nat.mul_le_mul_right _ hi
    have e3 : n * k ≤ c * k := Nat.mul_le_mul_right _ hnc
    obtain ⟨cur', h3, h4, h5⟩ := setCells_row (g := g) vs (i * k) w cur hh (by omega)
    obtain ⟨s1, s2, s3, s4⟩ := setCells_same g vs (i * k) w
    refine ⟨⟨by simp only [List.length_append, List.length_take, List.length_drop]; omega, .inr ⟨g, c, cur', rfl, hb, h3, hnc, hcm, by omega, ?_⟩⟩, ⟨s1, s2, s3, Nat.le_of_eq s4.symm, fun q _ hq => setCells_far vs (i * k) q (fun he => hq (by rw [he]))⟩⟩
    have hcl : cur.toList.length = c * k := by rw [Array.length_toList, hcu]
    rw [h5, ← ht, hv, List.take_take, Nat.min_eq_left (by omega), ← e1, List.drop_take]
    apply List.ext_getElem?
    intro q
    rw [List.getElem?_take]
    by_cases hq : q < n * k
    · rw [if_pos hq, List.getElem?_append, List.getElem?_append (l₂ := List.take _ _)]
      have hlen : (cur.toList.take (i * k) ++ vs).length = (i + 1) * k := by rw [List.length_append, List.length_take, hv]; omega
      rw [hlen]
      by_cases hq2 : q < (i + 1) * k
      · rw [if_pos hq2, if_pos hq2]
      · rw [if_neg hq2, if_neg hq2, List.getElem?_take, if_pos (by omega)]
    · rw [if_neg hq]
      symm
      apply List.getElem?_eq_none
      simp only [List.length_append, List.length_take, List.length_drop]; omega
/-- .. in the kinds' words. -/
theorem R_put {d : Kd α} (hd : Flat d) {e base n c g : Nat} {S : Nat → Prop} {w : World} {xs : List α} (h : d.R e w base S (.slice (some ⟨g, 0, none⟩) n c) xs) (i : Nat) (hi : i < xs.length) (y : α) (vs : List Value) (hv : ∀ w base ok, d.M w base ok y vs) (hl : vs.length = d.sz) :
    d.R e (w.setCells g (i * d.sz) vs) base S (.slice (some ⟨g, 0, none⟩) n c) (xs.set i y) ∧ w.grownBy (w.setCells g (i * d.sz) vs) (some g) := by
  obtain ⟨hS, inner, ho, hr⟩ := h
  have hn : n = xs.length := by
    rcases ho.2 with ⟨hc, _⟩ | ⟨g', cap, cur, he, _⟩
    · cases hc
    · injection he with _ h2
  subst hn
  obtain ⟨h1, h2⟩ := row_put ho i hi hl
  refine ⟨?_, h2⟩
  have h3 := R_edit hd (w := w) (w' := w.setCells g (i * d.sz) vs) (S' := S) (v' := .slice (some ⟨g, 0, none⟩) xs.length c) (ys := [y]) ⟨hS, inner, ho, hr⟩ i (i + 1) (Nat.le_of_lt hi) ho (cs := vs)
    (fun w base ok => ⟨by rw [hl]; simp, fun j p hj => by
      have hj0 : j = 0 := by
        have := (List.getElem?_eq_some_iff.1 hj).1
        simpa using this
      subst hj0
      have hp : y = p := by simpa using hj
      subst hp
      rw [Nat.zero_mul, List.drop_zero, ← hl, List.take_length]
      exact hv _ _ _⟩) (n := xs.length) (by simp only [List.length_append, List.length_take, List.length_drop, List.length_singleton]; omega) h1 hS
  rw [List.set_eq_take_append_cons_drop, if_pos hi]
  rwa [List.append_assoc, List.singleton_append] at h3
end
end Go.Proofs.Ytmfbkcfnooieoaa.Own
