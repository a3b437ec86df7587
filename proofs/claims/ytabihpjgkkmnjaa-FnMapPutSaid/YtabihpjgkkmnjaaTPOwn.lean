/- What this claim's texts name, out of the words that the kit's print laid (and of this seat's own texts). Conditions: as stated. -/
import Derived.Laws.Tables
import Derived.Test.YtabihpjgkkmnjaaTPWWords
import Derived.Test.YtabihpjgkkmnjaaTPWKept
namespace Go.Proofs.Ytabihpjgkkmnjaa.Own
open Go.RowKit Go.Proofs.YtabihpjgkkmnjaaW.PrintWords
section
variable {α : Type}
structure Flat (d : Kd α) : Prop where
  pos : 0 < d.sz
  M_any : ∀ w base ok w' base' ok' x cs, d.M w base ok x cs → d.M w' base' ok' x cs
  M_K : ∀ w w' base ok x cs, d.K w x cs → d.M w' base ok x cs
theorem Flat.scalar (enc : α → Value) (h1 : ∀ x, (enc x).oneCell' = true) : Flat (Kd.scalar enc h1) := ⟨Nat.one_pos, fun _ _ _ _ _ _ _ _ h => h, fun _ _ _ _ _ _ h => h⟩
theorem Flat.pair {β : Type} {a : Kd α} {b : Kd β} (ha : Flat a) (hb : Flat b) : Flat (Kd.pair a b) :=
  ⟨Nat.lt_of_lt_of_le ha.pos (Nat.le_add_right _ _), fun _ _ _ _ _ _ _ _ ⟨c0, c1, e, h0, h1⟩ => ⟨c0, c1, e, ha.M_any _ _ _ _ _ _ _ _ h0, hb.M_any _ _ _ _ _ _ _ _ h1⟩, fun _ _ _ _ _ _ ⟨c0, c1, e, h0, h1⟩ => ⟨c0, c1, e, ha.M_K _ _ _ _ _ _ h0, hb.M_K _ _ _ _ _ _ h1⟩⟩
theorem Flat.iso {β : Type} {d : Kd α} (h : Flat d) (f : β → α) : Flat (Kd.iso d f) := ⟨h.pos, fun w base ok w' base' ok' x cs hm => h.M_any w base ok w' base' ok' (f x) cs hm, fun w w' base ok x cs hk => h.M_K w w' base ok (f x) cs hk⟩
theorem Reps.one_ {d : Kd α} (hd : Flat d) {w : World} {base : Nat} {ok : Nat → Prop} {ps : List α} {cs : List Value} (h : Reps (d.M w base ok) d.sz ps cs) : ∀ u ∈ cs, u.oneCell' = true := by
  intro u hu
  obtain ⟨m, hm, rfl⟩ := List.getElem_of_mem hu
  have hp := hd.pos
  have hq : m / d.sz < ps.length := Nat.div_lt_of_lt_mul (by have := h.1; rw [Nat.mul_comm]; omega)
  have h2 := h.2 (m / d.sz) _ (List.getElem?_eq_getElem hq)
  refine d.K_one (d.K_of_M h2) _ ?_
  have e : m = m / d.sz * d.sz + m % d.sz := by rw [Nat.mul_comm]; exact (Nat.div_add_mod m d.sz).symm
  have hr : m % d.sz < d.sz := Nat.mod_lt _ hp
  refine List.mem_of_getElem? (i := m % d.sz) ?_
  rw [List.getElem?_take, if_pos hr, List.getElem?_drop, ← e]
  exact List.getElem?_eq_getElem hm
theorem Reps.append_ {R : α → List Value → Prop} {k : Nat} {ps qs : List α} {cs ds : List Value} (h : Reps R k ps cs) (h' : Reps R k qs ds) : Reps R k (ps ++ qs) (cs ++ ds) := by
  refine ⟨by rw [List.length_append, List.length_append, h.1, h'.1, Nat.add_mul], fun j p hj => ?_⟩
  rcases Nat.lt_or_ge j ps.length with hlt | hge
  · rw [List.getElem?_append_left hlt] at hj
    have h1 : j * k + k ≤ cs.length := by rw [h.1, ← Nat.succ_mul]; exact Nat.mul_le_mul_right _ hlt
    rw [List.drop_append_of_le_length (by omega), List.take_append_of_le_length (by rw [List.length_drop]; omega)]
    exact h.2 j p hj
  · rw [List.getElem?_append_right hge] at hj
    have e : j * k = cs.length + (j - ps.length) * k := by rw [h.1, ← Nat.add_mul]; congr 1; omega
    rw [e, ← List.drop_drop, List.drop_left]
    exact h'.2 _ p hj
theorem Reps.take_ {R : α → List Value → Prop} {k : Nat} {ps : List α} {cs : List Value} (h : Reps R k ps cs) (i : Nat) (hi : i ≤ ps.length) : Reps R k (ps.take i) (cs.take (i * k)) := by
  have hik : i * k ≤ ps.length * k := Nat.mul_le_mul_right _ hi
  refine ⟨by rw [List.length_take, List.length_take, h.1, Nat.min_eq_left hi, Nat.min_eq_left hik], fun j p hj => ?_⟩
  rw [List.getElem?_take] at hj
  split at hj
  · rename_i hlt
    have h1 : j * k + k ≤ i * k := by rw [← Nat.succ_mul]; exact Nat.mul_le_mul_right _ hlt
    rw [List.drop_take, List.take_take, Nat.min_eq_left (by omega)]
    exact h.2 j p hj
  · cases hj
theorem Reps.drop_ {R : α → List Value → Prop} {k : Nat} {ps : List α} {cs : List Value} (h : Reps R k ps cs) (i : Nat) : Reps R k (ps.drop i) (cs.drop (i * k)) := by
  refine ⟨by rw [List.length_drop, List.length_drop, h.1, Nat.sub_mul], fun j p hj => ?_⟩
  rw [List.getElem?_drop] at hj
  rw [List.drop_drop, ← Nat.add_mul]
  exact h.2 _ p hj
theorem away_ {d : Kd α} (hd : Flat d) {w : World} {S : Nat → Prop} {A : Option Addr} {x : List α} (h : ∀ W, Kept w W S → d.C W A x.length x) (hx : x.length = 1) :
    ∃ ad c, A = some ad ∧ c.length = d.sz ∧ (∀ y, x = [y] → ∀ w' base ok, d.M w' base ok y c) ∧ (∀ u ∈ c, u.oneCell' = true) ∧ (∀ j u, c[j]? = some u → w.cell? (ad.add j) = some u) ∧ ∀ g, S g → (∃ cells t, w.heap[g]? = some (.cells cells t (0, 0))) → ad.block ≠ g := by
  obtain ⟨ad, e, hc⟩ := (h w (Kept.refl w S)).2.2 (by omega)
  obtain ⟨y, rfl⟩ : ∃ y, x = [y] := List.length_eq_one_iff.1 hx
  obtain ⟨c, hcl, hk, hcell⟩ := hc 0 y rfl
  have hadd : ∀ j, (ad.add j).block = ad.block := fun j => by unfold Addr.add; split <;> rfl
  refine ⟨ad, c, e, hcl, ?_, d.K_one hk, fun j u hj => by have := hcell j u hj; rwa [Nat.zero_mul, Nat.zero_add] at this, ?_⟩
  · intro y' hy w' base ok
    injection hy with hy
    subst hy
    exact hd.M_K _ _ _ _ _ _ hk
  · rintro g hg ⟨cells, t, hcells⟩ hb
    have hW : Kept w (w.setRow g #[]) S := ⟨by rw [setRow_size]; exact Nat.le_refl _, fun i _ hn => setRow_other _ _ _ _ (fun he => hn (he ▸ hg))⟩
    obtain ⟨ad', e', hc'⟩ := (h _ hW).2.2 (by simp)
    rw [e] at e'
    injection e' with e'
    subst e'
    obtain ⟨c', hcl', _, hcell'⟩ := hc' 0 y rfl
    have := hcell' 0 _ (List.getElem?_eq_getElem (by rw [hcl']; exact hd.pos))
    rw [World.cell?, hadd, hb, setRow_heap w g cells #[] t (0, 0) hcells] at this
    simp at this
theorem R_edit {d : Kd α} (hd : Flat d) {e base : Nat} {S S' : Nat → Prop} {w w' : World} {v v' : Value} {xs ys : List α} (h : d.R e w base S v xs) (i j : Nat) (hi : i ≤ xs.length)
    {inner cs : List Value} (ho : w.ownsRow base e d.sz v xs.length inner) (hcs : ∀ w base ok, Reps (d.M w base ok) d.sz ys cs)
    {n : Nat} (hn : n = (xs.take i ++ ys ++ xs.drop j).length) (ho' : w'.ownsRow base e d.sz v' n (inner.take (i * d.sz) ++ cs ++ inner.drop (j * d.sz))) (hS : ∀ k, v'.ownBlock = some k → S' k) :
    d.R e w' base S' v' (xs.take i ++ ys ++ xs.drop j) := by
  obtain ⟨h0, inner2, ho2, hr⟩ := h
  have : inner2 = inner := by
    obtain ⟨hl2, h2⟩ := ho2
    obtain ⟨hl1, h1⟩ := ho
    rcases h1 with ⟨rfl, hz⟩ | ⟨g, cap, cur, rfl, hb, hh, hnc, hcm, hcs, ht⟩
    · rw [hz, Nat.zero_mul] at hl1 hl2
      rw [List.eq_nil_of_length_eq_zero hl1, List.eq_nil_of_length_eq_zero hl2]
    · rcases h2 with ⟨hc, _⟩ | ⟨g', cap', cur', he, hb', hh', hnc', hcm', hcs', ht'⟩
      · cases hc
      · injection he with he
        injection he with he
        injection he with he
        subst he
        rw [hh] at hh'
        injection hh' with hh'
        injection hh' with hh'
        rw [← ht, ← ht', hh']
  subst this
  subst hn
  refine ⟨hS, _, ho', ?_⟩
  have hr' : Reps (d.M w' base (fun k => S' k ∧ some k ≠ v'.ownBlock)) d.sz xs inner2 := hr.imp_ (fun _ _ hp => hd.M_any _ _ _ _ _ _ _ _ hp)
  exact Reps.append_ (Reps.append_ (Reps.take_ hr' i hi) (hcs _ _ _)) (Reps.drop_ hr' j)
end
end Go.Proofs.Ytabihpjgkkmnjaa.Own
