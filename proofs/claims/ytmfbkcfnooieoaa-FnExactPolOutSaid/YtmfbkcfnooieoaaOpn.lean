/-
  What an argument of struct type, or a slice of structs, reads as: from the reading as data to the printed kinds ('Kd'). Conditions: none beyond the reading.
-/
import Derived.Test.YtmfbkcfnooieoaaWWords
import Derived.Deep.Slices
import Derived.Deep.Fields
import Derived.ChangeSame
import Derived.WideShapes
import Derived.DataReads
namespace Go.Proofs.Ytmfbkcfnooieoaa.Opn
open Go.ChangeShapes Go.WideShapes Go.Deep Go.Proofs.YtmfbkcfnooieoaaW.PrintWords
section
variable {H : Type} {enc : TypeId × Value → H} {P : Program} {w : World} {base : Nat} {spare : Nat → Bool} {held : Bool}

/-- Whatever of type t reads as data is of kind d. -/
def Opens {α : Type} (enc : TypeId × Value → H) (P : Program) (w : World) (base : Nat) (spare : Nat → Bool) (held : Bool) (t : TypeId) (d : Kd α) : Prop :=
  ∀ (fuel : Nat) (cs : List Value) (x : DataW H × List MemPlace), DataW.trod enc P w base spare held fuel t cs = some x → ∃ a, d.K w a cs

theorem opens_int {t : TypeId} {k : IntKind} (ht : P.underlying t = some (.int k)) : Opens enc P w base spare held t (Kd.int k) := by
  intro fuel cs x h
  obtain ⟨n, rfl, _⟩ := DataW.trod_int ht h
  exact ⟨n, rfl⟩
theorem opens_bool {t : TypeId} (ht : P.underlying t = some .bool) : Opens enc P w base spare held t Kd.bool := by
  intro fuel cs x h
  obtain ⟨n, rfl, _⟩ := DataW.trod_bool ht h
  exact ⟨n, rfl⟩
theorem opens_string {t : TypeId} (ht : P.underlying t = some .string) : Opens enc P w base spare held t Kd.string := by
  intro fuel cs x h
  obtain ⟨n, rfl, _⟩ := DataW.trod_string ht h
  exact ⟨n, rfl⟩

theorem opens_slice {α : Type} {t e : TypeId} {d : Kd α} (ht : P.underlying t = some (.slice e)) (hsz : P.cellsOf e = d.sz) (he : Opens enc P w base spare held e d) :
    Opens enc P w base spare held t (Kd.slice e d) := by
  intro fuel cs x h
  rcases open_slice ht h with ⟨rfl, _⟩ | ⟨a, len, cap, m, n, D, Pl, rfl, _, hl, hm, hmm, _, hi⟩
  · exact ⟨[], none, 0, rfl, Nat.le_refl _, rfl, Nat.zero_le _, fun h0 => absurd h0 (Nat.lt_irrefl _)⟩
  · have hle : len ≤ m := by rw [hmm]; split <;> omega
    have hel : ∀ i : Fin len, ∃ y : α, ∃ c : List Value, c.length = d.sz ∧ d.K w y c ∧ ∀ j u, c[j]? = some u → w.cell? (a.add (i.1 * d.sz + j)) = some u := by
      intro i
      obtain ⟨cs', hc, ht'⟩ := hi i.1 (Nat.lt_of_lt_of_le i.2 hle)
      obtain ⟨y, hy⟩ := he _ _ _ ht'
      rw [hsz] at hc
      obtain ⟨_, hcl, hat⟩ := World.cells?_some hc
      refine ⟨y, cs', hcl, hy, fun j u hu => ?_⟩
      have hj : j < d.sz := by rw [← hcl]; exact (List.getElem?_eq_some_iff.1 hu).1
      rw [← Go.Deep.add_add, hat j hj, hu]
    obtain ⟨f, hf⟩ := Classical.axiomOfChoice hel
    have hlen : (List.ofFn f).length = len := List.length_ofFn
    refine ⟨List.ofFn f, some a, cap, by rw [hlen], by rw [hlen]; exact hl, ?_⟩
    refine ⟨rfl, ?_, fun _ => ⟨a, rfl, fun j p hp => ?_⟩⟩
    · rw [hlen]; unfold maxLen at hm; omega
    · rw [List.getElem?_ofFn] at hp
      split at hp
      · rename_i hj
        injection hp with hp
        subst hp
        exact hf ⟨j, hj⟩
      · cases hp

/-- The fields of a struct from one on, from cell o on. -/
def FieldsOpen {α : Type} (enc : TypeId × Value → H) (P : Program) (w : World) (base : Nat) (spare : Nat → Bool) (held : Bool) (L o : Nat) (fs : List Field) (d : Kd α) : Prop :=
  ∀ (n : Nat) (cs : List Value), cs.length = L → (∀ f ∈ fs, ∃ x, DataW.trod enc P w base spare held n f.type ((cs.drop f.offset).take (P.cellsOf f.type)) = some x) → ∃ a, d.K w a (cs.drop o)

theorem fo_one {α : Type} {L o : Nat} {f : Field} {d : Kd α} (hf : f.offset = o) (hL : L = o + P.cellsOf f.type) (h : Opens enc P w base spare held f.type d) : FieldsOpen enc P w base spare held L o [f] d := by
  intro n cs hl hx
  obtain ⟨x, hx⟩ := hx f (by simp)
  rw [hf, List.take_of_length_le (by rw [List.length_drop]; omega)] at hx
  exact h _ _ _ hx
theorem fo_cons {α β : Type} {L o : Nat} {f : Field} {fs : List Field} {d : Kd α} {d' : Kd β} (hf : f.offset = o) (h : Opens enc P w base spare held f.type d) (h' : FieldsOpen enc P w base spare held L (o + P.cellsOf f.type) fs d') :
    FieldsOpen enc P w base spare held L o (f :: fs) (Kd.pair d d') := by
  intro n cs hl hx
  obtain ⟨x, hx0⟩ := hx f (by simp)
  rw [hf] at hx0
  obtain ⟨a, ha⟩ := h _ _ _ hx0
  obtain ⟨b, hb⟩ := h' n cs hl (fun g hg => hx g (List.mem_cons_of_mem _ hg))
  refine ⟨(a, b), _, _, ?_, ha, hb⟩
  rw [← List.drop_drop]
  exact (List.take_append_drop _ _).symm

theorem opens_struct {α : Type} {t : TypeId} {fs : Array Field} {d : Kd α} (ht : P.underlying t = some (.struct fs)) (h : FieldsOpen enc P w base spare held (P.cellsOf t) 0 fs.toList d) : Opens enc P w base spare held t d := by
  intro fuel cs x hx
  obtain ⟨xs, n, _, _, hl, hlen, hf⟩ := DataW.trod_struct ht hx
  obtain ⟨a, ha⟩ := h n cs hl (fun f hfm => by
    obtain ⟨i, hi, rfl⟩ := List.getElem_of_mem hfm
    have hi' : i < fs.size := by simpa using hi
    have he : fs[i]? = some (fs.toList[i]) := by simp [Array.getElem?_eq_getElem hi']
    refine ⟨xs[i]'(by omega), ?_⟩
    rw [hf i _ he, List.getElem?_eq_getElem (by omega)])
  exact ⟨a, ha⟩

theorem opens_iso {α β : Type} {t : TypeId} {d : Kd α} {f : β → α} (inv : α → β) (hi : ∀ a, f (inv a) = a) (h : Opens enc P w base spare held t d) : Opens enc P w base spare held t (Kd.iso d f) := by
  intro fuel cs x hx
  obtain ⟨a, ha⟩ := h _ _ _ hx
  exact ⟨inv a, show d.K w (f (inv a)) cs by rw [hi]; exact ha⟩

/-- An argument of struct type. -/
theorem opens_arg {α : Type} {t : TypeId} {d : Kd α} {v : Value} {y : DataW H} {ps : List MemPlace} (ho : Opens enc P w base spare held t d) (h : DataW.Trod enc P w base spare held t v y ps) : ∃ a, d.K w a (Value.cells v).toList := by
  obtain ⟨n, hn⟩ := h
  exact ho _ _ _ hn
end
theorem inner_len {α : Type} {d : Kd α} {e : Nat} {w : World} {A : Option Addr} {n : Nat} {l : List (List α)} (h : Kd.C (Kd.slice e d) w A n l) (hn : n = l.length) : ∀ x ∈ l, x.length ≤ 9223372036854775807 := by
  intro x hx
  obtain ⟨j, hj, rfl⟩ := List.getElem_of_mem hx
  obtain ⟨ad, _, hc⟩ := h.2.2 (by omega)
  obtain ⟨c, _, ⟨_, _, _, _, hk⟩, _⟩ := hc j _ (List.getElem?_eq_getElem hj)
  exact hk.2.1
end Go.Proofs.Ytmfbkcfnooieoaa.Opn
