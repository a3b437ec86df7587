/-
  MapPut is the reference's, for all entries, keys and values, and its answer is memory of its own. Conditions: none.
-/
import Derived.Test.YtabihpjgkkmnjaaGFnExactMapPutx1
import Derived.Test.YtabihpjgkkmnjaaGFnExactMapPutx2
import Derived.Test.YtabihpjgkkmnjaaGFnExactMapPutx3
import Derived.Test.YtabihpjgkkmnjaaGFnExactMapPutx4
import Derived.Test.YtabihpjgkkmnjaaGFnExactMapPutx5
namespace Go.Proofs.Ytabihpjgkkmnjaa.Pure
open Go.RowKit Go.Proofs.Ytabihpjgkkmnjaa.GFnExactMapPut Go.Proofs.YtabihpjgkkmnjaaW.PrintWords Go.Proofs.YtabihpjgkkmnjaaW.PrintLast
set_option linter.unusedVariables false
set_option linter.unusedSimpArgs false

namespace FnExactMapPut_
theorem wrap_nat {i : Nat} (h : i ≤ 40000000) : wrap64 (i : Int) = i := by unfold wrap64; omega
theorem wrap_succ {i : Nat} (h : i ≤ 40000000) : wrap64 ((i : Int) + 1) = ((i + 1 : Nat) : Int) := by unfold wrap64; omega
theorem wrap_pred {i : Nat} (h0 : 0 < i) (h : i ≤ 40000000) : wrap64 ((i : Int) - 1) = ((i - 1 : Nat) : Int) := by unfold wrap64; omega
theorem some_of_ext {α : Type} {ys zs : List α} (hl : ys.length = zs.length) (h : ∀ j, j < zs.length → ys[j]? = zs[j]?) : ys = zs := by
  apply List.ext_getElem?
  intro j
  by_cases hj : j < zs.length
  · exact h j hj
  · rw [List.getElem?_eq_none (by omega), List.getElem?_eq_none (by omega)]

theorem rd_79_nat (xs : List S79) (i : Nat) (h : i < xs.length) : rd_T79 xs (i : Int) = xs[i] := by simp [rd_T79, h]

theorem rd_39_nat (xs : List S39) (i : Nat) (h : i < xs.length) : rd_T39 xs (i : Int) = xs[i] := by simp [rd_T39, h]

def cvMapEntry (x : S79) : S39 := ⟨x.f0, x.f1⟩
theorem toMapEntryS_l0 (xs : List S79) (hn : xs.length ≤ 1048576) (d : Nat) : ∀ (k i : Nat) (ys : List S39), ys.length = xs.length → i + d = xs.length → d < k → (∀ j, j < i → ys[j]? = (xs.map cvMapEntry)[j]?) → laws_toMapEntryS.l0 k xs ys (i : Int) = some (xs.map cvMapEntry) := by
  induction d with
  | zero =>
    intro k i ys hl hi hk hj
    obtain ⟨k, rfl⟩ : ∃ m, k = m + 1 := ⟨k - 1, by omega⟩
    simp only [laws_toMapEntryS.l0]; rw [if_neg (by omega)]
    congr 1
    exact some_of_ext (by simpa using hl) (fun j hj' => hj j (by rw [List.length_map] at hj'; omega))
  | succ d ih =>
    intro k i ys hl hi hk hj
    obtain ⟨k, rfl⟩ : ∃ m, k = m + 1 := ⟨k - 1, by omega⟩
    simp only [laws_toMapEntryS.l0, laws_toMapEntry.f, Option.bind_some]
    rw [if_pos (by omega), if_pos (by omega), if_pos (by omega), wrap_succ (by omega)]
    apply ih k (i + 1) _ (by simp [hl]) (by omega) (by omega)
    intro j hj'
    rw [Int.toNat_natCast, List.getElem?_set]
    by_cases h : i = j
    · subst h; rw [if_pos rfl, if_pos (by omega), rd_79_nat _ _ (by omega), List.getElem?_eq_getElem (by rw [List.length_map]; omega), List.getElem_map]; rfl
    · rw [if_neg h]; exact hj j (by omega)
theorem toMapEntryS_eq (xs : List S79) (hn : xs.length ≤ 1048576) (k : Nat) (hk : xs.length < k) : laws_toMapEntryS.f k xs = some (xs.map cvMapEntry) := by
  unfold laws_toMapEntryS.f
  rw [if_pos (by omega), if_pos (by omega)]
  exact toMapEntryS_l0 xs hn xs.length k 0 _ (by simp) (by omega) hk (fun j hj => absurd hj (Nat.not_lt_zero j))

theorem eqMapEntryS_l0 (xs : List S39) (hn : xs.length ≤ 1048576) (d : Nat) : ∀ (k i : Nat), i + d = xs.length → d < k → laws_eqMapEntryS.l0 k xs xs (i : Int) = some true := by
  induction d with
  | zero =>
    intro k i hi hk
    obtain ⟨k, rfl⟩ : ∃ m, k = m + 1 := ⟨k - 1, by omega⟩
    simp only [laws_eqMapEntryS.l0]; rw [if_neg (by omega)]
  | succ d ih =>
    intro k i hi hk
    obtain ⟨k, rfl⟩ : ∃ m, k = m + 1 := ⟨k - 1, by omega⟩
    simp only [laws_eqMapEntryS.l0]
    rw [if_pos (by omega), if_pos (by omega), if_pos (by omega), wrap_succ (by omega)]
    rw [show laws_eqMapEntry.f (rd_T39 xs (i : Int)).f0 (rd_T39 xs (i : Int)).f1 (rd_T39 xs (i : Int)).f0 (rd_T39 xs (i : Int)).f1 = some true from by simp [laws_eqMapEntry.f]]
    simp only [Option.bind_some, if_true]
    exact ih k (i + 1) (by omega) (by omega)
theorem eqMapEntryS_refl (xs : List S39) (hn : xs.length ≤ 1048576) (k : Nat) (hk : xs.length < k) : laws_eqMapEntryS.f k xs xs = some true := by
  unfold laws_eqMapEntryS.f
  rw [if_pos rfl]
  exact eqMapEntryS_l0 xs hn xs.length k 0 (by omega) hk

theorem szMap_eq (l : List S79) (hm : l.length ≤ 9223372036854775807) : laws_szMapMap.f l 1048576 = some (if l.length ≤ 1048576 then 1048576 - (l.length : Int) else -1) := by
  have hw : wrap64 (1048576 - (l.length : Int)) = 1048576 - (l.length : Int) := by unfold wrap64; omega
  unfold laws_szMapMap.f laws_szMapEntryS.f
  rw [hw]
  by_cases h : l.length ≤ 1048576
  · rw [if_pos h, if_neg (by omega)]; simp only [Option.bind_some]; rw [if_neg (by omega)]
  · rw [if_neg h, if_pos (by omega)]; simp

theorem toMap_eq (l : List S79) (hn : l.length ≤ 1048576) (k : Nat) (hk : l.length < k) : laws_toMapMap.f k l = some (l.map cvMapEntry) := by
  unfold laws_toMapMap.f
  rw [toMapEntryS_eq l hn k hk]; rfl

theorem eqMap_refl (l : List S39) (hn : l.length ≤ 1048576) (k : Nat) (hk : l.length < k) : laws_eqMapMap.f k l l = some true := by
  unfold laws_eqMapMap.f
  rw [eqMapEntryS_refl l hn k hk]; rfl

theorem eqRes_refl (a b : Int) : laws_eqResRes.f a b a b = some true := by simp [laws_eqResRes.f]

theorem l1In_eq (a b c : Int) : spec_l1In.f a b c = some (decide (b ≤ a ∧ a ≤ c)) := by
  unfold spec_l1In.f
  by_cases h : a ≥ b
  · rw [if_pos h]; congr 1; exact decide_eq_decide.2 ⟨fun h2 => ⟨h, h2⟩, fun h2 => h2.2⟩
  · rw [if_neg h]; congr 1; exact (decide_eq_false (fun h2 => h h2.1)).symm

theorem isKey_eq (a : Int) : impl_isKey.f a = some (decide (0 ≤ a ∧ a ≤ 99)) := by
  unfold impl_isKey.f
  by_cases h : a ≥ 0
  · rw [if_pos h]; congr 1; exact decide_eq_decide.2 ⟨fun h2 => ⟨h, h2⟩, fun h2 => h2.2⟩
  · rw [if_neg h]; congr 1; exact (decide_eq_false (fun h2 => h h2.1)).symm

theorem isVal_eq (a : Int) : impl_isVal.f a = some (decide (0 ≤ a ∧ a ≤ 999)) := by
  unfold impl_isVal.f
  by_cases h : a ≥ 0
  · rw [if_pos h]; congr 1; exact decide_eq_decide.2 ⟨fun h2 => ⟨h, h2⟩, fun h2 => h2.2⟩
  · rw [if_neg h]; congr 1; exact (decide_eq_false (fun h2 => h h2.1)).symm

/-- Entry j is ok: key and value in bounds, and the key above that ahead. -/
def EOk (xs : List S39) (j : Nat) : Prop :=
  (0 ≤ (rd_T39 xs (j : Int)).f0 ∧ (rd_T39 xs (j : Int)).f0 ≤ 99) ∧ (0 ≤ (rd_T39 xs (j : Int)).f1 ∧ (rd_T39 xs (j : Int)).f1 ≤ 999) ∧ (0 < j → (rd_T39 xs ((j - 1 : Nat) : Int)).f0 < (rd_T39 xs (j : Int)).f0)
instance (xs : List S39) (j : Nat) : Decidable (EOk xs j) := by unfold EOk; infer_instance

/-- Entries are ok. -/
def MOk (xs : List S39) : Prop := xs.length ≤ 8 ∧ ∀ j, j < xs.length → EOk xs j
instance (xs : List S39) : Decidable (MOk xs) := by unfold MOk; infer_instance
/-- As a bool. -/
def mokB (xs : List S39) : Bool := decide (MOk xs)

theorem specMapOk_step (xs : List S39) (k i : Nat) (hi : i < xs.length) (hn : xs.length ≤ 1048576) :
    spec_MapOk.l0 (k + 1) (i : Int) xs = if EOk xs i then spec_MapOk.l0 k ((i + 1 : Nat) : Int) xs else some false := by
  simp only [spec_MapOk.l0, l1In_eq, Option.bind_some, decide_eq_true_eq]
  rw [if_pos (by omega), if_pos (by omega), wrap_succ (by omega)]
  by_cases h1 : 0 ≤ (rd_T39 xs (i : Int)).f0 ∧ (rd_T39 xs (i : Int)).f0 ≤ 99
  · rw [if_pos h1]
    by_cases h2 : 0 ≤ (rd_T39 xs (i : Int)).f1 ∧ (rd_T39 xs (i : Int)).f1 ≤ 999
    · rw [if_pos h2]
      by_cases h3 : 0 < i
      · rw [wrap_pred h3 (by omega), if_pos (by omega), if_pos (by omega), if_pos (by omega)]
        by_cases h4 : (rd_T39 xs ((i - 1 : Nat) : Int)).f0 < (rd_T39 xs (i : Int)).f0
        · rw [if_neg (by omega), if_pos (show EOk xs i from ⟨h1, h2, fun _ => h4⟩)]
        · rw [if_pos (by omega), if_neg (fun h : EOk xs i => h4 (h.2.2 h3))]
      · rw [if_neg (by omega), if_pos (show EOk xs i from ⟨h1, h2, fun h => absurd h h3⟩)]
    · rw [if_neg h2, if_neg (fun h : EOk xs i => h2 h.2.1)]
  · rw [if_neg h1, if_neg (fun h : EOk xs i => h1 h.1)]
theorem specMapOk_l0 (xs : List S39) (hn : xs.length ≤ 1048576) (d : Nat) : ∀ (k i : Nat), i + d = xs.length → d < k → spec_MapOk.l0 k (i : Int) xs = if (∀ j, j < xs.length → i ≤ j → EOk xs j) then some true else some false := by
  induction d with
  | zero =>
    intro k i hi hk
    obtain ⟨k, rfl⟩ : ∃ m, k = m + 1 := ⟨k - 1, by omega⟩
    simp only [spec_MapOk.l0]; rw [if_neg (by omega), if_pos (fun j h1 h2 => absurd h2 (by omega))]
  | succ d ih =>
    intro k i hi hk
    obtain ⟨k, rfl⟩ : ∃ m, k = m + 1 := ⟨k - 1, by omega⟩
    rw [specMapOk_step xs k i (by omega) hn]
    by_cases h : EOk xs i
    · rw [if_pos h, ih k (i + 1) (by omega) (by omega)]
      by_cases h2 : ∀ j, j < xs.length → i + 1 ≤ j → EOk xs j
      · rw [if_pos h2, if_pos (fun j hj1 hj2 => by
          by_cases e : j = i
          · subst e; exact h
          · exact h2 j hj1 (by omega))]
      · rw [if_neg h2, if_neg (fun h3 => h2 (fun j hj1 hj2 => h3 j hj1 (by omega)))]
    · rw [if_neg h, if_neg (fun h3 => h (h3 i (by omega) (Nat.le_refl i)))]

theorem implMapOk_step (xs : List S39) (k i : Nat) (hi : i < xs.length) (hn : xs.length ≤ 1048576) :
    impl_MapOk.l0 (k + 1) xs (xs.length : Int) (i : Int) xs = if EOk xs i then impl_MapOk.l0 k xs (xs.length : Int) ((i + 1 : Nat) : Int) xs else some false := by
  simp only [impl_MapOk.l0, isKey_eq, isVal_eq, Option.bind_some, decide_eq_true_eq]
  rw [if_pos (by omega), if_pos (by omega), if_pos (by omega), wrap_succ (by omega)]
  by_cases h1 : 0 ≤ (rd_T39 xs (i : Int)).f0 ∧ (rd_T39 xs (i : Int)).f0 ≤ 99
  · rw [if_pos h1]
    by_cases h2 : 0 ≤ (rd_T39 xs (i : Int)).f1 ∧ (rd_T39 xs (i : Int)).f1 ≤ 999
    · rw [if_pos h2]
      by_cases h3 : 0 < i
      · rw [wrap_pred h3 (by omega), if_pos (by omega), if_pos (by omega), if_pos (by omega)]
        by_cases h4 : (rd_T39 xs ((i - 1 : Nat) : Int)).f0 < (rd_T39 xs (i : Int)).f0
        · rw [if_neg (by omega), if_pos (show EOk xs i from ⟨h1, h2, fun _ => h4⟩)]
        · rw [if_pos (by omega), if_neg (fun h : EOk xs i => h4 (h.2.2 h3))]
      · rw [if_neg (by omega), if_pos (show EOk xs i from ⟨h1, h2, fun h => absurd h h3⟩)]
    · rw [if_neg h2, if_neg (fun h : EOk xs i => h2 h.2.1)]
  · rw [if_neg h1, if_neg (fun h : EOk xs i => h1 h.1)]
theorem implMapOk_l0 (xs : List S39) (hn : xs.length ≤ 1048576) (d : Nat) : ∀ (k i : Nat), i + d = xs.length → d < k → impl_MapOk.l0 k xs (xs.length : Int) (i : Int) xs = if (∀ j, j < xs.length → i ≤ j → EOk xs j) then some (decide ((xs.length : Int) ≤ 8)) else some false := by
  induction d with
  | zero =>
    intro k i hi hk
    obtain ⟨k, rfl⟩ : ∃ m, k = m + 1 := ⟨k - 1, by omega⟩
    simp only [impl_MapOk.l0]; rw [if_neg (by omega), if_pos (fun j h1 h2 => absurd h2 (by omega))]
  | succ d ih =>
    intro k i hi hk
    obtain ⟨k, rfl⟩ : ∃ m, k = m + 1 := ⟨k - 1, by omega⟩
    rw [implMapOk_step xs k i (by omega) hn]
    by_cases h : EOk xs i
    · rw [if_pos h, ih k (i + 1) (by omega) (by omega)]
      by_cases h2 : ∀ j, j < xs.length → i + 1 ≤ j → EOk xs j
      · rw [if_pos h2, if_pos (fun j hj1 hj2 => by
          by_cases e : j = i
          · subst e; exact h
          · exact h2 j hj1 (by omega))]
      · rw [if_neg h2, if_neg (fun h3 => h2 (fun j hj1 hj2 => h3 j hj1 (by omega)))]
    · rw [if_neg h, if_neg (fun h3 => h (h3 i (by omega) (Nat.le_refl i)))]

theorem specMapOk_eq (xs : List S39) (hn : xs.length ≤ 1048576) (k : Nat) (hk : xs.length < k) : spec_MapOk.f k xs = some (mokB xs) := by
  unfold spec_MapOk.f mokB
  by_cases h8 : xs.length ≤ 8
  · rw [if_neg (by omega)]
    refine (specMapOk_l0 xs hn xs.length k 0 (by omega) hk).trans ?_
    by_cases h : ∀ j, j < xs.length → EOk xs j
    · rw [if_pos (fun j hj _ => h j hj), decide_eq_true (p := MOk xs) ⟨h8, h⟩]
    · rw [if_neg (fun h2 => h (fun j hj => h2 j hj (Nat.zero_le j))), decide_eq_false (p := MOk xs) (fun h2 => h h2.2)]
  · rw [if_pos (by omega), decide_eq_false (p := MOk xs) (fun h2 => h8 h2.1)]
theorem implMapOk_eq (xs : List S39) (hn : xs.length ≤ 1048576) (k : Nat) (hk : xs.length < k) : impl_MapOk.f k xs = some (mokB xs) := by
  unfold impl_MapOk.f mokB
  refine (implMapOk_l0 xs hn xs.length k 0 (by omega) hk).trans ?_
  by_cases h : ∀ j, j < xs.length → EOk xs j
  · rw [if_pos (fun j hj _ => h j hj)]
    congr 1
    exact decide_eq_decide.2 ⟨fun h2 => ⟨by omega, h⟩, fun h2 => by have := h2.1; omega⟩
  · rw [if_neg (fun h2 => h (fun j hj => h2 j hj (Nat.zero_le j))), decide_eq_false (p := MOk xs) (fun h2 => h h2.2)]

/-- The first key from a key on. -/
def nextS (xs : List S39) (key : Int) : Int × Int := match xs.find? (fun e => decide (e.f0 ≥ key)) with | some e => (2, e.f0) | none => (1, 0)

theorem MOk.step {xs : List S39} (h : MOk xs) (j : Nat) (hj : j + 1 < xs.length) : (xs[j]'(by omega)).f0 < xs[j + 1].f0 := by
  have := (h.2 (j + 1) hj).2.2 (by omega)
  rw [rd_39_nat _ _ hj, show j + 1 - 1 = j from rfl, rd_39_nat _ _ (by omega)] at this
  exact this
theorem MOk.lt {xs : List S39} (h : MOk xs) (i d : Nat) : ∀ hj : i + d + 1 < xs.length, (xs[i]'(by omega)).f0 < xs[i + d + 1].f0 := by
  induction d with
  | zero => intro hj; exact h.step i hj
  | succ d ih =>
    intro hj
    have h1 := ih (by omega)
    have h2 := h.step (i + d + 1) (by omega)
    exact Int.lt_trans h1 h2
theorem MOk.lt' {xs : List S39} (h : MOk xs) (i j : Nat) (hij : i < j) (hj : j < xs.length) : (xs[i]'(by omega)).f0 < xs[j].f0 := by
  obtain ⟨d, rfl⟩ : ∃ d, j = i + d + 1 := ⟨j - i - 1, by omega⟩
  exact h.lt i d hj
theorem MOk.key {xs : List S39} (h : MOk xs) (i : Nat) (hi : i < xs.length) : 0 ≤ xs[i].f0 ∧ xs[i].f0 ≤ 99 := by
  have := (h.2 i hi).1
  rw [rd_39_nat _ _ hi] at this
  exact this
theorem MOk.val {xs : List S39} (h : MOk xs) (i : Nat) (hi : i < xs.length) : 0 ≤ xs[i].f1 ∧ xs[i].f1 ≤ 999 := by
  have := (h.2 i hi).2.1
  rw [rd_39_nat _ _ hi] at this
  exact this
theorem MOk.mk_ {xs : List S39} (hl : xs.length ≤ 8) (hk : ∀ e ∈ xs, (0 ≤ e.f0 ∧ e.f0 ≤ 99) ∧ (0 ≤ e.f1 ∧ e.f1 ≤ 999)) (hs : ∀ j, (hj : j + 1 < xs.length) → (xs[j]'(by omega)).f0 < xs[j + 1].f0) : MOk xs := by
  refine ⟨hl, fun j hj => ?_⟩
  have h := hk _ (List.getElem_mem hj)
  refine ⟨by rw [rd_39_nat _ _ hj]; exact h.1, by rw [rd_39_nat _ _ hj]; exact h.2, fun h0 => ?_⟩
  obtain ⟨i, rfl⟩ : ∃ i, j = i + 1 := ⟨j - 1, by omega⟩
  rw [rd_39_nat _ _ hj, show i + 1 - 1 = i from rfl, rd_39_nat _ _ (by omega)]
  exact hs i hj
/-- What nextS finds, by its place. -/
theorem next_cases (xs : List S39) (key : Int) : (nextS xs key = (1, 0) ∧ ∀ i, (h : i < xs.length) → xs[i].f0 < key) ∨ ∃ p, ∃ h : p < xs.length, nextS xs key = (2, xs[p].f0) ∧ key ≤ xs[p].f0 ∧ ∀ j, (hj : j < p) → (xs[j]'(by omega)).f0 < key := by
  unfold nextS
  cases hf : xs.find? (fun e => decide (e.f0 ≥ key)) with
  | none =>
    refine .inl ⟨rfl, fun i h => ?_⟩
    rw [List.find?_eq_none] at hf
    have := hf _ (List.getElem_mem h)
    simp at this
    exact this
  | some e =>
    rw [List.find?_eq_some_iff_getElem] at hf
    obtain ⟨h1, p, hp, rfl, h2⟩ := hf
    refine .inr ⟨p, hp, rfl, by simpa using h1, fun j hj => ?_⟩
    have := h2 j hj
    simpa using this

theorem cmp_eq (a b : Int) : cmp_Compare_int.f a b = some (if a < b then -1 else if a > b then 1 else 0) := by
  unfold cmp_Compare_int.f cmp_isNaN_int.f
  simp only [Option.bind_some]
  rw [if_neg (by simp), if_neg (by simp)]
  by_cases h1 : a < b
  · rw [if_pos h1, if_pos h1]
  · rw [if_neg h1, if_neg h1]
    by_cases h2 : a > b
    · rw [if_pos h2, if_pos h2]
    · rw [if_neg h2, if_neg h2]
theorem find1_eq (a b c : Int) : impl_MapMap_find_1.f a b c = some (if a < c then -1 else if a > c then 1 else 0) := by
  unfold impl_MapMap_find_1.f
  rw [cmp_eq]; rfl
/-- Whether the entry at a place has the key. -/
def hitB (xs : List S39) (p : Nat) (key : Int) : Bool := match xs[p]? with | some e => decide (e.f0 = key) | none => false
theorem hitB_lt (xs : List S39) (p : Nat) (key : Int) (h : p < xs.length) : hitB xs p key = decide (xs[p].f0 = key) := by unfold hitB; rw [List.getElem?_eq_getElem h]
theorem hitB_ge (xs : List S39) (p : Nat) (key : Int) (h : xs.length ≤ p) : hitB xs p key = false := by unfold hitB; rw [List.getElem?_eq_none h]
theorem wmid (i j : Nat) (h : i + j ≤ 1000000) : wrap64 ((IntKind.u64.wrap (wrap64 ((i : Int) + (j : Int)))) / 2) = (((i + j) / 2 : Nat) : Int) := by
  have e1 : wrap64 ((i : Int) + (j : Int)) = ((i + j : Nat) : Int) := by unfold wrap64; omega
  have e2 : IntKind.u64.wrap ((i + j : Nat) : Int) = ((i + j : Nat) : Int) := by
    simp only [IntKind.wrap, IntKind.bits, IntKind.signed]
    simp
    omega
  rw [e1, e2]
  unfold wrap64; omega
theorem find_l0 (xs : List S39) (key : Int) (hm : MOk xs) (d : Nat) : ∀ (k i j : Nat), i ≤ j → j ≤ xs.length → j ≤ i + d → d < k → (∀ t, (ht : t < xs.length) → t < i → xs[t].f0 < key) → (∀ t, (ht : t < xs.length) → j ≤ t → key ≤ xs[t].f0) →
    ∃ p : Nat, p ≤ xs.length ∧ (∀ t, (ht : t < xs.length) → t < p → xs[t].f0 < key) ∧ (∀ t, (ht : t < xs.length) → p ≤ t → key ≤ xs[t].f0) ∧ impl_MapEntry_int.l0 k xs key (xs.length : Int) (i : Int) (j : Int) = some ((p : Int), hitB xs p key) := by
  have hn : xs.length ≤ 8 := hm.1
  induction d with
  | zero =>
    intro k i j hij hj hd hk h1 h2
    obtain ⟨k, rfl⟩ : ∃ m, k = m + 1 := ⟨k - 1, by omega⟩
    have : i = j := by omega
    subst this
    refine ⟨i, hj, h1, h2, ?_⟩
    simp only [impl_MapEntry_int.l0]
    rw [if_neg (by omega)]
    by_cases hi : i < xs.length
    · rw [if_pos (by omega), if_pos (by omega), if_pos (by omega), rd_39_nat _ _ hi, find1_eq]
      simp only [Option.bind_some, hitB]
      rw [List.getElem?_eq_getElem hi]
      have := h2 i hi (Nat.le_refl i)
      rw [if_neg (by omega)]
      by_cases he : xs[i].f0 = key
      · rw [if_neg (by omega)]; simp [he]
      · rw [if_pos (by omega)]; simp [he]
    · rw [if_neg (by omega)]
      simp only [hitB]
      rw [List.getElem?_eq_none (by omega)]
  | succ d ih =>
    intro k i j hij hj hd hk h1 h2
    obtain ⟨k, rfl⟩ : ∃ m, k = m + 1 := ⟨k - 1, by omega⟩
    by_cases hlt : i < j
    · simp only [impl_MapEntry_int.l0]
      have hmid : (i + j) / 2 < xs.length := by omega
      rw [if_pos (by omega), wmid i j (by omega), if_pos (by omega), if_pos (by omega), rd_39_nat _ _ hmid, find1_eq]
      simp only [Option.bind_some]
      by_cases hc : xs[(i + j) / 2].f0 < key
      · rw [if_pos hc, if_pos (by omega), wrap_succ (by omega)]
        refine ih k ((i + j) / 2 + 1) j (by omega) hj (by omega) (by omega) (fun t ht htl => ?_) h2
        rcases Nat.lt_or_ge t ((i + j) / 2) with h | h
        · have := hm.lt' t ((i + j) / 2) h hmid; omega
        · have : t = (i + j) / 2 := by omega
          subst this; exact hc
      · rw [if_neg hc, if_neg (by split <;> omega)]
        refine ih k i ((i + j) / 2) (by omega) (by omega) (by omega) (by omega) h1 (fun t ht htl => ?_)
        rcases Nat.lt_or_ge ((i + j) / 2) t with h | h
        · have := hm.lt' ((i + j) / 2) t h ht; omega
        · have : t = (i + j) / 2 := by omega
          subst this; omega
    · obtain ⟨p, q⟩ := ih (k + 1) i j hij hj (by omega) (by omega) h1 h2
      exact ⟨p, q⟩
theorem find_eq (xs : List S39) (key : Int) (hm : MOk xs) (k : Nat) (hk : 20 < k) :
    ∃ p : Nat, p ≤ xs.length ∧ (∀ t, (ht : t < xs.length) → t < p → xs[t].f0 < key) ∧ (∀ t, (ht : t < xs.length) → p ≤ t → key ≤ xs[t].f0) ∧ impl_MapMap_find.f k xs key = some ((p : Int), hitB xs p key) := by
  have hn : xs.length ≤ 8 := hm.1
  obtain ⟨p, h1, h2, h3, h4⟩ := find_l0 xs key hm xs.length k 0 xs.length (Nat.zero_le _) (Nat.le_refl _) (by omega) (by omega) (fun t _ h => absurd h (Nat.not_lt_zero t)) (fun t ht h => absurd ht (by omega))
  refine ⟨p, h1, h2, h3, ?_⟩
  unfold impl_MapMap_find.f impl_MapEntry_int.f
  rw [show impl_MapEntry_int.l0 k xs key (xs.length : Int) 0 (xs.length : Int) = _ from h4]; rfl
theorem cloneM_eq (l : List S39) (hn : l.length ≤ 1048576) : impl_MapEntry_41.f l = some l := by
  unfold impl_MapEntry_41.f
  simp only [Option.bind_some, List.nil_append, List.length_nil]
  rw [if_pos (by omega)]
theorem copyM_eq (l : List S39) (hn : l.length ≤ 1048576) : impl_MapMap_copy.f l = some l := by
  unfold impl_MapMap_copy.f
  rw [cloneM_eq l hn]; rfl

/-- The reference's way through the entries from one on. -/
def goPut (xs : List S39) (key val : Int) : List S39 → List S39 → Bool → List S39 × Int × Int
  | [], out, dn => if (if dn = true then out else out ++ [⟨key, val⟩]).length > 8 then (xs, 3, 0) else ((if dn = true then out else out ++ [⟨key, val⟩]), 2, 0)
  | e :: r, out, dn => if e.f0 = key then (xs, 1, 0) else if dn = true then goPut xs key val r (out ++ [e]) true else if e.f0 > key then goPut xs key val r (out ++ [⟨key, val⟩] ++ [e]) true else goPut xs key val r (out ++ [e]) false
theorem goPut_length (xs : List S39) (key val : Int) (hx : xs.length ≤ 8) (l : List S39) : ∀ (out : List S39) (dn : Bool), (goPut xs key val l out dn).1.length ≤ 8 := by
  induction l with
  | nil =>
    intro out dn; unfold goPut
    by_cases h : (if dn = true then out else out ++ [(⟨key, val⟩ : S39)]).length > 8
    · rw [if_pos h]; exact hx
    · rw [if_neg h]; exact Nat.le_of_not_lt h
  | cons e r ih =>
    intro out dn
    unfold goPut
    split
    · exact hx
    · split
      · exact ih _ _
      · split
        · exact ih _ _
        · exact ih _ _
theorem specPut_l0 (xs : List S39) (key val : Int) (hn : xs.length ≤ 1048576) (d : Nat) : ∀ (k i : Nat) (out : List S39) (dn : Bool), i + d = xs.length → d < k → out.length ≤ 2 * i + 1 → spec_MapPut.l0 k key val dn (i : Int) xs out = some (goPut xs key val (xs.drop i) out dn) := by
  induction d with
  | zero =>
    intro k i out dn hi hk ho
    obtain ⟨k, rfl⟩ : ∃ m, k = m + 1 := ⟨k - 1, by omega⟩
    simp only [spec_MapPut.l0, Option.bind_some, List.nil_append, List.length_nil]
    rw [if_neg (by omega), List.drop_eq_nil_of_le (by omega)]
    unfold goPut
    cases dn
    · simp only [Bool.false_eq_true, if_false]
      rw [if_pos (by omega)]
      by_cases h : (out ++ [(⟨key, val⟩ : S39)]).length > 8
      · rw [if_pos (by omega), if_pos (by omega), if_pos h]
      · rw [if_neg (by omega), if_neg h]
    · simp only [if_true]
      by_cases h : out.length > 8
      · rw [if_pos (by omega), if_pos (by omega), if_pos h]
      · rw [if_neg (by omega), if_neg h]
  | succ d ih =>
    intro k i out dn hi hk ho
    obtain ⟨k, rfl⟩ : ∃ m, k = m + 1 := ⟨k - 1, by omega⟩
    have hi' : i < xs.length := by omega
    simp only [spec_MapPut.l0, Option.bind_some, List.nil_append, List.length_nil]
    rw [if_pos (by omega), if_pos (by omega), wrap_succ (by omega), List.drop_eq_getElem_cons hi', rd_39_nat _ _ hi']
    unfold goPut
    by_cases h : xs[i].f0 = key
    · rw [if_pos h, if_pos (by omega), if_pos h]
    · rw [if_neg h, if_neg h]
      cases dn
      · simp only [Bool.false_eq_true, if_false]
        by_cases h2 : xs[i].f0 > key
        · rw [if_pos h2, if_pos (by omega), if_pos h2, if_pos (by rw [List.length_append, List.length_singleton]; omega)]
          exact ih k (i + 1) _ true (by omega) (by omega) (by rw [List.length_append, List.length_append, List.length_singleton, List.length_singleton]; omega)
        · rw [if_neg h2, if_pos (by omega), if_neg h2]
          exact ih k (i + 1) _ false (by omega) (by omega) (by rw [List.length_append, List.length_singleton]; omega)
      · simp only [if_true]
        rw [if_pos (by omega)]
        exact ih k (i + 1) _ true (by omega) (by omega) (by rw [List.length_append, List.length_singleton]; omega)
/-- What the reference's MapPut tells. -/
def putS (xs : List S39) (key val : Int) : List S39 × Int × Int := if MOk xs ∧ (0 ≤ key ∧ key ≤ 99) ∧ (0 ≤ val ∧ val ≤ 999) then goPut xs key val xs [] false else ([], 0, 0)
theorem putS_length (xs : List S39) (key val : Int) : (putS xs key val).1.length ≤ 8 := by
  unfold putS
  split
  · rename_i h; exact goPut_length xs key val h.1.1 xs [] false
  · exact Nat.zero_le _
theorem specMapPut_eq (xs : List S39) (key val : Int) (hn : xs.length ≤ 1048576) (k : Nat) (hk : xs.length + 1 < k) : spec_MapPut.f k xs key val = some (putS xs key val) := by
  obtain ⟨k, rfl⟩ : ∃ m, k = m + 1 := ⟨k - 1, by omega⟩
  have hj : ∀ t, spec_MapPut.j0 (k + 1) key val t xs = if t = true then some ([], 0, 0) else spec_MapPut.l0 k key val false 0 xs [] := fun t => by simp only [spec_MapPut.j0]
  have hl : spec_MapPut.l0 k key val false 0 xs [] = some (goPut xs key val xs [] false) := specPut_l0 xs key val hn xs.length k 0 [] false (by omega) (by omega) (by simp)
  unfold spec_MapPut.f putS
  rw [specMapOk_eq xs (by omega) _ (by omega)]
  simp only [Option.bind_some, hj, hl, l1In_eq, mokB, decide_eq_true_eq]
  by_cases h1 : MOk xs
  · rw [if_pos h1]
    by_cases h2 : 0 ≤ key ∧ key ≤ 99
    · rw [if_pos h2]
      by_cases h3 : 0 ≤ val ∧ val ≤ 999
      · rw [if_neg (by simp [h3]), if_pos (show MOk xs ∧ _ from ⟨h1, h2, h3⟩)]
      · rw [if_pos (by simp only [decide_eq_false h3]; rfl), if_neg (fun h => h3 h.2.2)]
    · rw [if_neg h2, if_pos trivial, if_neg (fun h => h2 h.2.1)]
  · rw [if_neg h1, if_pos trivial, if_neg (fun h => h1 h.1)]

theorem insM_eq (l : List S39) (p : Nat) (x : S39) (hp : p ≤ l.length) (hn : l.length ≤ 1000000) : impl_MapEntry_47.f l (p : Int) [x] = some (l.take p ++ [x] ++ l.drop p) := by
  unfold impl_MapEntry_47.f Go.Proofs.Ytabihpjgkkmnjaa.Ins39.f
  rw [if_pos (by omega), if_pos (by omega), if_pos hn, if_pos (show [x].length = 1 from rfl), Int.toNat_natCast]
theorem goPut_pre (xs : List S39) (key val : Int) (r l : List S39) : ∀ out, (∀ e ∈ l, e.f0 < key) → goPut xs key val (l ++ r) out false = goPut xs key val r (out ++ l) false := by
  induction l with
  | nil => intro out _; simp
  | cons e l ih =>
    intro out h
    have he := h e List.mem_cons_self
    rw [List.cons_append, goPut, if_neg (by omega), if_neg (by simp), if_neg (by omega), ih _ (fun e' h' => h e' (List.mem_cons_of_mem _ h'))]
    simp
theorem goPut_post (xs : List S39) (key val : Int) (l : List S39) : ∀ out, (∀ e ∈ l, key < e.f0) → goPut xs key val l out true = if (out ++ l).length > 8 then (xs, 3, 0) else (out ++ l, 2, 0) := by
  induction l with
  | nil => intro out _; simp [goPut]
  | cons e l ih =>
    intro out h
    have he := h e List.mem_cons_self
    rw [goPut, if_neg (by omega), if_pos rfl, ih _ (fun e' h' => h e' (List.mem_cons_of_mem _ h'))]
    simp
/-- The reference's way, by the place. -/
theorem goPut_place (xs : List S39) (key val : Int) (hm : MOk xs) (p : Nat) (hp : p ≤ xs.length) (h1 : ∀ t, (ht : t < xs.length) → t < p → xs[t].f0 < key) (h2 : ∀ t, (ht : t < xs.length) → p ≤ t → key ≤ xs[t].f0) :
    goPut xs key val xs [] false = if hitB xs p key = true then (xs, 1, 0) else if xs.length = 8 then (xs, 3, 0) else (xs.take p ++ [⟨key, val⟩] ++ xs.drop p, 2, 0) := by
  have hpre : goPut xs key val (xs.take p ++ xs.drop p) [] false = goPut xs key val (xs.drop p) (xs.take p) false := by
    have := goPut_pre xs key val (xs.drop p) (xs.take p) [] (fun e he => by
      obtain ⟨t, ht, rfl⟩ := List.getElem_of_mem he
      have hl : t < p ∧ t < xs.length := by rw [List.length_take] at ht; omega
      rw [List.getElem_take]
      exact h1 t hl.2 hl.1)
    simpa using this
  rw [List.take_append_drop] at hpre
  rw [hpre]
  have hn8 : xs.length ≤ 8 := hm.1
  by_cases hlt : p < xs.length
  · rw [List.drop_eq_getElem_cons hlt, goPut]
    rw [hitB_lt xs p key hlt]
    by_cases he : xs[p].f0 = key
    · rw [if_pos he, if_pos (by simp [he])]
    · have := h2 p hlt (Nat.le_refl p)
      rw [if_neg he, if_neg (by simp), if_pos (by omega), if_neg (by simp [he]), goPut_post]
      · have hlen : (xs.take p ++ [(⟨key, val⟩ : S39)] ++ [xs[p]] ++ xs.drop (p + 1)).length = xs.length + 1 := by simp; omega
        rw [hlen]
        by_cases h8 : xs.length = 8
        · rw [if_pos (by omega), if_pos h8]
        · rw [if_neg (by omega), if_neg h8]; simp
      · intro e he'
        obtain ⟨t, ht, rfl⟩ := List.getElem_of_mem he'
        rw [List.length_drop] at ht
        rw [List.getElem_drop]
        have h3 := hm.lt' p (p + 1 + t) (by omega) (by omega)
        omega
  · have hpe : p = xs.length := by omega
    subst hpe
    rw [List.drop_length, List.take_length, goPut]
    rw [hitB_ge xs xs.length key (Nat.le_refl _)]
    simp only [Bool.false_eq_true, if_false]
    have hlen : (xs ++ [(⟨key, val⟩ : S39)]).length = xs.length + 1 := by simp
    rw [hlen]
    by_cases h8 : xs.length = 8
    · rw [if_pos (by omega), if_pos h8]
    · rw [if_neg (by omega), if_neg h8]; simp
theorem implMapPut_eq (xs : List S39) (key val : Int) (hn : xs.length ≤ 1048576) (k : Nat) (hk : xs.length + 30 < k) : impl_MapPut.f k xs key val = some (putS xs key val) := by
  obtain ⟨k, rfl⟩ : ∃ m, k = m + 1 := ⟨k - 1, by omega⟩
  unfold impl_MapPut.f putS
  rw [implMapOk_eq xs hn _ (by omega)]
  simp only [Option.bind_some, isKey_eq, isVal_eq, impl_MapPut.j0, mokB, decide_eq_true_eq]
  by_cases h1 : MOk xs
  · rw [if_pos h1]
    by_cases h2 : 0 ≤ key ∧ key ≤ 99
    · rw [if_pos h2]
      by_cases h3 : 0 ≤ val ∧ val ≤ 999
      · rw [if_neg (by simp [h3]), if_pos (show MOk xs ∧ _ from ⟨h1, h2, h3⟩)]
        obtain ⟨p, hp, a1, a2, e⟩ := find_eq xs key h1 k (by omega)
        rw [e, goPut_place xs key val h1 p hp a1 a2]
        simp only [Option.bind_some]
        have h8 := h1.1
        by_cases hb : hitB xs p key = true
        · rw [if_pos hb, if_pos hb, copyM_eq xs hn]; rfl
        · rw [if_neg hb, if_neg hb]
          by_cases h9 : xs.length = 8
          · rw [if_pos (by omega), if_pos h9, copyM_eq xs hn]; rfl
          · rw [if_neg (by omega), if_neg h9, cloneM_eq xs hn]
            simp only [Option.bind_some]
            rw [insM_eq xs p _ hp (by omega)]; rfl
      · rw [if_pos (by simp only [decide_eq_false h3]; rfl), if_neg (fun h => h3 h.2.2)]
    · rw [if_neg h2, if_pos trivial, if_neg (fun h => h2 h.2.1)]
  · rw [if_neg h1, if_pos trivial, if_neg (fun h => h1 h.1)]

/-- A marked element. -/
def mkMapEntry (s : Nat) : S39 := ⟨((s + 0 : Nat) : Int), ((s + 1 : Nat) : Int)⟩
theorem rdMapEntry_set (xs : List S39) (i : Nat) (v : S39) (h : i < xs.length) : rd_T39 (xs.set i v) (i : Int) = v := by simp [rd_T39, h]
theorem markMapEntryS_step (ys : List S39) (s i k : Nat) (hi : i < ys.length) (hs : s ≤ 30000000) (hb : i ≤ 1048576) : laws_markMapEntryS.l0 (k + 1) ys (s : Int) (i : Int) = laws_markMapEntryS.l0 k (ys.set i (mkMapEntry s)) ((s + 2 : Nat) : Int) ((i + 1 : Nat) : Int) := by
  have w0 := wrap_succ (i := s + 0) (by omega)
  have w1 := wrap_succ (i := s + 1) (by omega)
  simp only [Nat.add_zero, Nat.add_assoc, Nat.reduceAdd] at w0 w1
  simp only [laws_markMapEntryS.l0, Option.bind_some, Int.toNat_natCast]
  rw [if_pos (by omega), if_pos (by omega), wrap_succ (i := i) (by omega)]
  simp only [w0, w1]
  simp [rdMapEntry_set, hi, List.set_set, mkMapEntry]
def mkMapEntryL (s n : Nat) : List S39 := (List.range n).map fun j => mkMapEntry (s + 2 * j)
theorem mkMapEntryL_length (s n : Nat) : (mkMapEntryL s n).length = n := by simp [mkMapEntryL]
theorem mkMapEntryL_get (s n j : Nat) (h : j < n) : (mkMapEntryL s n)[j]? = some (mkMapEntry (s + 2 * j)) := by simp [mkMapEntryL, h]
theorem markMapEntryS_l0 (s n : Nat) (hn : n ≤ 1048576) (hs : s ≤ 10000000) (d : Nat) : ∀ (k i : Nat) (ys : List S39), ys.length = n → i + d = n → d < k → (∀ j, j < i → ys[j]? = (mkMapEntryL s n)[j]?) → laws_markMapEntryS.l0 k ys ((s + 2 * i : Nat) : Int) (i : Int) = some (((s + 2 * n : Nat) : Int), mkMapEntryL s n) := by
  induction d with
  | zero =>
    intro k i ys hl hi hk hj
    obtain ⟨k, rfl⟩ : ∃ m, k = m + 1 := ⟨k - 1, by omega⟩
    simp only [laws_markMapEntryS.l0]; rw [if_neg (by omega), show i = n by omega, some_of_ext (by rw [mkMapEntryL_length]; exact hl) (fun j hj' => hj j (by rw [mkMapEntryL_length] at hj'; omega))]
  | succ d ih =>
    intro k i ys hl hi hk hj
    obtain ⟨k, rfl⟩ : ∃ m, k = m + 1 := ⟨k - 1, by omega⟩
    rw [markMapEntryS_step ys _ i k (by omega) (by omega) (by omega), show s + 2 * i + 2 = s + 2 * (i + 1) from by omega]
    apply ih k (i + 1) _ (by simp [hl]) (by omega) (by omega)
    intro j hj'
    rw [List.getElem?_set]
    by_cases h : i = j
    · subst h; rw [if_pos rfl, if_pos (by omega), mkMapEntryL_get s n i (by omega)]
    · rw [if_neg h]; exact hj j (by omega)
theorem markMapEntryS_eq (s : Nat) (l : List S39) (hn : l.length ≤ 1048576) (hs : s ≤ 10000000) (k : Nat) (hk : l.length < k) : laws_markMapEntryS.f k l (s : Int) = some (((s + 2 * l.length : Nat) : Int), mkMapEntryL s l.length) := by
  unfold laws_markMapEntryS.f
  exact markMapEntryS_l0 s l.length hn hs l.length k 0 l rfl (by omega) hk (fun j hj => absurd hj (Nat.not_lt_zero j))

theorem markMap_eq (s : Nat) (l : List S39) (hn : l.length ≤ 1048576) (hs : s ≤ 10000000) (k : Nat) (hk : l.length < k) : laws_markMapMap.f k l (s : Int) = some (((s + 2 * l.length : Nat) : Int), mkMapEntryL s l.length) := by
  unfold laws_markMapMap.f
  rw [markMapEntryS_eq s l hn hs k hk]; rfl

theorem heldMapEntryS_l0 (s n : Nat) (hn : n ≤ 1048576) (hs : s ≤ 10000000) (d : Nat) : ∀ (k i : Nat), i + d = n → d < k → laws_heldMapEntryS.l0 k (mkMapEntryL s n) ((s + 2 * i : Nat) : Int) (i : Int) = some ((s + 2 * n : Nat) : Int) := by
  induction d with
  | zero =>
    intro k i hi hk
    obtain ⟨k, rfl⟩ : ∃ m, k = m + 1 := ⟨k - 1, by omega⟩
    simp only [laws_heldMapEntryS.l0]; rw [if_neg (by rw [mkMapEntryL_length]; omega), show i = n by omega]
  | succ d ih =>
    intro k i hi hk
    obtain ⟨k, rfl⟩ : ∃ m, k = m + 1 := ⟨k - 1, by omega⟩
    have hi' : i < (mkMapEntryL s n).length := by rw [mkMapEntryL_length]; omega
    have hg := mkMapEntryL_get s n i (by omega)
    rw [List.getElem?_eq_getElem hi'] at hg
    have hg' := Option.some.inj hg
    have w0 := wrap_succ (i := s + 2 * i + 0) (by omega)
    have w1 := wrap_succ (i := s + 2 * i + 1) (by omega)
    simp only [Nat.add_zero, Nat.add_assoc, Nat.reduceAdd] at w0 w1
    simp only [laws_heldMapEntryS.l0]
    rw [if_pos (by omega), if_pos (by omega), rd_39_nat _ _ hi', hg', wrap_succ (i := i) (by omega)]
    simp only [mkMapEntry, w0, w1, Nat.add_zero, Nat.add_assoc, bne_self_eq_false, Bool.false_eq_true, if_true, if_false]
    have := ih k (i + 1) (by omega) (by omega)
    rw [show s + (2 * i + 2) = s + 2 * (i + 1) from by omega]
    exact this
theorem heldMapEntryS_eq (s n : Nat) (hn : n ≤ 1048576) (hs : s ≤ 10000000) (k : Nat) (hk : n < k) : laws_heldMapEntryS.f k (mkMapEntryL s n) (s : Int) = some ((s + 2 * n : Nat) : Int) := by
  unfold laws_heldMapEntryS.f
  exact heldMapEntryS_l0 s n hn hs n k 0 (by omega) hk

theorem heldMap_eq (s n : Nat) (hn : n ≤ 1048576) (hs : s ≤ 10000000) (k : Nat) (hk : n < k) : laws_heldMapMap.f k (mkMapEntryL s n) (s : Int) = some ((s + 2 * n : Nat) : Int) := by
  unfold laws_heldMapMap.f
  rw [heldMapEntryS_eq s n hn hs k hk]; simp only [Option.bind_some]; rw [if_neg (by omega)]

theorem final (l : List S79) (key : Int) (val : Int) (hm : l.length ≤ 9223372036854775807) (_ : (Lit.int .i64 key).wf = true) (_ : (Lit.int .i64 val).wf = true) : ∃ k, laws_FnExactMapPut.f k l key val = some true := by
  obtain ⟨K, hK⟩ : ∃ K, 3000000 ≤ K := ⟨3000000, Nat.le_refl _⟩
  refine ⟨K, ?_⟩
  unfold laws_FnExactMapPut.f
  rw [szMap_eq l hm]
  simp only [Option.bind_some]
  by_cases hn : l.length ≤ 1048576
  · have hn' : (l.map cvMapEntry).length ≤ 1048576 := by rw [List.length_map]; exact hn
    have e1 := toMap_eq l hn K (by omega)
    generalize l.map cvMapEntry = L at e1 hn'
    have hs := specMapPut_eq L key val hn' K (by omega)
    have hi := implMapPut_eq L key val hn' K (by omega)
    have hr : (putS L key val).1.length ≤ 1048576 := Nat.le_trans (putS_length _ _ _) (by omega)
    generalize putS L key val = r at hs hi hr
    obtain ⟨r, x, y⟩ := r
    dsimp only at hr
    have e2 := eqMap_refl L hn' K (by omega)
    have e3 := eqMap_refl r (by omega) K (by omega)
    have e4 := eqRes_refl x y
    have e5 : laws_markMapMap.f K L 1 = _ := markMap_eq 1 L hn' (by omega) K (by omega)
    have e6 : laws_markMapMap.f K r 1 = _ := markMap_eq 1 r (by omega) (by omega) K (by omega)
    have e7 : laws_heldMapMap.f K (mkMapEntryL 1 r.length) 1 = _ := heldMap_eq 1 r.length (by omega) (by omega) K (by omega)
    have n0 : ∀ m : Nat, ¬ (((1 + 2 * m : Nat) : Int) < 0) := fun m => by omega
    rw [if_pos hn, if_neg (by omega)]
    simp only [e1, hs, hi, Option.bind_some, e2, e3, e4, e5, e6, e7, if_true, n0, if_false]
  · rw [if_neg hn, if_pos (by omega)]
end FnExactMapPut_

theorem FnExactMapPut : ∀ (l : List S79) (key : Int) (val : Int) (hm : l.length ≤ 9223372036854775807) (_ : (Lit.int .i64 key).wf = true) (_ : (Lit.int .i64 val).wf = true), ∃ k, laws_FnExactMapPut.f k l key val = some true := FnExactMapPut_.final

end Go.Proofs.Ytabihpjgkkmnjaa.Pure
