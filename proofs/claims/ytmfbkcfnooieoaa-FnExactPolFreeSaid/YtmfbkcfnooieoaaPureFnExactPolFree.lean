/-
  PolFree is the reference's, for all pools and numbers. Conditions: none.
-/
import Derived.Test.YtmfbkcfnooieoaaGFnExactPolFreex1
import Derived.Test.YtmfbkcfnooieoaaGFnExactPolFreex2
import Derived.Test.YtmfbkcfnooieoaaGFnExactPolFreex3
import Derived.Test.YtmfbkcfnooieoaaGFnExactPolFreex4
import Derived.Test.YtmfbkcfnooieoaaGFnExactPolFreex5
import Derived.Test.YtmfbkcfnooieoaaGFnExactPolFreex6
namespace Go.Proofs.Ytmfbkcfnooieoaa.Pure
open Go.RowKit Go.Proofs.Ytmfbkcfnooieoaa.GFnExactPolFree Go.Proofs.YtmfbkcfnooieoaaW.PrintWords Go.Proofs.YtmfbkcfnooieoaaW.PrintLast
set_option linter.unusedVariables false
set_option linter.unusedSimpArgs false

namespace FnExactPolFree_
theorem wrap_nat {i : Nat} (h : i ≤ 40000000) : wrap64 (i : Int) = i := by unfold wrap64; omega
theorem wrap_succ {i : Nat} (h : i ≤ 40000000) : wrap64 ((i : Int) + 1) = ((i + 1 : Nat) : Int) := by unfold wrap64; omega
theorem wrap_pred {i : Nat} (h0 : 0 < i) (h : i ≤ 40000000) : wrap64 ((i : Int) - 1) = ((i - 1 : Nat) : Int) := by unfold wrap64; omega
theorem some_of_ext {α : Type} {ys zs : List α} (hl : ys.length = zs.length) (h : ∀ j, j < zs.length → ys[j]? = zs[j]?) : ys = zs := by
  apply List.ext_getElem?
  intro j
  by_cases hj : j < zs.length
  · exact h j hj
  · rw [List.getElem?_eq_none (by omega), List.getElem?_eq_none (by omega)]

theorem rd_nat (xs : List Int) (i : Nat) (h : i < xs.length) : rd xs (i : Int) = xs[i] := by simp [rd, h]

theorem toIntS_l0 (xs : List Int) (hn : xs.length ≤ 1048576) (d : Nat) : ∀ (k i : Nat) (ys : List Int), ys.length = xs.length → i + d = xs.length → d < k → (∀ j, j < i → ys[j]? = xs[j]?) → laws_toIntS.l0 k xs ys (i : Int) = some xs := by
  induction d with
  | zero =>
    intro k i ys hl hi hk hj
    obtain ⟨k, rfl⟩ : ∃ m, k = m + 1 := ⟨k - 1, by omega⟩
    simp only [laws_toIntS.l0]; rw [if_neg (by omega)]
    congr 1
    exact some_of_ext hl (fun j hj' => hj j (by omega))
  | succ d ih =>
    intro k i ys hl hi hk hj
    obtain ⟨k, rfl⟩ : ∃ m, k = m + 1 := ⟨k - 1, by omega⟩
    simp only [laws_toIntS.l0]
    rw [if_pos (by omega), if_pos (by omega), if_pos (by omega), wrap_succ (by omega)]
    apply ih k (i + 1) _ (by simp [hl]) (by omega) (by omega)
    intro j hj'
    rw [Int.toNat_natCast, List.getElem?_set]
    by_cases h : i = j
    · subst h; rw [if_pos rfl, if_pos (by omega), rd_nat _ _ (by omega), List.getElem?_eq_getElem]
    · rw [if_neg h]; exact hj j (by omega)
theorem toIntS_eq (xs : List Int) (hn : xs.length ≤ 1048576) (k : Nat) (hk : xs.length < k) : laws_toIntS.f k xs = some xs := by
  unfold laws_toIntS.f
  rw [if_pos (by omega), if_pos (by omega)]
  exact toIntS_l0 xs hn xs.length k 0 _ (by simp) (by omega) hk (fun j hj => absurd hj (Nat.not_lt_zero j))

theorem eqIntS_l0 (xs : List Int) (hn : xs.length ≤ 1048576) (d : Nat) : ∀ (k i : Nat), i + d = xs.length → d < k → laws_eqIntS.l0 k xs xs (i : Int) = some true := by
  induction d with
  | zero =>
    intro k i hi hk
    obtain ⟨k, rfl⟩ : ∃ m, k = m + 1 := ⟨k - 1, by omega⟩
    simp only [laws_eqIntS.l0]; rw [if_neg (by omega)]
  | succ d ih =>
    intro k i hi hk
    obtain ⟨k, rfl⟩ : ∃ m, k = m + 1 := ⟨k - 1, by omega⟩
    simp only [laws_eqIntS.l0]
    rw [if_pos (by omega), if_pos (by omega), if_pos (by omega), if_pos trivial, wrap_succ (by omega)]
    exact ih k (i + 1) (by omega) (by omega)
theorem eqIntS_refl (xs : List Int) (hn : xs.length ≤ 1048576) (k : Nat) (hk : xs.length < k) : laws_eqIntS.f k xs xs = some true := by
  unfold laws_eqIntS.f
  rw [if_pos rfl]
  exact eqIntS_l0 xs hn xs.length k 0 (by omega) hk

theorem rd_104_nat (xs : List S104) (i : Nat) (h : i < xs.length) : rd_T104 xs (i : Int) = xs[i] := by simp [rd_T104, h]

theorem rd_82_nat (xs : List S82) (i : Nat) (h : i < xs.length) : rd_T82 xs (i : Int) = xs[i] := by simp [rd_T82, h]

def cvPolOld (x : S104) : S82 := ⟨x.f0, x.f1⟩
theorem toPolOldS_l0 (xs : List S104) (hn : xs.length ≤ 1048576) (d : Nat) : ∀ (k i : Nat) (ys : List S82), ys.length = xs.length → i + d = xs.length → d < k → (∀ j, j < i → ys[j]? = (xs.map cvPolOld)[j]?) → laws_toPolOldS.l0 k xs ys (i : Int) = some (xs.map cvPolOld) := by
  induction d with
  | zero =>
    intro k i ys hl hi hk hj
    obtain ⟨k, rfl⟩ : ∃ m, k = m + 1 := ⟨k - 1, by omega⟩
    simp only [laws_toPolOldS.l0]; rw [if_neg (by omega)]
    congr 1
    exact some_of_ext (by simpa using hl) (fun j hj' => hj j (by rw [List.length_map] at hj'; omega))
  | succ d ih =>
    intro k i ys hl hi hk hj
    obtain ⟨k, rfl⟩ : ∃ m, k = m + 1 := ⟨k - 1, by omega⟩
    simp only [laws_toPolOldS.l0, laws_toPolOld.f, Option.bind_some]
    rw [if_pos (by omega), if_pos (by omega), if_pos (by omega), wrap_succ (by omega)]
    apply ih k (i + 1) _ (by simp [hl]) (by omega) (by omega)
    intro j hj'
    rw [Int.toNat_natCast, List.getElem?_set]
    by_cases h : i = j
    · subst h; rw [if_pos rfl, if_pos (by omega), rd_104_nat _ _ (by omega), List.getElem?_eq_getElem (by rw [List.length_map]; omega), List.getElem_map]; rfl
    · rw [if_neg h]; exact hj j (by omega)
theorem toPolOldS_eq (xs : List S104) (hn : xs.length ≤ 1048576) (k : Nat) (hk : xs.length < k) : laws_toPolOldS.f k xs = some (xs.map cvPolOld) := by
  unfold laws_toPolOldS.f
  rw [if_pos (by omega), if_pos (by omega)]
  exact toPolOldS_l0 xs hn xs.length k 0 _ (by simp) (by omega) hk (fun j hj => absurd hj (Nat.not_lt_zero j))

theorem eqPolOldS_l0 (xs : List S82) (hn : xs.length ≤ 1048576) (d : Nat) : ∀ (k i : Nat), i + d = xs.length → d < k → laws_eqPolOldS.l0 k xs xs (i : Int) = some true := by
  induction d with
  | zero =>
    intro k i hi hk
    obtain ⟨k, rfl⟩ : ∃ m, k = m + 1 := ⟨k - 1, by omega⟩
    simp only [laws_eqPolOldS.l0]; rw [if_neg (by omega)]
  | succ d ih =>
    intro k i hi hk
    obtain ⟨k, rfl⟩ : ∃ m, k = m + 1 := ⟨k - 1, by omega⟩
    simp only [laws_eqPolOldS.l0]
    rw [if_pos (by omega), if_pos (by omega), if_pos (by omega), wrap_succ (by omega)]
    rw [show laws_eqPolOld.f (rd_T82 xs (i : Int)).f0 (rd_T82 xs (i : Int)).f1 (rd_T82 xs (i : Int)).f0 (rd_T82 xs (i : Int)).f1 = some true from by simp [laws_eqPolOld.f]]
    simp only [Option.bind_some, if_true]
    exact ih k (i + 1) (by omega) (by omega)
theorem eqPolOldS_refl (xs : List S82) (hn : xs.length ≤ 1048576) (k : Nat) (hk : xs.length < k) : laws_eqPolOldS.f k xs xs = some true := by
  unfold laws_eqPolOldS.f
  rw [if_pos rfl]
  exact eqPolOldS_l0 xs hn xs.length k 0 (by omega) hk

theorem l1In_eq (a b c : Int) : spec_l1In.f a b c = some (decide (b ≤ a ∧ a ≤ c)) := by
  unfold spec_l1In.f
  by_cases h : a ≥ b
  · rw [if_pos h]; congr 1; exact decide_eq_decide.2 ⟨fun h2 => ⟨h, h2⟩, fun h2 => h2.2⟩
  · rw [if_neg h]; congr 1; exact (decide_eq_false (fun h2 => h h2.1)).symm

theorem rd_L4_nat (xs : List (List S104)) (i : Nat) (h : i < xs.length) : rd_L4 xs (i : Int) = xs[i] := by simp [rd_L4, h]
theorem rd_L2_nat (xs : List (List S82)) (i : Nat) (h : i < xs.length) : rd_L2 xs (i : Int) = xs[i] := by simp [rd_L2, h]
theorem szRows_l0 (xs : List (List S104)) (hi : ∀ x ∈ xs, x.length ≤ 9223372036854775807) (hn : xs.length ≤ 1048576) (d : Nat) : ∀ (k i a : Nat), i + d = xs.length → d < k → a ≤ 1048576 → ∃ r, laws_szPolOldSS.l0 k xs (a : Int) (i : Int) = some r ∧ (0 ≤ r → ∀ j (h : j < xs.length), i ≤ j → xs[j].length ≤ 1048576) := by
  induction d with
  | zero =>
    intro k i a he hk ha
    obtain ⟨k, rfl⟩ : ∃ m, k = m + 1 := ⟨k - 1, by omega⟩
    simp only [laws_szPolOldSS.l0]
    rw [if_neg (by omega)]
    exact ⟨_, rfl, fun _ j h hj => absurd hj (by omega)⟩
  | succ d ih =>
    intro k i a he hk ha
    obtain ⟨k, rfl⟩ : ∃ m, k = m + 1 := ⟨k - 1, by omega⟩
    have hl : i < xs.length := by omega
    have hx := hi xs[i] (List.getElem_mem hl)
    simp only [laws_szPolOldSS.l0, laws_szPolOldS.f]
    rw [if_pos (by omega), if_pos (by omega), rd_L4_nat xs i hl]
    have hw : wrap64 ((a : Int) - (xs[i].length : Int)) = (a : Int) - (xs[i].length : Int) := by unfold wrap64; omega
    rw [hw]
    by_cases h : (a : Int) - (xs[i].length : Int) < 0
    · rw [if_pos h]
      exact ⟨-1, rfl, fun h0 => absurd h0 (by omega)⟩
    · rw [if_neg h]
      simp only [Option.bind_some]
      rw [if_neg h, wrap_succ (by omega), show (a : Int) - (xs[i].length : Int) = ((a - xs[i].length : Nat) : Int) by omega]
      obtain ⟨r, hr, hr2⟩ := ih k (i + 1) (a - xs[i].length) (by omega) (by omega) (by omega)
      refine ⟨r, hr, fun h0 j hj hij => ?_⟩
      by_cases e : j = i
      · subst e; omega
      · exact hr2 h0 j hj (by omega)
theorem szPool_eq (e : Int) (p : List Int) (l : List (List S104)) (hp : p.length ≤ 9223372036854775807) (hl : l.length ≤ 9223372036854775807) (hi : ∀ x ∈ l, x.length ≤ 9223372036854775807) (k : Nat) (hk : 1048577 < k) :
    ∃ r, laws_szPolPool.f k e p l 1048576 = some r ∧ (0 ≤ r → p.length ≤ 1048576 ∧ l.length ≤ 1048576 ∧ ∀ x ∈ l, x.length ≤ 1048576) := by
  unfold laws_szPolPool.f laws_szIntS.f laws_szPolOldSS.f
  have hw : wrap64 (1048576 - (p.length : Int)) = 1048576 - (p.length : Int) := by unfold wrap64; omega
  rw [hw]
  by_cases h : (1048576 : Int) - (p.length : Int) < 0
  · rw [if_pos h]; exact ⟨-1, rfl, fun h0 => absurd h0 (by omega)⟩
  · rw [if_neg h]
    simp only [Option.bind_some]
    rw [if_neg h]
    have hw2 : wrap64 (1048576 - (p.length : Int) - (l.length : Int)) = 1048576 - (p.length : Int) - (l.length : Int) := by unfold wrap64; omega
    rw [hw2]
    by_cases h2 : (1048576 : Int) - (p.length : Int) - (l.length : Int) < 0
    · rw [if_pos h2]; exact ⟨-1, rfl, fun h0 => absurd h0 (by omega)⟩
    · rw [if_neg h2, show (1048576 : Int) - (p.length : Int) - (l.length : Int) = ((1048576 - p.length - l.length : Nat) : Int) by omega]
      obtain ⟨r, hr, hr2⟩ := szRows_l0 l hi (by omega) l.length k 0 (1048576 - p.length - l.length) (by omega) (by omega) (by omega)
      have hr' : laws_szPolOldSS.l0 k l ((1048576 - p.length - l.length : Nat) : Int) 0 = some r := hr
      rw [hr']
      simp only [Option.bind_some]
      by_cases h3 : r < 0
      · rw [if_pos h3]; exact ⟨-1, rfl, fun h0 => absurd h0 (by omega)⟩
      · rw [if_neg h3]
        refine ⟨r, rfl, fun h0 => ⟨by omega, by omega, fun x hx => ?_⟩⟩
        obtain ⟨j, hj, rfl⟩ := List.getElem_of_mem hx
        exact hr2 h0 j hj (Nat.zero_le j)
def cvRows (l : List (List S104)) : List (List S82) := l.map (List.map cvPolOld)
theorem toRows_l0 (xs : List (List S104)) (hn : xs.length ≤ 1048576) (hi : ∀ x ∈ xs, x.length ≤ 1048576) (d : Nat) : ∀ (k i : Nat) (ys : List (List S82)), ys.length = xs.length → i + d = xs.length → d + 1048577 < k → (∀ j, j < i → ys[j]? = (cvRows xs)[j]?) → laws_toPolOldSS.l0 k xs ys (i : Int) = some (cvRows xs) := by
  induction d with
  | zero =>
    intro k i ys hl he hk hj
    obtain ⟨k, rfl⟩ : ∃ m, k = m + 1 := ⟨k - 1, by omega⟩
    simp only [laws_toPolOldSS.l0]; rw [if_neg (by omega)]
    congr 1
    exact some_of_ext (by simpa [cvRows] using hl) (fun j hj' => hj j (by rw [cvRows, List.length_map] at hj'; omega))
  | succ d ih =>
    intro k i ys hl he hk hj
    obtain ⟨k, rfl⟩ : ∃ m, k = m + 1 := ⟨k - 1, by omega⟩
    have hlt : i < xs.length := by omega
    have hx := hi xs[i] (List.getElem_mem hlt)
    simp only [laws_toPolOldSS.l0]
    rw [if_pos (by omega), if_pos (by omega), rd_L4_nat xs i hlt, toPolOldS_eq xs[i] hx k (by omega)]
    simp only [Option.bind_some]
    rw [if_pos (by omega), wrap_succ (by omega)]
    apply ih k (i + 1) _ (by simp [hl]) (by omega) (by omega)
    intro j hj'
    rw [Int.toNat_natCast, List.getElem?_set]
    by_cases h : i = j
    · subst h; rw [if_pos rfl, if_pos (by omega), List.getElem?_eq_getElem (by rw [cvRows, List.length_map]; omega)]; simp [cvRows]
    · rw [if_neg h]; exact hj j (by omega)
theorem toPool_eq (e : Int) (p : List Int) (l : List (List S104)) (hp : p.length ≤ 1048576) (hl : l.length ≤ 1048576) (hi : ∀ x ∈ l, x.length ≤ 1048576) (k : Nat) (hk : 3000000 < k) : laws_toPolPool.f k e p l = some (e, p, cvRows l) := by
  unfold laws_toPolPool.f laws_toPolOldSS.f
  rw [toIntS_eq p hp k (by omega)]
  simp only [Option.bind_some]
  rw [if_pos (by omega), if_pos (by omega)]
  have h := toRows_l0 l hl hi l.length k 0 (List.replicate ((l.length : Int) : Int).toNat []) (by simp) (by omega) (by omega) (fun j hj => absurd hj (Nat.not_lt_zero j))
  have h' : laws_toPolOldSS.l0 k l (List.replicate ((l.length : Int) : Int).toNat []) 0 = some (cvRows l) := h
  rw [h']; rfl
theorem eqRows_l0 (xs : List (List S82)) (hn : xs.length ≤ 1048576) (hi : ∀ x ∈ xs, x.length ≤ 1048576) (d : Nat) : ∀ (k i : Nat), i + d = xs.length → d + 1048577 < k → laws_eqPolOldSS.l0 k xs xs (i : Int) = some true := by
  induction d with
  | zero =>
    intro k i he hk
    obtain ⟨k, rfl⟩ : ∃ m, k = m + 1 := ⟨k - 1, by omega⟩
    simp only [laws_eqPolOldSS.l0]; rw [if_neg (by omega)]
  | succ d ih =>
    intro k i he hk
    obtain ⟨k, rfl⟩ : ∃ m, k = m + 1 := ⟨k - 1, by omega⟩
    have hlt : i < xs.length := by omega
    have hx := hi xs[i] (List.getElem_mem hlt)
    simp only [laws_eqPolOldSS.l0]
    rw [if_pos (by omega), if_pos (by omega), if_pos (by omega), rd_L2_nat xs i hlt, eqPolOldS_refl xs[i] hx k (by omega), wrap_succ (by omega)]
    simp only [Option.bind_some, if_true]
    exact ih k (i + 1) (by omega) (by omega)
theorem eqPool_refl (e : Int) (p : List Int) (l : List (List S82)) (hp : p.length ≤ 1048576) (hl : l.length ≤ 1048576) (hi : ∀ x ∈ l, x.length ≤ 1048576) (k : Nat) (hk : 3000000 < k) : laws_eqPolPool.f k e p l e p l = some true := by
  unfold laws_eqPolPool.f laws_eqPolOldSS.f
  rw [if_pos rfl, eqIntS_refl p hp k (by omega)]
  simp only [Option.bind_some, if_true]
  have h : laws_eqPolOldSS.l0 k l l 0 = some true := eqRows_l0 l hl hi l.length k 0 (by omega) (by omega)
  rw [h]; rfl
theorem cvRows_length (l : List (List S104)) : (cvRows l).length = l.length := by simp [cvRows]
theorem cvRows_each (l : List (List S104)) (hi : ∀ x ∈ l, x.length ≤ 1048576) : ∀ x ∈ cvRows l, x.length ≤ 1048576 := by
  intro x hx
  obtain ⟨y, hy, rfl⟩ := List.mem_map.1 hx
  rw [List.length_map]; exact hi y hy

theorem hasL_l0 (xs : List Int) (x : Int) (hn : xs.length ≤ 30000000) (d : Nat) : ∀ (k i : Nat), i + d = xs.length → d < k → spec_l2Has.l0 k xs x (i : Int) = some (decide (x ∈ xs.drop i)) := by
  induction d with
  | zero =>
    intro k i hi hk
    obtain ⟨k, rfl⟩ : ∃ m, k = m + 1 := ⟨k - 1, by omega⟩
    simp only [spec_l2Has.l0]
    rw [if_neg (by omega), List.drop_eq_nil_of_le (by omega)]; simp
  | succ d ih =>
    intro k i hi hk
    obtain ⟨k, rfl⟩ : ∃ m, k = m + 1 := ⟨k - 1, by omega⟩
    have hl : i < xs.length := by omega
    simp only [spec_l2Has.l0]
    rw [if_pos (by omega), if_pos (by omega), rd_nat xs i hl, List.drop_eq_getElem_cons hl]
    by_cases h : xs[i] = x
    · rw [if_pos h]; congr 1; exact (decide_eq_true (by rw [h]; exact List.mem_cons_self)).symm
    · rw [if_neg h, wrap_succ (by omega), ih k (i + 1) (by omega) (by omega)]
      congr 1
      exact decide_eq_decide.2 ⟨fun hm => List.mem_cons_of_mem _ hm, fun hm => by
        rcases List.mem_cons.1 hm with hm | hm
        · exact absurd hm.symm h
        · exact hm⟩
theorem hasL_eq (xs : List Int) (x : Int) (hn : xs.length ≤ 30000000) (k : Nat) (hk : xs.length < k) : spec_l2Has.f k xs x = some (decide (x ∈ xs)) := by
  have h := hasL_l0 xs x hn xs.length k 0 (by omega) hk
  rw [List.drop_zero] at h
  exact h
/-- A row's places are taken in, one by one. -/
def scan (e : Int) : List S82 → List Int → Option (List Int)
  | [], s => some s
  | x :: xs, s => if (1 ≤ x.f0 ∧ x.f0 ≤ 9) ∧ (0 ≤ x.f1 ∧ x.f1 ≤ e) ∧ ¬ x.f0 ∈ s then scan e xs (s ++ [x.f0]) else none
theorem scan_length (e : Int) : ∀ (xs : List S82) (s t : List Int), scan e xs s = some t → t.length = s.length + xs.length
  | [], s, t, h => by injection h with h; rw [← h]; simp
  | x :: xs, s, t, h => by
    unfold scan at h
    split at h
    · rw [scan_length e xs _ t h]; simp; omega
    · cases h
def allL (e : Int) : List (List S82) → List Int → Bool
  | [], _ => true
  | x :: xs, s => match scan e x s with | none => false | some t => allL e xs t
def allS (e : Int) : List Int → List (List S82) → List Int → Bool
  | p :: ps, x :: xs, s => decide (0 ≤ p ∧ p ≤ wrap64 (e + 1)) && (match scan e x s with | none => false | some t => allS e ps xs t)
  | _, _, _ => true
def pinsOk (e : Int) (ps : List Int) : Bool := ps.all fun p => decide (0 ≤ p ∧ p ≤ wrap64 (e + 1))
theorem allS_eq (e : Int) : ∀ (ps : List Int) (xs : List (List S82)) (s : List Int), ps.length = xs.length → allS e ps xs s = (pinsOk e ps && allL e xs s)
  | [], [], s, _ => rfl
  | p :: ps, x :: xs, s, h => by
    have ih := fun t => allS_eq e ps xs t (by simpa using h)
    unfold allS allL pinsOk
    rw [List.all_cons]
    cases hs : scan e x s with
    | none => simp
    | some t => simp only []; rw [ih t, pinsOk, Bool.and_assoc]
theorem specRow_l1 (e : Int) (p : List Int) (L : List (List S82)) (i : Nat) (hi : i < L.length) (hx : L[i].length ≤ 1048576) (d : Nat) : ∀ (k j : Nat) (s : List Int), j + d = L[i].length → s.length + d ≤ 4000000 → d + 5000000 < k →
    spec_PolOk.l1 k s (i : Int) (j : Int) e p L = match scan e (L[i].drop j) s with | none => some false | some t => spec_PolOk.l0 (k - d - 1) t (wrap64 ((i : Int) + 1)) e p L := by
  induction d with
  | zero =>
    intro k j s hj hs hk
    obtain ⟨k, rfl⟩ : ∃ m, k = m + 1 := ⟨k - 1, by omega⟩
    simp only [spec_PolOk.l1]
    rw [if_pos (by omega), if_pos (by omega), rd_L2_nat L i hi, if_neg (by omega), List.drop_eq_nil_of_le (by omega)]
    rfl
  | succ d ih =>
    intro k j s hj hs hk
    obtain ⟨k, rfl⟩ : ∃ m, k = m + 1 := ⟨k - 1, by omega⟩
    have hl : j < L[i].length := by omega
    simp only [spec_PolOk.l1]
    rw [if_pos (by omega), if_pos (by omega), rd_L2_nat L i hi, if_pos (by omega), if_pos (by omega), rd_82_nat L[i] j hl, List.drop_eq_getElem_cons hl]
    simp only [l1In_eq, Option.bind_some, decide_eq_true_eq, hasL_eq s L[i][j].f0 (by omega) k (by omega)]
    unfold scan
    by_cases h1 : 1 ≤ L[i][j].f0 ∧ L[i][j].f0 ≤ 9
    · rw [if_pos h1]
      by_cases h2 : 0 ≤ L[i][j].f1 ∧ L[i][j].f1 ≤ e
      · rw [if_pos h2]
        by_cases h3 : L[i][j].f0 ∈ s
        · rw [if_pos h3, if_neg (fun h => h.2.2 h3)]
        · rw [if_neg h3, if_pos (show s.length < 17592186044416 by omega), if_pos ⟨h1, h2, h3⟩, wrap_succ (by omega), ih k (j + 1) _ (by omega) (by rw [List.length_append]; simp; omega) (by omega), show k + 1 - (d + 1) - 1 = k - d - 1 by omega]
      · rw [if_neg h2, if_neg (fun h => h2 h.2.1)]
    · rw [if_neg h1, if_neg (fun h => h1 h.1)]
theorem specRows_l0 (e : Int) (p : List Int) (L : List (List S82)) (hp : p.length = 3) (hL : L.length = 3) (hx : ∀ x ∈ L, x.length ≤ 1048576) (d : Nat) : ∀ (k i : Nat) (s : List Int), i + d = 3 → s.length + d * 1048576 ≤ 3200000 → d * 1048580 + 6000000 < k →
    spec_PolOk.l0 k s (i : Int) e p L = some (allS e (p.drop i) (L.drop i) s) := by
  induction d with
  | zero =>
    intro k i s hi hs hk
    obtain ⟨k, rfl⟩ : ∃ m, k = m + 1 := ⟨k - 1, by omega⟩
    simp only [spec_PolOk.l0]
    rw [if_neg (by omega), List.drop_eq_nil_of_le (by omega)]
    simp [allS]
  | succ d ih =>
    intro k i s hi hs hk
    obtain ⟨k, rfl⟩ : ∃ m, k = m + 1 := ⟨k - 1, by omega⟩
    have h1 : i < p.length := by omega
    have h2 : i < L.length := by omega
    have hxi := hx L[i] (List.getElem_mem h2)
    simp only [spec_PolOk.l0]
    rw [if_pos (by omega), if_pos (by omega), if_pos (by omega), rd_nat p i h1, l1In_eq, List.drop_eq_getElem_cons h1, List.drop_eq_getElem_cons h2]
    simp only [Option.bind_some, decide_eq_true_eq]
    have e0 := specRow_l1 e p L i h2 hxi L[i].length k 0 s (by omega) (by omega) (by omega)
    rw [List.drop_zero] at e0
    unfold allS
    by_cases hq : 0 ≤ p[i] ∧ p[i] ≤ wrap64 (e + 1)
    · rw [if_pos hq, decide_eq_true hq, Bool.true_and]
      have e0' : spec_PolOk.l1 k s (i : Int) 0 e p L = _ := e0
      rw [e0']
      cases hs2 : scan e L[i] s with
      | none => rfl
      | some t =>
        have ht := scan_length e _ _ _ hs2
        simp only []
        rw [Nat.succ_mul d 1048580] at hk
        rw [Nat.succ_mul d 1048576] at hs
        have g1 : t.length + d * 1048576 ≤ 3200000 := by
          generalize d * 1048576 = q at hs
          omega
        have g2 : d * 1048580 + 6000000 < k - L[i].length - 1 := by
          clear hs g1
          generalize d * 1048580 = q at hk ⊢
          omega
        rw [wrap_succ (by omega), ih (k - L[i].length - 1) (i + 1) t (by omega) g1 g2]
    · rw [if_neg hq, decide_eq_false hq, Bool.false_and]
def polS (e : Int) (p : List Int) (L : List (List S82)) : Bool := decide (0 ≤ e ∧ e ≤ 100000) && (decide (p.length = 3) && (decide (L.length = 3) && (pinsOk e p && allL e L [])))
theorem specPolOk_eq (e : Int) (p : List Int) (L : List (List S82)) (hx : ∀ x ∈ L, x.length ≤ 1048576) (k : Nat) (hk : 20000000 < k) : spec_PolOk.f k e p L = some (polS e p L) := by
  obtain ⟨k, rfl⟩ : ∃ m, k = m + 1 := ⟨k - 1, by omega⟩
  unfold spec_PolOk.f polS
  rw [l1In_eq]
  simp only [Option.bind_some, decide_eq_true_eq]
  have hj : spec_PolOk.j0 (k + 1) true e p L = some false := by simp [spec_PolOk.j0]
  by_cases h0 : 0 ≤ e ∧ e ≤ 100000
  · rw [if_pos h0, decide_eq_true h0, Bool.true_and]
    by_cases h1 : p.length = 3
    · rw [if_pos (by omega), decide_eq_true h1, Bool.true_and]
      by_cases h2 : L.length = 3
      · rw [decide_eq_true h2, Bool.true_and, show ((L.length : Int) != 3) = false from by rw [h2]; rfl]
        simp only [spec_PolOk.j0]
        rw [if_neg (by simp)]
        have h := specRows_l0 e p L h1 h2 hx 3 k 0 [] (by omega) (by simp) (by omega)
        rw [List.drop_zero, List.drop_zero, allS_eq e p L [] (by omega)] at h
        exact h
      · rw [decide_eq_false h2, Bool.false_and, show ((L.length : Int) != 3) = true from bne_iff_ne.mpr (by omega), hj]
    · rw [if_neg (by omega), decide_eq_false h1, Bool.false_and, hj]
  · rw [if_neg h0, decide_eq_false h0, Bool.false_and, hj]
theorem implRow_l2 (e : Int) (p : List Int) (L : List (List S82)) (i : Nat) (hi : i < L.length) (hx : L[i].length ≤ 1048576) (d : Nat) : ∀ (k j : Nat) (s : List Int), j + d = L[i].length → s.length + d ≤ 4000000 → d + 5000000 < k →
    impl_PolOk.l2 k s L (L.length : Int) (i : Int) L[i] (L[i].length : Int) (j : Int) e p L = match scan e (L[i].drop j) s with | none => some false | some t => impl_PolOk.l1 (k - d - 1) t L (L.length : Int) (wrap64 ((i : Int) + 1)) e p L := by
  induction d with
  | zero =>
    intro k j s hj hs hk
    obtain ⟨k, rfl⟩ : ∃ m, k = m + 1 := ⟨k - 1, by omega⟩
    simp only [impl_PolOk.l2]
    rw [if_neg (by omega), List.drop_eq_nil_of_le (by omega)]
    rfl
  | succ d ih =>
    intro k j s hj hs hk
    obtain ⟨k, rfl⟩ : ∃ m, k = m + 1 := ⟨k - 1, by omega⟩
    have hl : j < L[i].length := by omega
    simp only [impl_PolOk.l2]
    rw [if_pos (by omega), if_pos (by omega), if_pos (by omega), rd_82_nat L[i] j hl, List.drop_eq_getElem_cons hl]
    simp only [Option.bind_some, decide_eq_true_eq, hasL_eq s L[i][j].f0 (by omega) k (by omega)]
    unfold scan
    by_cases h1 : L[i][j].f0 < 1
    · rw [if_pos h1, if_neg (fun h => by have := h.1.1; omega)]
    · rw [if_neg h1]
      by_cases h2 : L[i][j].f0 > 9
      · rw [if_pos h2, if_neg (fun h => by have := h.1.2; omega)]
      · rw [if_neg h2]
        by_cases h3 : L[i][j].f0 ∈ s
        · rw [if_pos h3, if_neg (fun h => h.2.2 h3)]
        · rw [if_neg h3]
          by_cases h4 : L[i][j].f1 < 0
          · rw [if_pos h4, if_neg (fun h => by have := h.2.1.1; omega)]
          · rw [if_neg h4]
            by_cases h5 : L[i][j].f1 > e
            · rw [if_pos h5, if_neg (fun h => by have := h.2.1.2; omega)]
            · rw [if_neg h5, if_pos (show s.length < 17592186044416 by omega), if_pos ⟨⟨by omega, by omega⟩, ⟨by omega, by omega⟩, h3⟩, wrap_succ (by omega), ih k (j + 1) _ (by omega) (by rw [List.length_append]; simp; omega) (by omega), show k + 1 - (d + 1) - 1 = k - d - 1 by omega]
theorem implRows_l1 (e : Int) (p : List Int) (L : List (List S82)) (hL : L.length = 3) (hx : ∀ x ∈ L, x.length ≤ 1048576) (d : Nat) : ∀ (k i : Nat) (s : List Int), i + d = 3 → s.length + d * 1048576 ≤ 3200000 → d * 1048580 + 6000000 < k →
    impl_PolOk.l1 k s L (L.length : Int) (i : Int) e p L = some (allL e (L.drop i) s) := by
  induction d with
  | zero =>
    intro k i s hi hs hk
    obtain ⟨k, rfl⟩ : ∃ m, k = m + 1 := ⟨k - 1, by omega⟩
    simp only [impl_PolOk.l1]
    rw [if_neg (by omega), List.drop_eq_nil_of_le (by omega)]
    rfl
  | succ d ih =>
    intro k i s hi hs hk
    obtain ⟨k, rfl⟩ : ∃ m, k = m + 1 := ⟨k - 1, by omega⟩
    have h2 : i < L.length := by omega
    have hxi := hx L[i] (List.getElem_mem h2)
    simp only [impl_PolOk.l1]
    rw [if_pos (by omega), if_pos (by omega), if_pos (by omega), rd_L2_nat L i h2, List.drop_eq_getElem_cons h2]
    have e0 := implRow_l2 e p L i h2 hxi L[i].length k 0 s (by omega) (by omega) (by omega)
    rw [List.drop_zero] at e0
    have e0' : impl_PolOk.l2 k s L (L.length : Int) (i : Int) L[i] (L[i].length : Int) 0 e p L = _ := e0
    rw [e0']
    unfold allL
    cases hs2 : scan e L[i] s with
    | none => rfl
    | some t =>
      have ht := scan_length e _ _ _ hs2
      simp only []
      rw [Nat.succ_mul d 1048580] at hk
      rw [Nat.succ_mul d 1048576] at hs
      have g1 : t.length + d * 1048576 ≤ 3200000 := by
        generalize d * 1048576 = q at hs
        omega
      have g2 : d * 1048580 + 6000000 < k - L[i].length - 1 := by
        clear hs g1
        generalize d * 1048580 = q at hk ⊢
        omega
      rw [wrap_succ (by omega), ih (k - L[i].length - 1) (i + 1) t (by omega) g1 g2]
theorem implPins_l0 (e : Int) (p : List Int) (L : List (List S82)) (hp : p.length = 3) (hL : L.length = 3) (hx : ∀ x ∈ L, x.length ≤ 1048576) (d : Nat) : ∀ (k j : Nat), j + d = 3 → d + 10000000 < k →
    impl_PolOk.l0 k p (p.length : Int) (j : Int) e p L = some (pinsOk e (p.drop j) && allL e L []) := by
  induction d with
  | zero =>
    intro k j hj hk
    obtain ⟨k, rfl⟩ : ∃ m, k = m + 1 := ⟨k - 1, by omega⟩
    simp only [impl_PolOk.l0]
    rw [if_neg (by omega), List.drop_eq_nil_of_le (by omega)]
    have h := implRows_l1 e p L hL hx 3 k 0 [] (by omega) (by simp) (by omega)
    rw [List.drop_zero] at h
    exact h
  | succ d ih =>
    intro k j hj hk
    obtain ⟨k, rfl⟩ : ∃ m, k = m + 1 := ⟨k - 1, by omega⟩
    have h1 : j < p.length := by omega
    simp only [impl_PolOk.l0]
    rw [if_pos (by omega), if_pos (by omega), if_pos (by omega), rd_nat p j h1, List.drop_eq_getElem_cons h1]
    unfold pinsOk
    rw [List.all_cons]
    by_cases h2 : p[j] < 0
    · rw [if_pos h2, decide_eq_false (fun h => by have := h.1; omega)]; rfl
    · rw [if_neg h2]
      by_cases h3 : p[j] > wrap64 (e + 1)
      · rw [if_pos h3, decide_eq_false (fun h => by have := h.2; omega)]; rfl
      · rw [if_neg h3, decide_eq_true ⟨by omega, by omega⟩, Bool.true_and, wrap_succ (by omega), ih k (j + 1) (by omega) (by omega)]; rfl
theorem implPolOk_eq (e : Int) (p : List Int) (L : List (List S82)) (hx : ∀ x ∈ L, x.length ≤ 1048576) (k : Nat) (hk : 20000000 < k) : impl_PolOk.f k e p L = some (polS e p L) := by
  obtain ⟨k, rfl⟩ : ∃ m, k = m + 1 := ⟨k - 1, by omega⟩
  unfold impl_PolOk.f polS
  have hj : impl_PolOk.j0 (k + 1) true e p L = some false := by simp [impl_PolOk.j0]
  by_cases h0 : e < 0
  · rw [if_pos h0, decide_eq_false (fun h => by have := h.1; omega), Bool.false_and, hj]
  · rw [if_neg h0]
    by_cases h00 : e > 100000
    · rw [if_pos h00, decide_eq_false (fun h => by have := h.2; omega), Bool.false_and, hj]
    · rw [if_neg h00, decide_eq_true ⟨by omega, by omega⟩, Bool.true_and]
      by_cases h1 : p.length = 3
      · rw [if_pos (by omega), decide_eq_true h1, Bool.true_and]
        by_cases h2 : L.length = 3
        · rw [decide_eq_true h2, Bool.true_and, show ((L.length : Int) != 3) = false from by rw [h2]; rfl]
          simp only [impl_PolOk.j0]
          rw [if_neg (by simp)]
          exact implPins_l0 e p L h1 h2 hx 3 k 0 (by omega) (by omega)
        · rw [decide_eq_false h2, Bool.false_and, show ((L.length : Int) != 3) = true from bne_iff_ne.mpr (by omega), hj]
      · rw [if_neg (by omega), decide_eq_false h1, Bool.false_and, hj]

/-- The first one that was taken out two epochs ahead at least. -/
def frS (ep : Int) : List S82 → Int → Int
  | [], _ => -1
  | x :: xs, i => if wrap64 (x.f1 + 2) ≤ ep then i else frS ep xs (i + 1)
theorem implIdx_l0 (ep : Int) (row : List S82) (hn : row.length ≤ 1048576) (d : Nat) : ∀ (k i : Nat), i + d = row.length → d < k → impl_PolOld.l0 ep k row (row.length : Int) (i : Int) = some (frS ep (row.drop i) (i : Int)) := by
  induction d with
  | zero =>
    intro k i hi hk
    obtain ⟨k, rfl⟩ : ∃ m, k = m + 1 := ⟨k - 1, by omega⟩
    simp only [impl_PolOld.l0]
    rw [if_neg (by omega), List.drop_eq_nil_of_le (by omega)]; rfl
  | succ d ih =>
    intro k i hi hk
    obtain ⟨k, rfl⟩ : ∃ m, k = m + 1 := ⟨k - 1, by omega⟩
    have hl : i < row.length := by omega
    simp only [impl_PolOld.l0, impl_PolPool_free_1.f, Option.bind_some, decide_eq_true_eq]
    rw [if_pos (by omega), if_pos (by omega), if_pos (by omega), rd_82_nat row i hl, List.drop_eq_getElem_cons hl]
    unfold frS
    by_cases h : wrap64 (row[i].f1 + 2) ≤ ep
    · rw [if_pos h, if_pos h]
    · rw [if_neg h, if_neg h, wrap_succ (by omega), ih k (i + 1) (by omega) (by omega)]; rfl
theorem specIdx_l0 (ep e : Int) (p : List Int) (L : List (List S82)) (h : Nat) (hh : h < L.length) (hn : L[h].length ≤ 1048576) (d : Nat) : ∀ (k i : Nat), i + d = L[h].length → d < k → spec_l3Free.l0 k (h : Int) ep (i : Int) e p L = some (frS ep (L[h].drop i) (i : Int)) := by
  induction d with
  | zero =>
    intro k i hi hk
    obtain ⟨k, rfl⟩ : ∃ m, k = m + 1 := ⟨k - 1, by omega⟩
    simp only [spec_l3Free.l0]
    rw [if_pos (by omega), if_pos (by omega), rd_L2_nat L h hh, if_neg (by omega), List.drop_eq_nil_of_le (by omega)]; rfl
  | succ d ih =>
    intro k i hi hk
    obtain ⟨k, rfl⟩ : ∃ m, k = m + 1 := ⟨k - 1, by omega⟩
    have hl : i < L[h].length := by omega
    simp only [spec_l3Free.l0]
    rw [if_pos (by omega), if_pos (by omega), rd_L2_nat L h hh, if_pos (by omega), if_pos (by omega), rd_82_nat L[h] i hl, List.drop_eq_getElem_cons hl]
    unfold frS
    by_cases hq : wrap64 (L[h][i].f1 + 2) ≤ ep
    · rw [if_pos hq, if_pos hq]
    · rw [if_neg hq, if_neg hq, wrap_succ (by omega), ih k (i + 1) (by omega) (by omega)]; rfl
theorem polS_three (e : Int) (p : List Int) (L : List (List S82)) (h : polS e p L = true) : L.length = 3 := by
  unfold polS at h
  simp only [Bool.and_eq_true, decide_eq_true_eq] at h
  exact h.2.2.1
def freeF (e : Int) (p : List Int) (L : List (List S82)) (h ep : Int) : Int := if polS e p L = true ∧ (0 ≤ h ∧ h ≤ 2) ∧ (0 ≤ ep ∧ ep ≤ 100000) then frS ep (rd_L2 L h) 0 else -1
theorem specPolFree_eq (e : Int) (p : List Int) (L : List (List S82)) (h ep : Int) (hx : ∀ x ∈ L, x.length ≤ 1048576) (k : Nat) (hk : 20000000 < k) : spec_PolFree.f k e p L h ep = some (freeF e p L h ep) := by
  unfold spec_PolFree.f freeF spec_l3Free.f
  rw [specPolOk_eq e p L hx k hk]
  simp only [Option.bind_some, l1In_eq, decide_eq_true_eq]
  by_cases h0 : polS e p L = true
  · rw [if_pos h0]
    by_cases h1 : 0 ≤ h ∧ h ≤ 2
    · rw [if_pos h1]
      by_cases h2 : 0 ≤ ep ∧ ep ≤ 100000
      · rw [if_pos h2, if_pos ⟨h0, h1, h2⟩]
        have hl := polS_three e p L h0
        obtain ⟨n, rfl⟩ : ∃ n : Nat, h = n := ⟨h.toNat, by omega⟩
        have hn : n < L.length := by omega
        have hxn := hx L[n] (List.getElem_mem hn)
        have hs := specIdx_l0 ep e p L n hn hxn L[n].length k 0 (by omega) (by omega)
        rw [List.drop_zero] at hs
        have hs' : spec_l3Free.l0 k (n : Int) ep 0 e p L = some (frS ep L[n] 0) := hs
        rw [hs', rd_L2_nat L n hn]; rfl
      · rw [if_neg h2, if_neg (fun hh => h2 hh.2.2)]
    · rw [if_neg h1, if_neg (fun hh => h1 hh.2.1)]
  · rw [if_neg h0, if_neg (fun hh => h0 hh.1)]
theorem implPolFree_eq (e : Int) (p : List Int) (L : List (List S82)) (h ep : Int) (hx : ∀ x ∈ L, x.length ≤ 1048576) (k : Nat) (hk : 20000000 < k) : impl_PolFree.f k e p L h ep = some (freeF e p L h ep) := by
  unfold impl_PolFree.f freeF impl_PolPool_free.f impl_PolOld.f
  rw [implPolOk_eq e p L hx k hk]
  simp only [Option.bind_some]
  by_cases h0 : polS e p L = true
  · rw [if_pos h0]
    have hl := polS_three e p L h0
    by_cases h1 : h < 0
    · rw [if_pos h1, if_neg (fun hh => by have := hh.2.1.1; omega)]
    · rw [if_neg h1]
      by_cases h2 : h ≥ 3
      · rw [if_pos h2, if_neg (fun hh => by have := hh.2.1.2; omega)]
      · rw [if_neg h2]
        by_cases h3 : ep < 0
        · rw [if_pos h3, if_neg (fun hh => by have := hh.2.2.1; omega)]
        · rw [if_neg h3]
          by_cases h4 : ep > 100000
          · rw [if_pos h4, if_neg (fun hh => by have := hh.2.2.2; omega)]
          · obtain ⟨n, rfl⟩ : ∃ n : Nat, h = n := ⟨h.toNat, by omega⟩
            have hn : n < L.length := by omega
            have hxn := hx L[n] (List.getElem_mem hn)
            rw [if_neg h4, if_pos (show (0 : Int) ≤ (n : Int) by omega), if_pos (show (n : Int) < (L.length : Int) by omega), if_pos ⟨h0, ⟨by omega, by omega⟩, ⟨by omega, by omega⟩⟩, rd_L2_nat L n hn]
            have hs := implIdx_l0 ep L[n] hxn L[n].length (L[n].length + 1) 0 (by omega) (by omega)
            rw [List.drop_zero] at hs
            have hs' : impl_PolOld.l0 ep (L[n].length + 1) L[n] (L[n].length : Int) 0 = some (frS ep L[n] 0) := hs
            rw [hs']; rfl
  · rw [if_neg h0, if_neg (fun hh => h0 hh.1)]

theorem final (e : Int) (p : List Int) (l : List (List S104)) (hand_ : Int) (epoch_ : Int) (hp : p.length ≤ 9223372036854775807) (hl : l.length ≤ 9223372036854775807) (hi : ∀ x ∈ l, x.length ≤ 9223372036854775807) (_ : (Lit.int .i64 hand_).wf = true) (_ : (Lit.int .i64 epoch_).wf = true) : ∃ k, laws_FnExactPolFree.f k e p l hand_ epoch_ = some true := by
  obtain ⟨K, hK⟩ : ∃ K, 30000000 ≤ K := ⟨30000000, Nat.le_refl _⟩
  refine ⟨K, ?_⟩
  obtain ⟨r, hr, hr2⟩ := szPool_eq e p l hp hl hi K (by omega)
  unfold laws_FnExactPolFree.f
  rw [hr]
  simp only [Option.bind_some]
  by_cases hn : r < 0
  · rw [if_pos hn]
  · rw [if_neg hn]
    obtain ⟨h1, h2, h3⟩ := hr2 (by omega)
    have e1 := toPool_eq e p l h1 h2 h3 K (by omega)
    have g2 : (cvRows l).length ≤ 1048576 := by rw [cvRows_length]; exact h2
    have g3 := cvRows_each l h3
    generalize cvRows l = L at e1 g2 g3
    have hs := specPolFree_eq e p L hand_ epoch_ g3 K (by omega)
    have hm := implPolFree_eq e p L hand_ epoch_ g3 K (by omega)
    have e3 := eqPool_refl e p L h1 g2 g3 K (by omega)
    simp only [e1, hs, hm, e3, Option.bind_some, if_true, bne_self_eq_false, Bool.false_eq_true, if_false]
end FnExactPolFree_

theorem FnExactPolFree : ∀ (e : Int) (p : List Int) (l : List (List S104)) (hand_ : Int) (epoch_ : Int) (hp : p.length ≤ 9223372036854775807) (hl : l.length ≤ 9223372036854775807) (hi : ∀ x ∈ l, x.length ≤ 9223372036854775807) (_ : (Lit.int .i64 hand_).wf = true) (_ : (Lit.int .i64 epoch_).wf = true), ∃ k, laws_FnExactPolFree.f k e p l hand_ epoch_ = some true := FnExactPolFree_.final

end Go.Proofs.Ytmfbkcfnooieoaa.Pure
