/-
  PolOut is the reference's, for all pools, and its answer is memory of its own. Conditions: none.
-/
import Derived.Test.YtmfbkcfnooieoaaGFnExactPolOutx1
import Derived.Test.YtmfbkcfnooieoaaGFnExactPolOutx2
import Derived.Test.YtmfbkcfnooieoaaGFnExactPolOutx3
import Derived.Test.YtmfbkcfnooieoaaGFnExactPolOutx4
namespace Go.Proofs.Ytmfbkcfnooieoaa.Pure
open Go.RowKit Go.Proofs.Ytmfbkcfnooieoaa.GFnExactPolOut Go.Proofs.YtmfbkcfnooieoaaW.PrintWords Go.Proofs.YtmfbkcfnooieoaaW.PrintLast
set_option linter.unusedVariables false
set_option linter.unusedSimpArgs false

namespace FnExactPolOut_
theorem wrap_nat {i : Nat} (h : i ≤ 40000000) : wrap64 (i : Int) = i := by unfold wrap64; omega
theorem wrap_succ {i : Nat} (h : i ≤ 40000000) : wrap64 ((i : Int) + 1) = ((i + 1 : Nat) : Int) := by unfold wrap64; omega
theorem wrap_pred {i : Nat} (h0 : 0 < i) (h : i ≤ 40000000) : wrap64 ((i : Int) - 1) = ((i - 1 : Nat) : Int) := by unfold wrap64; omega
theorem some_of_ext {α : Type} {ys zs : List α} (hl : ys.length = zs.length) (h : ∀ j, j < zs.length → ys[j]? = zs[j]?) : ys = zs := by
  apply List.ext_getElem?
  intro j
  by_cases hj : j < zs.length
  · exact h j hj
  · rw [List.getElem?_eq_none (by omega), List.getElem?_eq_none (by omega)]

theorem rd_nat (xs : List Int) (i : Nat) (h : i < xs.length) : rd xs (i : Int) = xs[i] := by simp [rd, h]

theorem toIntS_l0 (xs : List Int) (hn : xs.length ≤ 1048576) (d : Nat) : ∀ (k i : Nat) (ys : List Int), ys.length = xs.length → i + d = xs.length → d < k → (∀ j, j < i → ys[j]? = xs[j]?) → laws_toIntS.l0 k xs ys (i : Int) = some xs := by
  induction d with
  | zero =>
    intro k i ys hl hi hk hj
    obtain ⟨k, rfl⟩ : ∃ m, k = m + 1 := ⟨k - 1, by omega⟩
    simp only [laws_toIntS.l0]; rw [if_neg (by omega)]
    congr 1
    exact some_of_ext hl (fun j hj' => hj j (by omega))
  | succ d ih =>
    intro k i ys hl hi hk hj
    obtain ⟨k, rfl⟩ : ∃ m, k = m + 1 := ⟨k - 1, by omega⟩
    simp only [laws_toIntS.l0]
    rw [if_pos (by omega), if_pos (by omega), if_pos (by omega), wrap_succ (by omega)]
    apply ih k (i + 1) _ (by simp [hl]) (by omega) (by omega)
    intro j hj'
    rw [Int.toNat_natCast, List.getElem?_set]
    by_cases h : i = j
    · subst h; rw [if_pos rfl, if_pos (by omega), rd_nat _ _ (by omega), List.getElem?_eq_getElem]
    · rw [if_neg h]; exact hj j (by omega)
theorem toIntS_eq (xs : List Int) (hn : xs.length ≤ 1048576) (k : Nat) (hk : xs.length < k) : laws_toIntS.f k xs = some xs := by
  unfold laws_toIntS.f
  rw [if_pos (by omega), if_pos (by omega)]
  exact toIntS_l0 xs hn xs.length k 0 _ (by simp) (by omega) hk (fun j hj => absurd hj (Nat.not_lt_zero j))

theorem eqIntS_l0 (xs : List Int) (hn : xs.length ≤ 1048576) (d : Nat) : ∀ (k i : Nat), i + d = xs.length → d < k → laws_eqIntS.l0 k xs xs (i : Int) = some true := by
  induction d with
  | zero =>
    intro k i hi hk
    obtain ⟨k, rfl⟩ : ∃ m, k = m + 1 := ⟨k - 1, by omega⟩
    simp only [laws_eqIntS.l0]; rw [if_neg (by omega)]
  | succ d ih =>
    intro k i hi hk
    obtain ⟨k, rfl⟩ : ∃ m, k = m + 1 := ⟨k - 1, by omega⟩
    simp only [laws_eqIntS.l0]
    rw [if_pos (by omega), if_pos (by omega), if_pos (by omega), if_pos trivial, wrap_succ (by omega)]
    exact ih k (i + 1) (by omega) (by omega)
theorem eqIntS_refl (xs : List Int) (hn : xs.length ≤ 1048576) (k : Nat) (hk : xs.length < k) : laws_eqIntS.f k xs xs = some true := by
  unfold laws_eqIntS.f
  rw [if_pos rfl]
  exact eqIntS_l0 xs hn xs.length k 0 (by omega) hk

theorem rd_104_nat (xs : List S104) (i : Nat) (h : i < xs.length) : rd_T104 xs (i : Int) = xs[i] := by simp [rd_T104, h]

theorem rd_82_nat (xs : List S82) (i : Nat) (h : i < xs.length) : rd_T82 xs (i : Int) = xs[i] := by simp [rd_T82, h]

def cvPolOld (x : S104) : S82 := ⟨x.f0, x.f1⟩
theorem toPolOldS_l0 (xs : List S104) (hn : xs.length ≤ 1048576) (d : Nat) : ∀ (k i : Nat) (ys : List S82), ys.length = xs.length → i + d = xs.length → d < k → (∀ j, j < i → ys[j]? = (xs.map cvPolOld)[j]?) → laws_toPolOldS.l0 k xs ys (i : Int) = some (xs.map cvPolOld) := by
  induction d with
  | zero =>
    intro k i ys hl hi hk hj
    obtain ⟨k, rfl⟩ : ∃ m, k = m + 1 := ⟨k - 1, by omega⟩
    simp only [laws_toPolOldS.l0]; rw [if_neg (by omega)]
    congr 1
    exact some_of_ext (by simpa using hl) (fun j hj' => hj j (by rw [List.length_map] at hj'; omega))
  | succ d ih =>
    intro k i ys hl hi hk hj
    obtain ⟨k, rfl⟩ : ∃ m, k = m + 1 := ⟨k - 1, by omega⟩
    simp only [laws_toPolOldS.l0, laws_toPolOld.f, Option.bind_some]
    rw [if_pos (by omega), if_pos (by omega), if_pos (by omega), wrap_succ (by omega)]
    apply ih k (i + 1) _ (by simp [hl]) (by omega) (by omega)
    intro j hj'
    rw [Int.toNat_natCast, List.getElem?_set]
    by_cases h : i = j
    · subst h; rw [if_pos rfl, if_pos (by omega), rd_104_nat _ _ (by omega), List.getElem?_eq_getElem (by rw [List.length_map]; omega), List.getElem_map]; rfl
    · rw [if_neg h]; exact hj j (by omega)
theorem toPolOldS_eq (xs : List S104) (hn : xs.length ≤ 1048576) (k : Nat) (hk : xs.length < k) : laws_toPolOldS.f k xs = some (xs.map cvPolOld) := by
  unfold laws_toPolOldS.f
  rw [if_pos (by omega), if_pos (by omega)]
  exact toPolOldS_l0 xs hn xs.length k 0 _ (by simp) (by omega) hk (fun j hj => absurd hj (Nat.not_lt_zero j))

theorem eqPolOldS_l0 (xs : List S82) (hn : xs.length ≤ 1048576) (d : Nat) : ∀ (k i : Nat), i + d = xs.length → d < k → laws_eqPolOldS.l0 k xs xs (i : Int) = some true := by
  induction d with
  | zero =>
    intro k i hi hk
    obtain ⟨k, rfl⟩ : ∃ m, k = m + 1 := ⟨k - 1, by omega⟩
    simp only [laws_eqPolOldS.l0]; rw [if_neg (by omega)]
  | succ d ih =>
    intro k i hi hk
    obtain ⟨k, rfl⟩ : ∃ m, k = m + 1 := ⟨k - 1, by omega⟩
    simp only [laws_eqPolOldS.l0]
    rw [if_pos (by omega), if_pos (by omega), if_pos (by omega), wrap_succ (by omega)]
    rw [show laws_eqPolOld.f (rd_T82 xs (i : Int)).f0 (rd_T82 xs (i : Int)).f1 (rd_T82 xs (i : Int)).f0 (rd_T82 xs (i : Int)).f1 = some true from by simp [laws_eqPolOld.f]]
    simp only [Option.bind_some, if_true]
    exact ih k (i + 1) (by omega) (by omega)
theorem eqPolOldS_refl (xs : List S82) (hn : xs.length ≤ 1048576) (k : Nat) (hk : xs.length < k) : laws_eqPolOldS.f k xs xs = some true := by
  unfold laws_eqPolOldS.f
  rw [if_pos rfl]
  exact eqPolOldS_l0 xs hn xs.length k 0 (by omega) hk

theorem rd_L4_nat (xs : List (List S104)) (i : Nat) (h : i < xs.length) : rd_L4 xs (i : Int) = xs[i] := by simp [rd_L4, h]
theorem rd_L2_nat (xs : List (List S82)) (i : Nat) (h : i < xs.length) : rd_L2 xs (i : Int) = xs[i] := by simp [rd_L2, h]
theorem szRows_l0 (xs : List (List S104)) (hi : ∀ x ∈ xs, x.length ≤ 9223372036854775807) (hn : xs.length ≤ 1048576) (d : Nat) : ∀ (k i a : Nat), i + d = xs.length → d < k → a ≤ 1048576 → ∃ r, laws_szPolOldSS.l0 k xs (a : Int) (i : Int) = some r ∧ (0 ≤ r → ∀ j (h : j < xs.length), i ≤ j → xs[j].length ≤ 1048576) := by
  induction d with
  | zero =>
    intro k i a he hk ha
    obtain ⟨k, rfl⟩ : ∃ m, k = m + 1 := ⟨k - 1, by omega⟩
    simp only [laws_szPolOldSS.l0]
    rw [if_neg (by omega)]
    exact ⟨_, rfl, fun _ j h hj => absurd hj (by omega)⟩
  | succ d ih =>
    intro k i a he hk ha
    obtain ⟨k, rfl⟩ : ∃ m, k = m + 1 := ⟨k - 1, by omega⟩
    have hl : i < xs.length := by omega
    have hx := hi xs[i] (List.getElem_mem hl)
    simp only [laws_szPolOldSS.l0, laws_szPolOldS.f]
    rw [if_pos (by omega), if_pos (by omega), rd_L4_nat xs i hl]
    have hw : wrap64 ((a : Int) - (xs[i].length : Int)) = (a : Int) - (xs[i].length : Int) := by unfold wrap64; omega
    rw [hw]
    by_cases h : (a : Int) - (xs[i].length : Int) < 0
    · rw [if_pos h]
      exact ⟨-1, rfl, fun h0 => absurd h0 (by omega)⟩
    · rw [if_neg h]
      simp only [Option.bind_some]
      rw [if_neg h, wrap_succ (by omega), show (a : Int) - (xs[i].length : Int) = ((a - xs[i].length : Nat) : Int) by omega]
      obtain ⟨r, hr, hr2⟩ := ih k (i + 1) (a - xs[i].length) (by omega) (by omega) (by omega)
      refine ⟨r, hr, fun h0 j hj hij => ?_⟩
      by_cases e : j = i
      · subst e; omega
      · exact hr2 h0 j hj (by omega)
theorem szPool_eq (e : Int) (p : List Int) (l : List (List S104)) (hp : p.length ≤ 9223372036854775807) (hl : l.length ≤ 9223372036854775807) (hi : ∀ x ∈ l, x.length ≤ 9223372036854775807) (k : Nat) (hk : 1048577 < k) :
    ∃ r, laws_szPolPool.f k e p l 1048576 = some r ∧ (0 ≤ r → p.length ≤ 1048576 ∧ l.length ≤ 1048576 ∧ ∀ x ∈ l, x.length ≤ 1048576) := by
  unfold laws_szPolPool.f laws_szIntS.f laws_szPolOldSS.f
  have hw : wrap64 (1048576 - (p.length : Int)) = 1048576 - (p.length : Int) := by unfold wrap64; omega
  rw [hw]
  by_cases h : (1048576 : Int) - (p.length : Int) < 0
  · rw [if_pos h]; exact ⟨-1, rfl, fun h0 => absurd h0 (by omega)⟩
  · rw [if_neg h]
    simp only [Option.bind_some]
    rw [if_neg h]
    have hw2 : wrap64 (1048576 - (p.length : Int) - (l.length : Int)) = 1048576 - (p.length : Int) - (l.length : Int) := by unfold wrap64; omega
    rw [hw2]
    by_cases h2 : (1048576 : Int) - (p.length : Int) - (l.length : Int) < 0
    · rw [if_pos h2]; exact ⟨-1, rfl, fun h0 => absurd h0 (by omega)⟩
    · rw [if_neg h2, show (1048576 : Int) - (p.length : Int) - (l.length : Int) = ((1048576 - p.length - l.length : Nat) : Int) by omega]
      obtain ⟨r, hr, hr2⟩ := szRows_l0 l hi (by omega) l.length k 0 (1048576 - p.length - l.length) (by omega) (by omega) (by omega)
      have hr' : laws_szPolOldSS.l0 k l ((1048576 - p.length - l.length : Nat) : Int) 0 = some r := hr
      rw [hr']
      simp only [Option.bind_some]
      by_cases h3 : r < 0
      · rw [if_pos h3]; exact ⟨-1, rfl, fun h0 => absurd h0 (by omega)⟩
      · rw [if_neg h3]
        refine ⟨r, rfl, fun h0 => ⟨by omega, by omega, fun x hx => ?_⟩⟩
        obtain ⟨j, hj, rfl⟩ := List.getElem_of_mem hx
        exact hr2 h0 j hj (Nat.zero_le j)
def cvRows (l : List (List S104)) : List (List S82) := l.map (List.map cvPolOld)
theorem toRows_l0 (xs : List (List S104)) (hn : xs.length ≤ 1048576) (hi : ∀ x ∈ xs, x.length ≤ 1048576) (d : Nat) : ∀ (k i : Nat) (ys : List (List S82)), ys.length = xs.length → i + d = xs.length → d + 1048577 < k → (∀ j, j < i → ys[j]? = (cvRows xs)[j]?) → laws_toPolOldSS.l0 k xs ys (i : Int) = some (cvRows xs) := by
  induction d with
  | zero =>
    intro k i ys hl he hk hj
    obtain ⟨k, rfl⟩ : ∃ m, k = m + 1 := ⟨k - 1, by omega⟩
    simp only [laws_toPolOldSS.l0]; rw [if_neg (by omega)]
    congr 1
    exact some_of_ext (by simpa [cvRows] using hl) (fun j hj' => hj j (by rw [cvRows, List.length_map] at hj'; omega))
  | succ d ih =>
    intro k i ys hl he hk hj
    obtain ⟨k, rfl⟩ : ∃ m, k = m + 1 := ⟨k - 1, by omega⟩
    have hlt : i < xs.length := by omega
    have hx := hi xs[i] (List.getElem_mem hlt)
    simp only [laws_toPolOldSS.l0]
    rw [if_pos (by omega), if_pos (by omega), rd_L4_nat xs i hlt, toPolOldS_eq xs[i] hx k (by omega)]
    simp only [Option.bind_some]
    rw [if_pos (by omega), wrap_succ (by omega)]
    apply ih k (i + 1) _ (by simp [hl]) (by omega) (by omega)
    intro j hj'
    rw [Int.toNat_natCast, List.getElem?_set]
    by_cases h : i = j
    · subst h; rw [if_pos rfl, if_pos (by omega), List.getElem?_eq_getElem (by rw [cvRows, List.length_map]; omega)]; simp [cvRows]
    · rw [if_neg h]; exact hj j (by omega)
theorem toPool_eq (e : Int) (p : List Int) (l : List (List S104)) (hp : p.length ≤ 1048576) (hl : l.length ≤ 1048576) (hi : ∀ x ∈ l, x.length ≤ 1048576) (k : Nat) (hk : 3000000 < k) : laws_toPolPool.f k e p l = some (e, p, cvRows l) := by
  unfold laws_toPolPool.f laws_toPolOldSS.f
  rw [toIntS_eq p hp k (by omega)]
  simp only [Option.bind_some]
  rw [if_pos (by omega), if_pos (by omega)]
  have h := toRows_l0 l hl hi l.length k 0 (List.replicate ((l.length : Int) : Int).toNat []) (by simp) (by omega) (by omega) (fun j hj => absurd hj (Nat.not_lt_zero j))
  have h' : laws_toPolOldSS.l0 k l (List.replicate ((l.length : Int) : Int).toNat []) 0 = some (cvRows l) := h
  rw [h']; rfl
theorem eqRows_l0 (xs : List (List S82)) (hn : xs.length ≤ 1048576) (hi : ∀ x ∈ xs, x.length ≤ 1048576) (d : Nat) : ∀ (k i : Nat), i + d = xs.length → d + 1048577 < k → laws_eqPolOldSS.l0 k xs xs (i : Int) = some true := by
  induction d with
  | zero =>
    intro k i he hk
    obtain ⟨k, rfl⟩ : ∃ m, k = m + 1 := ⟨k - 1, by omega⟩
    simp only [laws_eqPolOldSS.l0]; rw [if_neg (by omega)]
  | succ d ih =>
    intro k i he hk
    obtain ⟨k, rfl⟩ : ∃ m, k = m + 1 := ⟨k - 1, by omega⟩
    have hlt : i < xs.length := by omega
    have hx := hi xs[i] (List.getElem_mem hlt)
    simp only [laws_eqPolOldSS.l0]
    rw [if_pos (by omega), if_pos (by omega), if_pos (by omega), rd_L2_nat xs i hlt, eqPolOldS_refl xs[i] hx k (by omega), wrap_succ (by omega)]
    simp only [Option.bind_some, if_true]
    exact ih k (i + 1) (by omega) (by omega)
theorem eqPool_refl (e : Int) (p : List Int) (l : List (List S82)) (hp : p.length ≤ 1048576) (hl : l.length ≤ 1048576) (hi : ∀ x ∈ l, x.length ≤ 1048576) (k : Nat) (hk : 3000000 < k) : laws_eqPolPool.f k e p l e p l = some true := by
  unfold laws_eqPolPool.f laws_eqPolOldSS.f
  rw [if_pos rfl, eqIntS_refl p hp k (by omega)]
  simp only [Option.bind_some, if_true]
  have h : laws_eqPolOldSS.l0 k l l 0 = some true := eqRows_l0 l hl hi l.length k 0 (by omega) (by omega)
  rw [h]; rfl
theorem cvRows_length (l : List (List S104)) : (cvRows l).length = l.length := by simp [cvRows]
theorem cvRows_each (l : List (List S104)) (hi : ∀ x ∈ l, x.length ≤ 1048576) : ∀ x ∈ cvRows l, x.length ≤ 1048576 := by
  intro x hx
  obtain ⟨y, hy, rfl⟩ := List.mem_map.1 hx
  rw [List.length_map]; exact hi y hy

/-- What is marked: n numbers from s on. -/
def mkL (s n : Nat) : List Int := (List.range n).map fun j => ((s + j : Nat) : Int)
theorem mkL_length (s n : Nat) : (mkL s n).length = n := by simp [mkL]
theorem mkL_get (s n j : Nat) (h : j < n) : (mkL s n)[j]? = some ((s + j : Nat) : Int) := by simp [mkL, h]
theorem markIntS_l0 (s n : Nat) (hn : n ≤ 1048576) (hs : s ≤ 20000000) (d : Nat) : ∀ (k i : Nat) (ys : List Int), ys.length = n → i + d = n → d < k → (∀ j, j < i → ys[j]? = (mkL s n)[j]?) → laws_markIntS.l0 k ys ((s + i : Nat) : Int) (i : Int) = some (((s + n : Nat) : Int), mkL s n) := by
  induction d with
  | zero =>
    intro k i ys hl hi hk hj
    obtain ⟨k, rfl⟩ : ∃ m, k = m + 1 := ⟨k - 1, by omega⟩
    simp only [laws_markIntS.l0]; rw [if_neg (by omega), show i = n by omega, some_of_ext (by rw [mkL_length]; exact hl) (fun j hj' => hj j (by rw [mkL_length] at hj'; omega))]
  | succ d ih =>
    intro k i ys hl hi hk hj
    obtain ⟨k, rfl⟩ : ∃ m, k = m + 1 := ⟨k - 1, by omega⟩
    simp only [laws_markIntS.l0]
    rw [if_pos (by omega), if_pos (by omega), wrap_succ (i := i) (by omega), wrap_succ (i := s + i) (by omega), show s + i + 1 = s + (i + 1) from by omega]
    apply ih k (i + 1) _ (by simp [hl]) (by omega) (by omega)
    intro j hj'
    rw [Int.toNat_natCast, List.getElem?_set]
    by_cases h : i = j
    · subst h; rw [if_pos rfl, if_pos (by omega), mkL_get s n i (by omega)]
    · rw [if_neg h]; exact hj j (by omega)
theorem markIntS_eq (s : Nat) (l : List Int) (hn : l.length ≤ 1048576) (hs : s ≤ 20000000) (k : Nat) (hk : l.length < k) : laws_markIntS.f k l (s : Int) = some (((s + l.length : Nat) : Int), mkL s l.length) := by
  unfold laws_markIntS.f
  exact markIntS_l0 s l.length hn hs l.length k 0 l rfl (by omega) hk (fun j hj => absurd hj (Nat.not_lt_zero j))
theorem heldIntS_l0 (s n : Nat) (hn : n ≤ 1048576) (hs : s ≤ 20000000) (d : Nat) : ∀ (k i : Nat), i + d = n → d < k → laws_heldIntS.l0 k (mkL s n) ((s + i : Nat) : Int) (i : Int) = some ((s + n : Nat) : Int) := by
  induction d with
  | zero =>
    intro k i hi hk
    obtain ⟨k, rfl⟩ : ∃ m, k = m + 1 := ⟨k - 1, by omega⟩
    simp only [laws_heldIntS.l0]; rw [if_neg (by rw [mkL_length]; omega), show i = n by omega]
  | succ d ih =>
    intro k i hi hk
    obtain ⟨k, rfl⟩ : ∃ m, k = m + 1 := ⟨k - 1, by omega⟩
    have hi' : i < (mkL s n).length := by rw [mkL_length]; omega
    have hg := mkL_get s n i (by omega)
    rw [List.getElem?_eq_getElem hi'] at hg
    simp only [laws_heldIntS.l0]
    rw [if_pos (by omega), if_pos (by omega), rd_nat _ _ hi', if_pos (Option.some.inj hg), wrap_succ (i := i) (by omega), wrap_succ (i := s + i) (by omega), show s + i + 1 = s + (i + 1) from by omega]
    exact ih k (i + 1) (by omega) (by omega)
theorem heldIntS_eq (s n : Nat) (hn : n ≤ 1048576) (hs : s ≤ 20000000) (k : Nat) (hk : n < k) : laws_heldIntS.f k (mkL s n) (s : Int) = some ((s + n : Nat) : Int) := by
  unfold laws_heldIntS.f
  exact heldIntS_l0 s n hn hs n k 0 (by omega) hk

theorem sum_drop {α : Type} (xs : List (List α)) (i : Nat) (h : i < xs.length) : ((xs.drop i).map List.length).sum = xs[i].length + ((xs.drop (i + 1)).map List.length).sum := by
  rw [List.drop_eq_getElem_cons h, List.map_cons, List.sum_cons]
theorem szSum_l0 (xs : List (List S104)) (hi : ∀ x ∈ xs, x.length ≤ 9223372036854775807) (hn : xs.length ≤ 1048576) (d : Nat) : ∀ (k i a : Nat), i + d = xs.length → d < k → a ≤ 1048576 → ∃ r, laws_szPolOldSS.l0 k xs (a : Int) (i : Int) = some r ∧ (0 ≤ r → ((xs.drop i).map List.length).sum ≤ a) := by
  induction d with
  | zero =>
    intro k i a he hk ha
    obtain ⟨k, rfl⟩ : ∃ m, k = m + 1 := ⟨k - 1, by omega⟩
    simp only [laws_szPolOldSS.l0]
    rw [if_neg (by omega), List.drop_eq_nil_of_le (by omega)]
    exact ⟨_, rfl, fun _ => Nat.zero_le _⟩
  | succ d ih =>
    intro k i a he hk ha
    obtain ⟨k, rfl⟩ : ∃ m, k = m + 1 := ⟨k - 1, by omega⟩
    have hl : i < xs.length := by omega
    have hx := hi xs[i] (List.getElem_mem hl)
    simp only [laws_szPolOldSS.l0, laws_szPolOldS.f]
    rw [if_pos (by omega), if_pos (by omega), rd_L4_nat xs i hl, sum_drop xs i hl]
    have hw : wrap64 ((a : Int) - (xs[i].length : Int)) = (a : Int) - (xs[i].length : Int) := by unfold wrap64; omega
    rw [hw]
    by_cases h : (a : Int) - (xs[i].length : Int) < 0
    · rw [if_pos h]
      exact ⟨-1, rfl, fun h0 => absurd h0 (by omega)⟩
    · rw [if_neg h]
      simp only [Option.bind_some]
      rw [if_neg h, wrap_succ (by omega), show (a : Int) - (xs[i].length : Int) = ((a - xs[i].length : Nat) : Int) by omega]
      obtain ⟨r, hr, hr2⟩ := ih k (i + 1) (a - xs[i].length) (by omega) (by omega) (by omega)
      exact ⟨r, hr, fun h0 => by have := hr2 h0; omega⟩
theorem szPoolSum_eq (e : Int) (p : List Int) (l : List (List S104)) (hp : p.length ≤ 9223372036854775807) (hl : l.length ≤ 9223372036854775807) (hi : ∀ x ∈ l, x.length ≤ 9223372036854775807) (k : Nat) (hk : 1048577 < k) :
    ∃ r, laws_szPolPool.f k e p l 1048576 = some r ∧ (0 ≤ r → (l.map List.length).sum ≤ 1048576) := by
  unfold laws_szPolPool.f laws_szIntS.f laws_szPolOldSS.f
  have hw : wrap64 (1048576 - (p.length : Int)) = 1048576 - (p.length : Int) := by unfold wrap64; omega
  rw [hw]
  by_cases h : (1048576 : Int) - (p.length : Int) < 0
  · rw [if_pos h]; exact ⟨-1, rfl, fun h0 => absurd h0 (by omega)⟩
  · rw [if_neg h]
    simp only [Option.bind_some]
    rw [if_neg h]
    have hw2 : wrap64 (1048576 - (p.length : Int) - (l.length : Int)) = 1048576 - (p.length : Int) - (l.length : Int) := by unfold wrap64; omega
    rw [hw2]
    by_cases h2 : (1048576 : Int) - (p.length : Int) - (l.length : Int) < 0
    · rw [if_pos h2]; exact ⟨-1, rfl, fun h0 => absurd h0 (by omega)⟩
    · rw [if_neg h2, show (1048576 : Int) - (p.length : Int) - (l.length : Int) = ((1048576 - p.length - l.length : Nat) : Int) by omega]
      obtain ⟨r, hr, hr2⟩ := szSum_l0 l hi (by omega) l.length k 0 (1048576 - p.length - l.length) (by omega) (by omega) (by omega)
      have hr' : laws_szPolOldSS.l0 k l ((1048576 - p.length - l.length : Nat) : Int) 0 = some r := hr
      rw [hr']
      simp only [Option.bind_some]
      by_cases h3 : r < 0
      · rw [if_pos h3]; exact ⟨-1, rfl, fun h0 => absurd h0 (by omega)⟩
      · rw [if_neg h3]
        refine ⟨r, rfl, fun h0 => ?_⟩
        have := hr2 h0
        rw [List.drop_zero] at this
        omega
theorem cvRows_sum (l : List (List S104)) : ((cvRows l).map List.length).sum = (l.map List.length).sum := by
  unfold cvRows
  rw [List.map_map]
  congr 1
  exact List.map_congr_left (fun x _ => by simp)

def f0s (xs : List S82) : List Int := xs.map fun x => x.f0
def outS (L : List (List S82)) : List Int := L.flatMap f0s
theorem outS_length (L : List (List S82)) : (outS L).length = (L.map List.length).sum := by
  induction L with
  | nil => rfl
  | cons x xs ih => rw [outS, List.flatMap_cons, List.length_append, List.map_cons, List.sum_cons, ← ih, f0s, List.length_map]; rfl
theorem outS_drop (L : List (List S82)) (i : Nat) (h : i < L.length) : outS (L.drop i) = f0s L[i] ++ outS (L.drop (i + 1)) := by
  rw [List.drop_eq_getElem_cons h]; rfl
theorem specOut_l1 (e : Int) (p : List Int) (L : List (List S82)) (i : Nat) (hi : i < L.length) (hx : L[i].length ≤ 1048576) (d : Nat) : ∀ (k j : Nat) (s : List Int), j + d = L[i].length → s.length + d ≤ 4000000 → d < k →
    spec_PolOut.l1 k s (i : Int) (j : Int) e p L = spec_PolOut.l0 (k - d - 1) (s ++ f0s (L[i].drop j)) (wrap64 ((i : Int) + 1)) e p L := by
  induction d with
  | zero =>
    intro k j s hj hs hk
    obtain ⟨k, rfl⟩ : ∃ m, k = m + 1 := ⟨k - 1, by omega⟩
    simp only [spec_PolOut.l1]
    rw [if_pos (by omega), if_pos (by omega), rd_L2_nat L i hi, if_neg (by omega), List.drop_eq_nil_of_le (by omega)]
    simp [f0s]
  | succ d ih =>
    intro k j s hj hs hk
    obtain ⟨k, rfl⟩ : ∃ m, k = m + 1 := ⟨k - 1, by omega⟩
    have hl : j < L[i].length := by omega
    simp only [spec_PolOut.l1]
    rw [if_pos (by omega), if_pos (by omega), rd_L2_nat L i hi, if_pos (by omega), if_pos (by omega), if_pos (by omega), rd_82_nat L[i] j hl, List.drop_eq_getElem_cons hl, wrap_succ (by omega), ih k (j + 1) _ (by omega) (by rw [List.length_append]; simp; omega) (by omega), show k + 1 - (d + 1) - 1 = k - d - 1 by omega, List.append_assoc]
    rfl
theorem specOut_l0 (e : Int) (p : List Int) (L : List (List S82)) (hL : L.length ≤ 1048576) (hx : ∀ x ∈ L, x.length ≤ 1048576) (d : Nat) : ∀ (k i : Nat) (s : List Int), i + d = L.length → s.length + ((L.drop i).map List.length).sum ≤ 4000000 → ((L.drop i).map List.length).sum + 2 * d < k →
    spec_PolOut.l0 k s (i : Int) e p L = some (s ++ outS (L.drop i)) := by
  induction d with
  | zero =>
    intro k i s hi hs hk
    obtain ⟨k, rfl⟩ : ∃ m, k = m + 1 := ⟨k - 1, by omega⟩
    simp only [spec_PolOut.l0]
    rw [if_neg (by omega), List.drop_eq_nil_of_le (by omega)]
    simp [outS]
  | succ d ih =>
    intro k i s hi hs hk
    obtain ⟨k, rfl⟩ : ∃ m, k = m + 1 := ⟨k - 1, by omega⟩
    have h2 : i < L.length := by omega
    have hxi := hx L[i] (List.getElem_mem h2)
    rw [sum_drop L i h2] at hs hk
    simp only [spec_PolOut.l0]
    have e0 := specOut_l1 e p L i h2 hxi L[i].length k 0 s (by omega) (by omega) (by omega)
    rw [List.drop_zero] at e0
    have e0' : spec_PolOut.l1 k s (i : Int) 0 e p L = _ := e0
    have hlen : (f0s L[i]).length = L[i].length := by simp [f0s]
    rw [if_pos (by omega), e0', wrap_succ (by omega), ih (k - L[i].length - 1) (i + 1) _ (by omega) (by rw [List.length_append, hlen]; omega) (by omega), outS_drop L i h2, List.append_assoc]
theorem specPolOut_eq (e : Int) (p : List Int) (L : List (List S82)) (hL : L.length ≤ 1048576) (hx : ∀ x ∈ L, x.length ≤ 1048576) (hs : (L.map List.length).sum ≤ 1048576) (k : Nat) (hk : 20000000 < k) : spec_PolOut.f k e p L = some (outS L) := by
  have h := specOut_l0 e p L hL hx L.length k 0 [] (by omega) (by rw [List.drop_zero]; simp; omega) (by rw [List.drop_zero]; omega)
  rw [List.drop_zero] at h
  exact h
theorem implOut_l1 (L : List (List S82)) (i : Nat) (hi : i < L.length) (hx : L[i].length ≤ 1048576) (d : Nat) : ∀ (k j : Nat) (s : List Int), j + d = L[i].length → s.length + d ≤ 4000000 → d < k →
    impl_PolOut.l1 k s L (L.length : Int) (i : Int) L[i] (L[i].length : Int) (j : Int) = impl_PolOut.l0 (k - d - 1) (s ++ f0s (L[i].drop j)) L (L.length : Int) (wrap64 ((i : Int) + 1)) := by
  induction d with
  | zero =>
    intro k j s hj hs hk
    obtain ⟨k, rfl⟩ : ∃ m, k = m + 1 := ⟨k - 1, by omega⟩
    simp only [impl_PolOut.l1]
    rw [if_neg (by omega), List.drop_eq_nil_of_le (by omega)]
    simp [f0s]
  | succ d ih =>
    intro k j s hj hs hk
    obtain ⟨k, rfl⟩ : ∃ m, k = m + 1 := ⟨k - 1, by omega⟩
    have hl : j < L[i].length := by omega
    simp only [impl_PolOut.l1]
    rw [if_pos (by omega), if_pos (by omega), if_pos (by omega), if_pos (by omega), rd_82_nat L[i] j hl, List.drop_eq_getElem_cons hl, wrap_succ (by omega), ih k (j + 1) _ (by omega) (by rw [List.length_append]; simp; omega) (by omega), show k + 1 - (d + 1) - 1 = k - d - 1 by omega, List.append_assoc]
    rfl
theorem implOut_l0 (L : List (List S82)) (hL : L.length ≤ 1048576) (hx : ∀ x ∈ L, x.length ≤ 1048576) (d : Nat) : ∀ (k i : Nat) (s : List Int), i + d = L.length → s.length + ((L.drop i).map List.length).sum ≤ 4000000 → ((L.drop i).map List.length).sum + 2 * d < k →
    impl_PolOut.l0 k s L (L.length : Int) (i : Int) = some (s ++ outS (L.drop i)) := by
  induction d with
  | zero =>
    intro k i s hi hs hk
    obtain ⟨k, rfl⟩ : ∃ m, k = m + 1 := ⟨k - 1, by omega⟩
    simp only [impl_PolOut.l0]
    rw [if_neg (by omega), List.drop_eq_nil_of_le (by omega)]
    simp [outS]
  | succ d ih =>
    intro k i s hi hs hk
    obtain ⟨k, rfl⟩ : ∃ m, k = m + 1 := ⟨k - 1, by omega⟩
    have h2 : i < L.length := by omega
    have hxi := hx L[i] (List.getElem_mem h2)
    rw [sum_drop L i h2] at hs hk
    simp only [impl_PolOut.l0]
    have e0 := implOut_l1 L i h2 hxi L[i].length k 0 s (by omega) (by omega) (by omega)
    rw [List.drop_zero] at e0
    have e0' : impl_PolOut.l1 k s L (L.length : Int) (i : Int) L[i] (L[i].length : Int) 0 = _ := e0
    have hlen : (f0s L[i]).length = L[i].length := by simp [f0s]
    rw [if_pos (by omega), if_pos (by omega), if_pos (by omega), rd_L2_nat L i h2, e0', wrap_succ (by omega), ih (k - L[i].length - 1) (i + 1) _ (by omega) (by rw [List.length_append, hlen]; omega) (by omega), outS_drop L i h2, List.append_assoc]
theorem implPolOut_eq (e : Int) (p : List Int) (L : List (List S82)) (hL : L.length ≤ 1048576) (hx : ∀ x ∈ L, x.length ≤ 1048576) (hs : (L.map List.length).sum ≤ 1048576) (k : Nat) (hk : 20000000 < k) : impl_PolOut.f k e p L = some (outS L) := by
  have h := implOut_l0 L hL hx L.length k 0 [] (by omega) (by rw [List.drop_zero]; simp; omega) (by rw [List.drop_zero]; omega)
  rw [List.drop_zero] at h
  exact h
theorem markPool_eq (e : Int) (p : List Int) (L : List (List S82)) (hp : p.length ≤ 1048576) (hL : L.length ≤ 1048576) (hs : (L.map List.length).sum ≤ 1048576) (k : Nat) (hk : 20000000 < k) : laws_markPolPool.f k e p L 1 = some (((1 + p.length + 2 * (L.map List.length).sum : Nat) : Int), mkL 1 p.length) := by
  unfold laws_markPolPool.f laws_markPolOldSS.f
  have h : laws_markIntS.f k p 1 = _ := markIntS_eq 1 p hp (by omega) k (by omega)
  rw [h]
  simp only [Option.bind_some]
  rw [if_pos ⟨⟨by omega, by omega⟩, ⟨by omega, by omega⟩⟩]
  simp only [Option.bind_some]
  congr 2

theorem final (e : Int) (p : List Int) (l : List (List S104)) (hp : p.length ≤ 9223372036854775807) (hl : l.length ≤ 9223372036854775807) (hi : ∀ x ∈ l, x.length ≤ 9223372036854775807) : ∃ k, laws_FnExactPolOut.f k e p l = some true := by
  obtain ⟨K, hK⟩ : ∃ K, 30000000 ≤ K := ⟨30000000, Nat.le_refl _⟩
  refine ⟨K, ?_⟩
  obtain ⟨r, hr, hr2⟩ := szPool_eq e p l hp hl hi K (by omega)
  obtain ⟨r', hr', hr3⟩ := szPoolSum_eq e p l hp hl hi K (by omega)
  have er : r' = r := Option.some.inj (hr'.symm.trans hr)
  subst er
  unfold laws_FnExactPolOut.f
  rw [hr]
  simp only [Option.bind_some]
  by_cases hn : r' < 0
  · rw [if_pos hn]
  · rw [if_neg hn]
    obtain ⟨h1, h2, h3⟩ := hr2 (by omega)
    have h4 := hr3 (by omega)
    have e1 := toPool_eq e p l h1 h2 h3 K (by omega)
    have g2 : (cvRows l).length ≤ 1048576 := by rw [cvRows_length]; exact h2
    have g3 := cvRows_each l h3
    have g4 : ((cvRows l).map List.length).sum ≤ 1048576 := by rw [cvRows_sum]; exact h4
    generalize cvRows l = L at e1 g2 g3 g4
    have hs := specPolOut_eq e p L g2 g3 g4 K (by omega)
    have hm := implPolOut_eq e p L g2 g3 g4 K (by omega)
    have hlen := outS_length L
    generalize outS L = R at hs hm hlen
    have e3 := eqPool_refl e p L h1 g2 g3 K (by omega)
    have e2 := eqIntS_refl R (by omega) K (by omega)
    have e4 := markPool_eq e p L h1 g2 g4 K (by omega)
    have e6 : laws_markIntS.f K R 1 = _ := markIntS_eq 1 R (by omega) (by omega) K (by omega)
    have e7 : laws_heldIntS.f K (mkL 1 R.length) 1 = _ := heldIntS_eq 1 R.length (by omega) (by omega) K (by omega)
    have n0 : ∀ m : Nat, ¬ (((1 + m : Nat) : Int) < 0) := fun m => by omega
    have n1 : ∀ m : Nat, ¬ ((m : Int) < 0) := fun m => by omega
    simp only [e1, hs, hm, e2, e3, e4, e6, e7, Option.bind_some, if_true, n0, n1, if_false]
end FnExactPolOut_

theorem FnExactPolOut : ∀ (e : Int) (p : List Int) (l : List (List S104)) (hp : p.length ≤ 9223372036854775807) (hl : l.length ≤ 9223372036854775807) (hi : ∀ x ∈ l, x.length ≤ 9223372036854775807), ∃ k, laws_FnExactPolOut.f k e p l = some true := FnExactPolOut_.final

end Go.Proofs.Ytmfbkcfnooieoaa.Pure
