/-
  MapPut is the reference's: the key has the value then, all others are as they were. Conditions: none.
-/
import Derived.Test.YtabihpjgkkmnjaaGFnMapPutx1
import Derived.Test.YtabihpjgkkmnjaaGFnMapPutx2
import Derived.Test.YtabihpjgkkmnjaaGFnMapPutx3
import Derived.Test.YtabihpjgkkmnjaaGFnMapPutx4
import Derived.Test.YtabihpjgkkmnjaaGFnMapPutx5
import Derived.Test.YtabihpjgkkmnjaaGFnMapPutx6
import Derived.Test.YtabihpjgkkmnjaaGFnMapPutx7
import Derived.Test.YtabihpjgkkmnjaaGFnMapPutx8
import Derived.Test.YtabihpjgkkmnjaaGFnMapPutx9
namespace Go.Proofs.Ytabihpjgkkmnjaa.Pure
open Go.RowKit Go.Proofs.Ytabihpjgkkmnjaa.GFnMapPut Go.Proofs.YtabihpjgkkmnjaaW.PrintWords Go.Proofs.YtabihpjgkkmnjaaW.PrintLast
set_option linter.unusedVariables false
set_option linter.unusedSimpArgs false

namespace FnMapPut_
theorem wrap_nat {i : Nat} (h : i ≤ 40000000) : wrap64 (i : Int) = i := by unfold wrap64; omega
theorem wrap_succ {i : Nat} (h : i ≤ 40000000) : wrap64 ((i : Int) + 1) = ((i + 1 : Nat) : Int) := by unfold wrap64; omega
theorem wrap_pred {i : Nat} (h0 : 0 < i) (h : i ≤ 40000000) : wrap64 ((i : Int) - 1) = ((i - 1 : Nat) : Int) := by unfold wrap64; omega
theorem some_of_ext {α : Type} {ys zs : List α} (hl : ys.length = zs.length) (h : ∀ j, j < zs.length → ys[j]? = zs[j]?) : ys = zs := by
  apply List.ext_getElem?
  intro j
  by_cases hj : j < zs.length
  · exact h j hj
  · rw [List.getElem?_eq_none (by omega), List.getElem?_eq_none (by omega)]

theorem rd_nat (xs : List Int) (i : Nat) (h : i < xs.length) : rd xs (i : Int) = xs[i] := by simp [rd, h]

theorem rd_39_nat (xs : List S39) (i : Nat) (h : i < xs.length) : rd_T39 xs (i : Int) = xs[i] := by simp [rd_T39, h]

theorem l1In_eq (a b c : Int) : spec_l1In.f a b c = some (decide (b ≤ a ∧ a ≤ c)) := by
  unfold spec_l1In.f
  by_cases h : a ≥ b
  · rw [if_pos h]; congr 1; exact decide_eq_decide.2 ⟨fun h2 => ⟨h, h2⟩, fun h2 => h2.2⟩
  · rw [if_neg h]; congr 1; exact (decide_eq_false (fun h2 => h h2.1)).symm

theorem isKey_eq (a : Int) : impl_isKey.f a = some (decide (0 ≤ a ∧ a ≤ 99)) := by
  unfold impl_isKey.f
  by_cases h : a ≥ 0
  · rw [if_pos h]; congr 1; exact decide_eq_decide.2 ⟨fun h2 => ⟨h, h2⟩, fun h2 => h2.2⟩
  · rw [if_neg h]; congr 1; exact (decide_eq_false (fun h2 => h h2.1)).symm

theorem isVal_eq (a : Int) : impl_isVal.f a = some (decide (0 ≤ a ∧ a ≤ 999)) := by
  unfold impl_isVal.f
  by_cases h : a ≥ 0
  · rw [if_pos h]; congr 1; exact decide_eq_decide.2 ⟨fun h2 => ⟨h, h2⟩, fun h2 => h2.2⟩
  · rw [if_neg h]; congr 1; exact (decide_eq_false (fun h2 => h h2.1)).symm

/-- Entry j is ok: key and value in bounds, and the key above that ahead. -/
def EOk (xs : List S39) (j : Nat) : Prop :=
  (0 ≤ (rd_T39 xs (j : Int)).f0 ∧ (rd_T39 xs (j : Int)).f0 ≤ 99) ∧ (0 ≤ (rd_T39 xs (j : Int)).f1 ∧ (rd_T39 xs (j : Int)).f1 ≤ 999) ∧ (0 < j → (rd_T39 xs ((j - 1 : Nat) : Int)).f0 < (rd_T39 xs (j : Int)).f0)
instance (xs : List S39) (j : Nat) : Decidable (EOk xs j) := by unfold EOk; infer_instance

/-- Entries are ok. -/
def MOk (xs : List S39) : Prop := xs.length ≤ 8 ∧ ∀ j, j < xs.length → EOk xs j
instance (xs : List S39) : Decidable (MOk xs) := by unfold MOk; infer_instance
/-- As a bool. -/
def mokB (xs : List S39) : Bool := decide (MOk xs)

theorem specMapOk_step (xs : List S39) (k i : Nat) (hi : i < xs.length) (hn : xs.length ≤ 1048576) :
    spec_MapOk.l0 (k + 1) (i : Int) xs = if EOk xs i then spec_MapOk.l0 k ((i + 1 : Nat) : Int) xs else some false := by
  simp only [spec_MapOk.l0, l1In_eq, Option.bind_some, decide_eq_true_eq]
  rw [if_pos (by omega), if_pos (by omega), wrap_succ (by omega)]
  by_cases h1 : 0 ≤ (rd_T39 xs (i : Int)).f0 ∧ (rd_T39 xs (i : Int)).f0 ≤ 99
  · rw [if_pos h1]
    by_cases h2 : 0 ≤ (rd_T39 xs (i : Int)).f1 ∧ (rd_T39 xs (i : Int)).f1 ≤ 999
    · rw [if_pos h2]
      by_cases h3 : 0 < i
      · rw [wrap_pred h3 (by omega), if_pos (by omega), if_pos (by omega), if_pos (by omega)]
        by_cases h4 : (rd_T39 xs ((i - 1 : Nat) : Int)).f0 < (rd_T39 xs (i : Int)).f0
        · rw [if_neg (by omega), if_pos (show EOk xs i from ⟨h1, h2, fun _ => h4⟩)]
        · rw [if_pos (by omega), if_neg (fun h : EOk xs i => h4 (h.2.2 h3))]
      · rw [if_neg (by omega), if_pos (show EOk xs i from ⟨h1, h2, fun h => absurd h h3⟩)]
    · rw [if_neg h2, if_neg (fun h : EOk xs i => h2 h.2.1)]
  · rw [if_neg h1, if_neg (fun h : EOk xs i => h1 h.1)]
theorem specMapOk_l0 (xs : List S39) (hn : xs.length ≤ 1048576) (d : Nat) : ∀ (k i : Nat), i + d = xs.length → d < k → spec_MapOk.l0 k (i : Int) xs = if (∀ j, j < xs.length → i ≤ j → EOk xs j) then some true else some false := by
  induction d with
  | zero =>
    intro k i hi hk
    obtain ⟨k, rfl⟩ : ∃ m, k = m + 1 := ⟨k - 1, by omega⟩
    simp only [spec_MapOk.l0]; rw [if_neg (by omega), if_pos (fun j h1 h2 => absurd h2 (by omega))]
  | succ d ih =>
    intro k i hi hk
    obtain ⟨k, rfl⟩ : ∃ m, k = m + 1 := ⟨k - 1, by omega⟩
    rw [specMapOk_step xs k i (by omega) hn]
    by_cases h : EOk xs i
    · rw [if_pos h, ih k (i + 1) (by omega) (by omega)]
      by_cases h2 : ∀ j, j < xs.length → i + 1 ≤ j → EOk xs j
      · rw [if_pos h2, if_pos (fun j hj1 hj2 => by
          by_cases e : j = i
          · subst e; exact h
          · exact h2 j hj1 (by omega))]
      · rw [if_neg h2, if_neg (fun h3 => h2 (fun j hj1 hj2 => h3 j hj1 (by omega)))]
    · rw [if_neg h, if_neg (fun h3 => h (h3 i (by omega) (Nat.le_refl i)))]

theorem implMapOk_step (xs : List S39) (k i : Nat) (hi : i < xs.length) (hn : xs.length ≤ 1048576) :
    impl_MapOk.l0 (k + 1) xs (xs.length : Int) (i : Int) xs = if EOk xs i then impl_MapOk.l0 k xs (xs.length : Int) ((i + 1 : Nat) : Int) xs else some false := by
  simp only [impl_MapOk.l0, isKey_eq, isVal_eq, Option.bind_some, decide_eq_true_eq]
  rw [if_pos (by omega), if_pos (by omega), if_pos (by omega), wrap_succ (by omega)]
  by_cases h1 : 0 ≤ (rd_T39 xs (i : Int)).f0 ∧ (rd_T39 xs (i : Int)).f0 ≤ 99
  · rw [if_pos h1]
    by_cases h2 : 0 ≤ (rd_T39 xs (i : Int)).f1 ∧ (rd_T39 xs (i : Int)).f1 ≤ 999
    · rw [if_pos h2]
      by_cases h3 : 0 < i
      · rw [wrap_pred h3 (by omega), if_pos (by omega), if_pos (by omega), if_pos (by omega)]
        by_cases h4 : (rd_T39 xs ((i - 1 : Nat) : Int)).f0 < (rd_T39 xs (i : Int)).f0
        · rw [if_neg (by omega), if_pos (show EOk xs i from ⟨h1, h2, fun _ => h4⟩)]
        · rw [if_pos (by omega), if_neg (fun h : EOk xs i => h4 (h.2.2 h3))]
      · rw [if_neg (by omega), if_pos (show EOk xs i from ⟨h1, h2, fun h => absurd h h3⟩)]
    · rw [if_neg h2, if_neg (fun h : EOk xs i => h2 h.2.1)]
  · rw [if_neg h1, if_neg (fun h : EOk xs i => h1 h.1)]
theorem implMapOk_l0 (xs : List S39) (hn : xs.length ≤ 1048576) (d : Nat) : ∀ (k i : Nat), i + d = xs.length → d < k → impl_MapOk.l0 k xs (xs.length : Int) (i : Int) xs = if (∀ j, j < xs.length → i ≤ j → EOk xs j) then some (decide ((xs.length : Int) ≤ 8)) else some false := by
  induction d with
  | zero =>
    intro k i hi hk
    obtain ⟨k, rfl⟩ : ∃ m, k = m + 1 := ⟨k - 1, by omega⟩
    simp only [impl_MapOk.l0]; rw [if_neg (by omega), if_pos (fun j h1 h2 => absurd h2 (by omega))]
  | succ d ih =>
    intro k i hi hk
    obtain ⟨k, rfl⟩ : ∃ m, k = m + 1 := ⟨k - 1, by omega⟩
    rw [implMapOk_step xs k i (by omega) hn]
    by_cases h : EOk xs i
    · rw [if_pos h, ih k (i + 1) (by omega) (by omega)]
      by_cases h2 : ∀ j, j < xs.length → i + 1 ≤ j → EOk xs j
      · rw [if_pos h2, if_pos (fun j hj1 hj2 => by
          by_cases e : j = i
          · subst e; exact h
          · exact h2 j hj1 (by omega))]
      · rw [if_neg h2, if_neg (fun h3 => h2 (fun j hj1 hj2 => h3 j hj1 (by omega)))]
    · rw [if_neg h, if_neg (fun h3 => h (h3 i (by omega) (Nat.le_refl i)))]

theorem specMapOk_eq (xs : List S39) (hn : xs.length ≤ 1048576) (k : Nat) (hk : xs.length < k) : spec_MapOk.f k xs = some (mokB xs) := by
  unfold spec_MapOk.f mokB
  by_cases h8 : xs.length ≤ 8
  · rw [if_neg (by omega)]
    refine (specMapOk_l0 xs hn xs.length k 0 (by omega) hk).trans ?_
    by_cases h : ∀ j, j < xs.length → EOk xs j
    · rw [if_pos (fun j hj _ => h j hj), decide_eq_true (p := MOk xs) ⟨h8, h⟩]
    · rw [if_neg (fun h2 => h (fun j hj => h2 j hj (Nat.zero_le j))), decide_eq_false (p := MOk xs) (fun h2 => h h2.2)]
  · rw [if_pos (by omega), decide_eq_false (p := MOk xs) (fun h2 => h8 h2.1)]
theorem implMapOk_eq (xs : List S39) (hn : xs.length ≤ 1048576) (k : Nat) (hk : xs.length < k) : impl_MapOk.f k xs = some (mokB xs) := by
  unfold impl_MapOk.f mokB
  refine (implMapOk_l0 xs hn xs.length k 0 (by omega) hk).trans ?_
  by_cases h : ∀ j, j < xs.length → EOk xs j
  · rw [if_pos (fun j hj _ => h j hj)]
    congr 1
    exact decide_eq_decide.2 ⟨fun h2 => ⟨by omega, h⟩, fun h2 => by have := h2.1; omega⟩
  · rw [if_neg (fun h2 => h (fun j hj => h2 j hj (Nat.zero_le j))), decide_eq_false (p := MOk xs) (fun h2 => h h2.2)]

theorem xor_nat (a b : Nat) (ha : a < 4611686018427387904) (hb : b < 4611686018427387904) : Go.bits .xor .i64 (a : Int) (b : Int) = ((a ^^^ b : Nat) : Int) := by
  have hx : a ^^^ b < 2 ^ 62 := Nat.xor_lt_two_pow (by omega) (by omega)
  have h1 : (BitVec.ofInt 64 (a : Int)).toNat = a := by rw [BitVec.ofInt_natCast, BitVec.toNat_ofNat]; exact Nat.mod_eq_of_lt (by omega)
  have h2 : (BitVec.ofInt 64 (b : Int)).toNat = b := by rw [BitVec.ofInt_natCast, BitVec.toNat_ofNat]; exact Nat.mod_eq_of_lt (by omega)
  show IntKind.i64.wrap ((BitVec.ofInt 64 (a : Int) ^^^ BitVec.ofInt 64 (b : Int)).toNat : Int) = _
  rw [BitVec.toNat_xor, h1, h2]
  simp only [IntKind.wrap, IntKind.bits, IntKind.signed]
  simp
  omega
/-- A code: bytes, not too many. -/
def Cd (xs : List Int) : Prop := xs.length ≤ 3000 ∧ ∀ x ∈ xs, 0 ≤ x ∧ x ≤ 255
theorem Cd.rd {xs : List Int} (h : Cd xs) (i : Nat) (hi : i < xs.length) : ∃ a : Nat, a ≤ 255 ∧ rd xs (i : Int) = (a : Int) := by
  have := h.2 _ (List.getElem_mem hi)
  exact ⟨xs[i].toNat, by omega, by rw [rd_nat xs i hi]; omega⟩
theorem tmod_nat (a b : Nat) : Int.tmod (a : Int) (b : Int) = ((a % b : Nat) : Int) := by rw [Int.tmod_eq_emod_of_nonneg (by omega)]; rfl
theorem tdiv_nat (a b : Nat) : Int.tdiv (a : Int) (b : Int) = ((a / b : Nat) : Int) := by rw [Int.tdiv_eq_ediv_of_nonneg (by omega)]; rfl
theorem wrapn (e : Int) (n : Nat) (h : e = (n : Int)) (hn : n < 9000000000000000000) : wrap64 e = (n : Int) := by subst h; unfold wrap64; omega
theorem pick_eq (xs : List Int) (hx : Cd xs) (p : Nat) (hp : p ≤ 1000000) (n : Nat) (hn : 0 < n) (hn2 : n ≤ 100000) (k : Nat) (hk : 0 < k) : ∃ r : Nat, r < n ∧ spec_l20Rd_pick.f k xs (p : Int) (n : Int) = some ((r : Int), ((p + 1 : Nat) : Int)) := by
  obtain ⟨k, rfl⟩ : ∃ m, k = m + 1 := ⟨k - 1, by omega⟩
  unfold spec_l20Rd_pick.f
  rw [if_neg (by omega), wrap_succ (by omega)]
  have h1 : wrap64 (((p + 1 : Nat) : Int) - 1) = (p : Int) := by unfold wrap64; omega
  simp only [spec_l20Rd_pick.j0, h1]
  by_cases h0 : xs.length = 0
  · refine ⟨0, hn, ?_⟩
    rw [if_pos (by simp [h0])]; rfl
  · have hl : 0 < xs.length := by omega
    rw [if_neg (by simp only [beq_iff_eq]; omega)]
    by_cases h2 : p < xs.length
    · obtain ⟨a, ha, ea⟩ := hx.rd p h2
      rw [if_pos (by omega), if_pos (by omega), if_neg (by omega), ea, wrapn _ a rfl (by omega), tmod_nat]
      exact ⟨a % n, Nat.mod_lt _ hn, rfl⟩
    · rw [if_neg (by omega), if_neg (by omega)]
      have e7 : wrap64 ((wrap64 ((p : Int) * 7)) + 3) = ((p * 7 + 3 : Nat) : Int) := by
        rw [wrapn ((p : Int) * 7) (p * 7) (by omega) (by omega)]; exact wrapn _ _ (by omega) (by omega)
      have m1 : p % xs.length < xs.length := Nat.mod_lt _ hl
      have m2 : (p * 7 + 3) % xs.length < xs.length := Nat.mod_lt _ hl
      rw [e7, tmod_nat, tmod_nat, tdiv_nat, if_pos (by omega), if_pos (by omega), if_pos (by omega), if_pos (by omega), if_neg (by omega)]
      obtain ⟨a, ha, ea⟩ := hx.rd _ m1
      obtain ⟨b, hb, eb⟩ := hx.rd _ m2
      have hq : p / xs.length ≤ p := Nat.div_le_self _ _
      generalize p / xs.length = q at hq ⊢
      have ex : wrap64 ((wrap64 ((wrap64 ((wrap64 ((wrap64 (rd xs ((p % xs.length : Nat) : Int))) * 131)) + (wrap64 ((wrap64 (rd xs (((p * 7 + 3) % xs.length : Nat) : Int))) * 1117)))) + (wrap64 ((p : Int) * 29)))) + (wrap64 ((wrap64 (q : Int)) * 53))) = ((a * 131 + b * 1117 + p * 29 + q * 53 : Nat) : Int) := by
        rw [ea, eb, wrapn (a : Int) a rfl (by omega), wrapn (b : Int) b rfl (by omega), wrapn (q : Int) q rfl (by omega), wrapn ((a : Int) * 131) (a * 131) (by omega) (by omega), wrapn ((b : Int) * 1117) (b * 1117) (by omega) (by omega), wrapn ((p : Int) * 29) (p * 29) (by omega) (by omega), wrapn ((q : Int) * 53) (q * 53) (by omega) (by omega)]
        rw [wrapn (((a * 131 : Nat) : Int) + ((b * 1117 : Nat) : Int)) (a * 131 + b * 1117) (by omega) (by omega), wrapn (((a * 131 + b * 1117 : Nat) : Int) + ((p * 29 : Nat) : Int)) (a * 131 + b * 1117 + p * 29) (by omega) (by omega), wrapn (((a * 131 + b * 1117 + p * 29 : Nat) : Int) + ((q * 53 : Nat) : Int)) (a * 131 + b * 1117 + p * 29 + q * 53) (by omega) (by omega)]
      rw [ex]
      generalize hX : a * 131 + b * 1117 + p * 29 + q * 53 = X
      have hXb : X ≤ 100000000 := by omega
      have ed : Int.tdiv (X : Int) 64 = ((X / 64 : Nat) : Int) := tdiv_nat X 64
      rw [ed, wrapn _ (X / 64) rfl (by omega), xor_nat X (X / 64) (by omega) (by omega), tmod_nat]
      exact ⟨_, Nat.mod_lt _ hn, rfl⟩

theorem odd_eq (xs : List Int) (hx : Cd xs) (p : Nat) (hp : p ≤ 1000000) (n : Nat) (hn : 0 < n) (hn2 : n ≤ 100000) (k : Nat) (hk : 0 < k) : ∃ b : Bool, spec_l20Rd_odd.f k xs (p : Int) (n : Int) = some (b, ((p + 1 : Nat) : Int)) := by
  obtain ⟨r, _, h⟩ := pick_eq xs hx p hp n hn hn2 k hk
  unfold spec_l20Rd_odd.f
  rw [h]
  exact ⟨_, rfl⟩

theorem open_eq (l : List Int) (hw : ∀ x ∈ l, (Lit.int .u8 x).wf = true) : ∃ xs, Cd xs ∧ spec_l20Open.f l = some (xs, 0) := by
  have hb : ∀ x ∈ l, 0 ≤ x ∧ x ≤ 255 := fun x hx => by
    have := hw x hx
    simp [Lit.wf, IntKind.min, IntKind.max, IntKind.signed, IntKind.bits] at this
    omega
  unfold spec_l20Open.f
  by_cases h : l.length ≤ 3000
  · rw [if_neg (by omega)]; exact ⟨l, ⟨h, hb⟩, rfl⟩
  · rw [if_pos (by omega), if_pos (by omega)]
    exact ⟨l.take 3000, ⟨by rw [List.length_take]; omega, fun x hx => hb x (List.mem_of_mem_take hx)⟩, rfl⟩

/-- The reference's way through the entries from one on. -/
def goPut (xs : List S39) (key val : Int) : List S39 → List S39 → Bool → List S39 × Int × Int
  | [], out, dn => if (if dn = true then out else out ++ [⟨key, val⟩]).length > 8 then (xs, 3, 0) else ((if dn = true then out else out ++ [⟨key, val⟩]), 2, 0)
  | e :: r, out, dn => if e.f0 = key then (xs, 1, 0) else if dn = true then goPut xs key val r (out ++ [e]) true else if e.f0 > key then goPut xs key val r (out ++ [⟨key, val⟩] ++ [e]) true else goPut xs key val r (out ++ [e]) false
theorem goPut_length (xs : List S39) (key val : Int) (hx : xs.length ≤ 8) (l : List S39) : ∀ (out : List S39) (dn : Bool), (goPut xs key val l out dn).1.length ≤ 8 := by
  induction l with
  | nil =>
    intro out dn; unfold goPut
    by_cases h : (if dn = true then out else out ++ [(⟨key, val⟩ : S39)]).length > 8
    · rw [if_pos h]; exact hx
    · rw [if_neg h]; exact Nat.le_of_not_lt h
  | cons e r ih =>
    intro out dn
    unfold goPut
    split
    · exact hx
    · split
      · exact ih _ _
      · split
        · exact ih _ _
        · exact ih _ _
theorem specPut_l0 (xs : List S39) (key val : Int) (hn : xs.length ≤ 1048576) (d : Nat) : ∀ (k i : Nat) (out : List S39) (dn : Bool), i + d = xs.length → d < k → out.length ≤ 2 * i + 1 → spec_MapPut.l0 k key val dn (i : Int) xs out = some (goPut xs key val (xs.drop i) out dn) := by
  induction d with
  | zero =>
    intro k i out dn hi hk ho
    obtain ⟨k, rfl⟩ : ∃ m, k = m + 1 := ⟨k - 1, by omega⟩
    simp only [spec_MapPut.l0, Option.bind_some, List.nil_append, List.length_nil]
    rw [if_neg (by omega), List.drop_eq_nil_of_le (by omega)]
    unfold goPut
    cases dn
    · simp only [Bool.false_eq_true, if_false]
      rw [if_pos (by omega)]
      by_cases h : (out ++ [(⟨key, val⟩ : S39)]).length > 8
      · rw [if_pos (by omega), if_pos (by omega), if_pos h]
      · rw [if_neg (by omega), if_neg h]
    · simp only [if_true]
      by_cases h : out.length > 8
      · rw [if_pos (by omega), if_pos (by omega), if_pos h]
      · rw [if_neg (by omega), if_neg h]
  | succ d ih =>
    intro k i out dn hi hk ho
    obtain ⟨k, rfl⟩ : ∃ m, k = m + 1 := ⟨k - 1, by omega⟩
    have hi' : i < xs.length := by omega
    simp only [spec_MapPut.l0, Option.bind_some, List.nil_append, List.length_nil]
    rw [if_pos (by omega), if_pos (by omega), wrap_succ (by omega), List.drop_eq_getElem_cons hi', rd_39_nat _ _ hi']
    unfold goPut
    by_cases h : xs[i].f0 = key
    · rw [if_pos h, if_pos (by omega), if_pos h]
    · rw [if_neg h, if_neg h]
      cases dn
      · simp only [Bool.false_eq_true, if_false]
        by_cases h2 : xs[i].f0 > key
        · rw [if_pos h2, if_pos (by omega), if_pos h2, if_pos (by rw [List.length_append, List.length_singleton]; omega)]
          exact ih k (i + 1) _ true (by omega) (by omega) (by rw [List.length_append, List.length_append, List.length_singleton, List.length_singleton]; omega)
        · rw [if_neg h2, if_pos (by omega), if_neg h2]
          exact ih k (i + 1) _ false (by omega) (by omega) (by rw [List.length_append, List.length_singleton]; omega)
      · simp only [if_true]
        rw [if_pos (by omega)]
        exact ih k (i + 1) _ true (by omega) (by omega) (by rw [List.length_append, List.length_singleton]; omega)
/-- What the reference's MapPut tells. -/
def putS (xs : List S39) (key val : Int) : List S39 × Int × Int := if MOk xs ∧ (0 ≤ key ∧ key ≤ 99) ∧ (0 ≤ val ∧ val ≤ 999) then goPut xs key val xs [] false else ([], 0, 0)
theorem putS_length (xs : List S39) (key val : Int) : (putS xs key val).1.length ≤ 8 := by
  unfold putS
  split
  · rename_i h; exact goPut_length xs key val h.1.1 xs [] false
  · exact Nat.zero_le _
theorem specMapPut_eq (xs : List S39) (key val : Int) (hn : xs.length ≤ 1048576) (k : Nat) (hk : xs.length + 1 < k) : spec_MapPut.f k xs key val = some (putS xs key val) := by
  obtain ⟨k, rfl⟩ : ∃ m, k = m + 1 := ⟨k - 1, by omega⟩
  have hj : ∀ t, spec_MapPut.j0 (k + 1) key val t xs = if t = true then some ([], 0, 0) else spec_MapPut.l0 k key val false 0 xs [] := fun t => by simp only [spec_MapPut.j0]
  have hl : spec_MapPut.l0 k key val false 0 xs [] = some (goPut xs key val xs [] false) := specPut_l0 xs key val hn xs.length k 0 [] false (by omega) (by omega) (by simp)
  unfold spec_MapPut.f putS
  rw [specMapOk_eq xs (by omega) _ (by omega)]
  simp only [Option.bind_some, hj, hl, l1In_eq, mokB, decide_eq_true_eq]
  by_cases h1 : MOk xs
  · rw [if_pos h1]
    by_cases h2 : 0 ≤ key ∧ key ≤ 99
    · rw [if_pos h2]
      by_cases h3 : 0 ≤ val ∧ val ≤ 999
      · rw [if_neg (by simp [h3]), if_pos (show MOk xs ∧ _ from ⟨h1, h2, h3⟩)]
      · rw [if_pos (by simp only [decide_eq_false h3]; rfl), if_neg (fun h => h3 h.2.2)]
    · rw [if_neg h2, if_pos trivial, if_neg (fun h => h2 h.2.1)]
  · rw [if_neg h1, if_pos trivial, if_neg (fun h => h1 h.1)]

theorem map_l1 (xs : List Int) (d : Nat) : ∀ (k p : Nat) (m : List S39), m.length + d = 9 → d < k → ∃ m' : List S39, m'.length ≤ 9 ∧ spec_l20Map.l1 k xs (p : Int) m = some (m', (p : Int)) := by
  induction d with
  | zero =>
    intro k p m hm hk
    obtain ⟨k, rfl⟩ : ∃ j, k = j + 1 := ⟨k - 1, by omega⟩
    simp only [spec_l20Map.l1]
    rw [if_neg (by omega)]
    exact ⟨m, by omega, rfl⟩
  | succ d ih =>
    intro k p m hm hk
    obtain ⟨k, rfl⟩ : ∃ j, k = j + 1 := ⟨k - 1, by omega⟩
    simp only [spec_l20Map.l1]
    rw [if_pos (by omega), if_pos (by omega)]
    exact ih k p _ (by rw [List.length_append, List.length_singleton]; omega) (by omega)
theorem map_l0 (xs : List Int) (hx : Cd xs) (n : Nat) (hn : 0 < n) (hn2 : n ≤ 1000) (d : Nat) (hd : d ≤ 8) : ∀ (k p : Nat) (m : List S39), p + 6 * d ≤ 2000 → m.length ≤ 8 → d + 100 < k → ∃ m' : List S39, ∃ q : Nat, m'.length ≤ 9 ∧ q ≤ p + 6 * d + 2 ∧ spec_l20Map.l0 k (n : Int) (d : Int) xs (p : Int) m = some (m', (q : Int)) := by
  induction d with
  | zero =>
    intro k p m hp hm hk
    obtain ⟨k, rfl⟩ : ∃ j, k = j + 1 := ⟨k - 1, by omega⟩
    simp only [spec_l20Map.l0]
    obtain ⟨b, hb⟩ := odd_eq xs hx p (by omega) n hn (by omega) k (by omega)
    rw [if_neg (by omega), hb]
    simp only [Option.bind_some]
    cases b
    · rw [if_neg (by simp)]; exact ⟨m, p + 1, by omega, by omega, rfl⟩
    · rw [if_pos rfl]
      obtain ⟨r, hr, e⟩ := pick_eq xs hx (p + 1) (by omega) 4 (by omega) (by omega) k (by omega)
      rw [show spec_l20Rd_pick.f k xs ((p + 1 : Nat) : Int) 4 = _ from e]
      simp only [Option.bind_some]
      by_cases h0 : (r : Int) = 0
      · rw [if_pos h0, if_pos (by omega)]; exact ⟨_, p + 1 + 1, by rw [List.length_append, List.length_singleton]; omega, by omega, rfl⟩
      · rw [if_neg h0]
        by_cases h1 : (r : Int) = 1
        · rw [if_pos h1, if_pos (by omega)]; exact ⟨_, p + 1 + 1, by rw [List.length_append, List.length_singleton]; omega, by omega, rfl⟩
        · rw [if_neg h1]
          by_cases h2 : (r : Int) = 2
          · rw [if_pos h2, if_pos (by omega)]; exact ⟨_, p + 1 + 1, by rw [List.length_append, List.length_singleton]; omega, by omega, rfl⟩
          · rw [if_neg h2]
            obtain ⟨m', h3, h4⟩ := map_l1 xs (9 - m.length) k (p + 1 + 1) m (by omega) (by omega)
            exact ⟨m', p + 1 + 1, h3, by omega, h4⟩
  | succ d ih =>
    intro k p m hp hm hk
    obtain ⟨k, rfl⟩ : ∃ j, k = j + 1 := ⟨k - 1, by omega⟩
    simp only [spec_l20Map.l0]
    obtain ⟨r1, hr1, e1⟩ := pick_eq xs hx p (by omega) 10 (by omega) (by omega) k (by omega)
    obtain ⟨r2, hr2, e2⟩ := pick_eq xs hx (p + 1) (by omega) 100 (by omega) (by omega) k (by omega)
    obtain ⟨r3, hr3, e3⟩ := pick_eq xs hx (p + 1 + 1) (by omega) 4 (by omega) (by omega) k (by omega)
    obtain ⟨r4, hr4, e4⟩ := pick_eq xs hx (p + 1 + 1 + 1) (by omega) 10 (by omega) (by omega) k (by omega)
    obtain ⟨r5, hr5, e5⟩ := pick_eq xs hx (p + 1 + 1 + 1 + 1) (by omega) 3 (by omega) (by omega) k (by omega)
    rw [if_pos (by omega), show spec_l20Rd_pick.f k xs (p : Int) 10 = _ from e1]
    simp only [Option.bind_some]
    rw [show spec_l20Rd_pick.f k xs ((p + 1 : Nat) : Int) 100 = _ from e2]
    simp only [Option.bind_some]
    rw [show spec_l20Rd_pick.f k xs ((p + 1 + 1 : Nat) : Int) 4 = _ from e3]
    simp only [Option.bind_some]
    rw [if_pos (by omega), if_pos (by simp; omega), show spec_l20Rd_pick.f k xs ((p + 1 + 1 + 1 : Nat) : Int) 10 = _ from e4]
    simp only [Option.bind_some]
    rw [show spec_l20Rd_pick.f k xs ((p + 1 + 1 + 1 + 1 : Nat) : Int) 3 = _ from e5]
    simp only [Option.bind_some]
    rw [if_pos (by omega), if_pos (by simp; omega), specMapPut_eq m _ _ (by omega) k (by omega), show wrap64 (((d + 1 : Nat) : Int) - 1) = (d : Int) from by unfold wrap64; omega]
    simp only [Option.bind_some]
    obtain ⟨m', q, h1, h2, h3⟩ := ih (by omega) k (p + 1 + 1 + 1 + 1 + 1) _ (by omega) (putS_length m _ _) (by omega)
    exact ⟨m', q, h1, by omega, h3⟩
theorem map_eq (xs : List Int) (hx : Cd xs) (n : Nat) (hn : 0 < n) (hn2 : n ≤ 1000) (k p : Nat) (hp : p ≤ 100) (hk : 200 < k) : ∃ m : List S39, ∃ q : Nat, m.length ≤ 9 ∧ q ≤ 200 ∧ spec_l20Map.f k xs (p : Int) (n : Int) = some (m, (q : Int)) := by
  unfold spec_l20Map.f
  obtain ⟨r, hr, e⟩ := pick_eq xs hx p (by omega) 9 (by omega) (by omega) k (by omega)
  rw [show spec_l20Rd_pick.f k xs (p : Int) 9 = _ from e]
  simp only [Option.bind_some]
  obtain ⟨m, q, h1, h2, h3⟩ := map_l0 xs hx n hn hn2 r (by omega) k (p + 1) [] (by omega) (by simp) (by omega)
  exact ⟨m, q, h1, by omega, h3⟩

theorem key_eq (xs : List Int) (hx : Cd xs) (n : Nat) (hn : 0 < n) (hn2 : n ≤ 1000) (k p : Nat) (hp : p ≤ 1000) (hk : 20 < k) : ∃ key : Int, ∃ q : Nat, q ≤ p + 10 ∧ spec_l20Key.f k xs (p : Int) (n : Int) = some (key, (q : Int)) := by
  unfold spec_l20Key.f
  obtain ⟨b, hb⟩ := odd_eq xs hx p (by omega) n hn (by omega) k (by omega)
  rw [hb]
  simp only [Option.bind_some]
  cases b
  · rw [if_neg (by simp)]
    obtain ⟨r1, hr1, e1⟩ := pick_eq xs hx (p + 1) (by omega) 10 (by omega) (by omega) k (by omega)
    obtain ⟨r2, hr2, e2⟩ := pick_eq xs hx (p + 1 + 1) (by omega) 10 (by omega) (by omega) k (by omega)
    obtain ⟨r3, hr3, e3⟩ := pick_eq xs hx (p + 1 + 1 + 1) (by omega) 100 (by omega) (by omega) k (by omega)
    obtain ⟨r4, hr4, e4⟩ := pick_eq xs hx (p + 1 + 1 + 1 + 1) (by omega) 4 (by omega) (by omega) k (by omega)
    rw [show spec_l20Rd_pick.f k xs ((p + 1 : Nat) : Int) 10 = _ from e1]
    simp only [Option.bind_some]
    rw [show spec_l20Rd_pick.f k xs ((p + 1 + 1 : Nat) : Int) 10 = _ from e2]
    simp only [Option.bind_some]
    rw [show spec_l20Rd_pick.f k xs ((p + 1 + 1 + 1 : Nat) : Int) 100 = _ from e3]
    simp only [Option.bind_some]
    rw [show spec_l20Rd_pick.f k xs ((p + 1 + 1 + 1 + 1 : Nat) : Int) 4 = _ from e4]
    simp only [Option.bind_some]
    rw [if_pos (by omega), if_pos (by simp; omega)]
    exact ⟨_, p + 1 + 1 + 1 + 1 + 1, by omega, rfl⟩
  · rw [if_pos rfl]
    obtain ⟨r1, hr1, e1⟩ := pick_eq xs hx (p + 1) (by omega) 3 (by omega) (by omega) k (by omega)
    rw [show spec_l20Rd_pick.f k xs ((p + 1 : Nat) : Int) 3 = _ from e1]
    simp only [Option.bind_some]
    rw [if_pos (by omega), if_pos (by simp; omega)]
    exact ⟨_, p + 1 + 1, by omega, rfl⟩

theorem tgOk_eq (k : Nat) (hk : 5 < k) : laws_tgOk.f k = some true := by
  obtain ⟨k, rfl⟩ : ∃ m, k = m + 1 := ⟨k - 1, by omega⟩
  unfold laws_tgOk.f impl_MapOk.f
  simp [impl_MapOk.l0]

/-- What is got: the first entry of a key. -/
def getS (xs : List S39) (key : Int) : Int × Int := match xs.find? (fun e => decide (e.f0 = key)) with | some e => (2, e.f1) | none => (1, 0)

theorem implMapGet_l0 (xs : List S39) (key : Int) (hn : xs.length ≤ 1048576) (d : Nat) : ∀ (k i : Nat), i + d = xs.length → d < k → impl_MapGet.l0 k key xs (xs.length : Int) (i : Int) = some (match (xs.drop i).find? (fun e => decide (e.f0 = key)) with | some e => (2, e.f1) | none => (1, 0)) := by
  induction d with
  | zero =>
    intro k i hi hk
    obtain ⟨k, rfl⟩ : ∃ m, k = m + 1 := ⟨k - 1, by omega⟩
    simp only [impl_MapGet.l0, impl_yes.f, impl_no.f, Option.bind_some]; rw [if_neg (by omega), List.drop_eq_nil_of_le (by omega)]; rfl
  | succ d ih =>
    intro k i hi hk
    obtain ⟨k, rfl⟩ : ∃ m, k = m + 1 := ⟨k - 1, by omega⟩
    have hi' : i < xs.length := by omega
    simp only [impl_MapGet.l0, impl_yes.f, impl_no.f, Option.bind_some]
    rw [if_pos (by omega), if_pos (by omega), if_pos (by omega), wrap_succ (by omega), List.drop_eq_getElem_cons hi', rd_39_nat _ _ hi', List.find?_cons]
    by_cases h : xs[i].f0 = key
    · rw [if_pos h]; simp [h]
    · rw [if_neg h, ih k (i + 1) (by omega) (by omega)]; simp [h]

theorem implMapGet_eq (xs : List S39) (key : Int) (hn : xs.length ≤ 1048576) (k : Nat) (hk : xs.length < k) : impl_MapGet.f k xs key = some (getS xs key) := by
  unfold impl_MapGet.f
  exact implMapGet_l0 xs key hn xs.length k 0 (by omega) hk

/-- The first key from a key on. -/
def nextS (xs : List S39) (key : Int) : Int × Int := match xs.find? (fun e => decide (e.f0 ≥ key)) with | some e => (2, e.f0) | none => (1, 0)

theorem MOk.step {xs : List S39} (h : MOk xs) (j : Nat) (hj : j + 1 < xs.length) : (xs[j]'(by omega)).f0 < xs[j + 1].f0 := by
  have := (h.2 (j + 1) hj).2.2 (by omega)
  rw [rd_39_nat _ _ hj, show j + 1 - 1 = j from rfl, rd_39_nat _ _ (by omega)] at this
  exact this
theorem MOk.lt {xs : List S39} (h : MOk xs) (i d : Nat) : ∀ hj : i + d + 1 < xs.length, (xs[i]'(by omega)).f0 < xs[i + d + 1].f0 := by
  induction d with
  | zero => intro hj; exact h.step i hj
  | succ d ih =>
    intro hj
    have h1 := ih (by omega)
    have h2 := h.step (i + d + 1) (by omega)
    exact Int.lt_trans h1 h2
theorem MOk.lt' {xs : List S39} (h : MOk xs) (i j : Nat) (hij : i < j) (hj : j < xs.length) : (xs[i]'(by omega)).f0 < xs[j].f0 := by
  obtain ⟨d, rfl⟩ : ∃ d, j = i + d + 1 := ⟨j - i - 1, by omega⟩
  exact h.lt i d hj
theorem MOk.key {xs : List S39} (h : MOk xs) (i : Nat) (hi : i < xs.length) : 0 ≤ xs[i].f0 ∧ xs[i].f0 ≤ 99 := by
  have := (h.2 i hi).1
  rw [rd_39_nat _ _ hi] at this
  exact this
theorem MOk.val {xs : List S39} (h : MOk xs) (i : Nat) (hi : i < xs.length) : 0 ≤ xs[i].f1 ∧ xs[i].f1 ≤ 999 := by
  have := (h.2 i hi).2.1
  rw [rd_39_nat _ _ hi] at this
  exact this
theorem MOk.mk_ {xs : List S39} (hl : xs.length ≤ 8) (hk : ∀ e ∈ xs, (0 ≤ e.f0 ∧ e.f0 ≤ 99) ∧ (0 ≤ e.f1 ∧ e.f1 ≤ 999)) (hs : ∀ j, (hj : j + 1 < xs.length) → (xs[j]'(by omega)).f0 < xs[j + 1].f0) : MOk xs := by
  refine ⟨hl, fun j hj => ?_⟩
  have h := hk _ (List.getElem_mem hj)
  refine ⟨by rw [rd_39_nat _ _ hj]; exact h.1, by rw [rd_39_nat _ _ hj]; exact h.2, fun h0 => ?_⟩
  obtain ⟨i, rfl⟩ : ∃ i, j = i + 1 := ⟨j - 1, by omega⟩
  rw [rd_39_nat _ _ hj, show i + 1 - 1 = i from rfl, rd_39_nat _ _ (by omega)]
  exact hs i hj
/-- What nextS finds, by its place. -/
theorem next_cases (xs : List S39) (key : Int) : (nextS xs key = (1, 0) ∧ ∀ i, (h : i < xs.length) → xs[i].f0 < key) ∨ ∃ p, ∃ h : p < xs.length, nextS xs key = (2, xs[p].f0) ∧ key ≤ xs[p].f0 ∧ ∀ j, (hj : j < p) → (xs[j]'(by omega)).f0 < key := by
  unfold nextS
  cases hf : xs.find? (fun e => decide (e.f0 ≥ key)) with
  | none =>
    refine .inl ⟨rfl, fun i h => ?_⟩
    rw [List.find?_eq_none] at hf
    have := hf _ (List.getElem_mem h)
    simp at this
    exact this
  | some e =>
    rw [List.find?_eq_some_iff_getElem] at hf
    obtain ⟨h1, p, hp, rfl, h2⟩ := hf
    refine .inr ⟨p, hp, rfl, by simpa using h1, fun j hj => ?_⟩
    have := h2 j hj
    simpa using this

theorem cmp_eq (a b : Int) : cmp_Compare_int.f a b = some (if a < b then -1 else if a > b then 1 else 0) := by
  unfold cmp_Compare_int.f cmp_isNaN_int.f
  simp only [Option.bind_some]
  rw [if_neg (by simp), if_neg (by simp)]
  by_cases h1 : a < b
  · rw [if_pos h1, if_pos h1]
  · rw [if_neg h1, if_neg h1]
    by_cases h2 : a > b
    · rw [if_pos h2, if_pos h2]
    · rw [if_neg h2, if_neg h2]
theorem find1_eq (a b c : Int) : impl_MapMap_find_1.f a b c = some (if a < c then -1 else if a > c then 1 else 0) := by
  unfold impl_MapMap_find_1.f
  rw [cmp_eq]; rfl
/-- Whether the entry at a place has the key. -/
def hitB (xs : List S39) (p : Nat) (key : Int) : Bool := match xs[p]? with | some e => decide (e.f0 = key) | none => false
theorem hitB_lt (xs : List S39) (p : Nat) (key : Int) (h : p < xs.length) : hitB xs p key = decide (xs[p].f0 = key) := by unfold hitB; rw [List.getElem?_eq_getElem h]
theorem hitB_ge (xs : List S39) (p : Nat) (key : Int) (h : xs.length ≤ p) : hitB xs p key = false := by unfold hitB; rw [List.getElem?_eq_none h]
theorem wmid (i j : Nat) (h : i + j ≤ 1000000) : wrap64 ((IntKind.u64.wrap (wrap64 ((i : Int) + (j : Int)))) / 2) = (((i + j) / 2 : Nat) : Int) := by
  have e1 : wrap64 ((i : Int) + (j : Int)) = ((i + j : Nat) : Int) := by unfold wrap64; omega
  have e2 : IntKind.u64.wrap ((i + j : Nat) : Int) = ((i + j : Nat) : Int) := by
    simp only [IntKind.wrap, IntKind.bits, IntKind.signed]
    simp
    omega
  rw [e1, e2]
  unfold wrap64; omega
theorem find_l0 (xs : List S39) (key : Int) (hm : MOk xs) (d : Nat) : ∀ (k i j : Nat), i ≤ j → j ≤ xs.length → j ≤ i + d → d < k → (∀ t, (ht : t < xs.length) → t < i → xs[t].f0 < key) → (∀ t, (ht : t < xs.length) → j ≤ t → key ≤ xs[t].f0) →
    ∃ p : Nat, p ≤ xs.length ∧ (∀ t, (ht : t < xs.length) → t < p → xs[t].f0 < key) ∧ (∀ t, (ht : t < xs.length) → p ≤ t → key ≤ xs[t].f0) ∧ impl_MapEntry_int.l0 k xs key (xs.length : Int) (i : Int) (j : Int) = some ((p : Int), hitB xs p key) := by
  have hn : xs.length ≤ 8 := hm.1
  induction d with
  | zero =>
    intro k i j hij hj hd hk h1 h2
    obtain ⟨k, rfl⟩ : ∃ m, k = m + 1 := ⟨k - 1, by omega⟩
    have : i = j := by omega
    subst this
    refine ⟨i, hj, h1, h2, ?_⟩
    simp only [impl_MapEntry_int.l0]
    rw [if_neg (by omega)]
    by_cases hi : i < xs.length
    · rw [if_pos (by omega), if_pos (by omega), if_pos (by omega), rd_39_nat _ _ hi, find1_eq]
      simp only [Option.bind_some, hitB]
      rw [List.getElem?_eq_getElem hi]
      have := h2 i hi (Nat.le_refl i)
      rw [if_neg (by omega)]
      by_cases he : xs[i].f0 = key
      · rw [if_neg (by omega)]; simp [he]
      · rw [if_pos (by omega)]; simp [he]
    · rw [if_neg (by omega)]
      simp only [hitB]
      rw [List.getElem?_eq_none (by omega)]
  | succ d ih =>
    intro k i j hij hj hd hk h1 h2
    obtain ⟨k, rfl⟩ : ∃ m, k = m + 1 := ⟨k - 1, by omega⟩
    by_cases hlt : i < j
    · simp only [impl_MapEntry_int.l0]
      have hmid : (i + j) / 2 < xs.length := by omega
      rw [if_pos (by omega), wmid i j (by omega), if_pos (by omega), if_pos (by omega), rd_39_nat _ _ hmid, find1_eq]
      simp only [Option.bind_some]
      by_cases hc : xs[(i + j) / 2].f0 < key
      · rw [if_pos hc, if_pos (by omega), wrap_succ (by omega)]
        refine ih k ((i + j) / 2 + 1) j (by omega) hj (by omega) (by omega) (fun t ht htl => ?_) h2
        rcases Nat.lt_or_ge t ((i + j) / 2) with h | h
        · have := hm.lt' t ((i + j) / 2) h hmid; omega
        · have : t = (i + j) / 2 := by omega
          subst this; exact hc
      · rw [if_neg hc, if_neg (by split <;> omega)]
        refine ih k i ((i + j) / 2) (by omega) (by omega) (by omega) (by omega) h1 (fun t ht htl => ?_)
        rcases Nat.lt_or_ge ((i + j) / 2) t with h | h
        · have := hm.lt' ((i + j) / 2) t h ht; omega
        · have : t = (i + j) / 2 := by omega
          subst this; omega
    · obtain ⟨p, q⟩ := ih (k + 1) i j hij hj (by omega) (by omega) h1 h2
      exact ⟨p, q⟩
theorem find_eq (xs : List S39) (key : Int) (hm : MOk xs) (k : Nat) (hk : 20 < k) :
    ∃ p : Nat, p ≤ xs.length ∧ (∀ t, (ht : t < xs.length) → t < p → xs[t].f0 < key) ∧ (∀ t, (ht : t < xs.length) → p ≤ t → key ≤ xs[t].f0) ∧ impl_MapMap_find.f k xs key = some ((p : Int), hitB xs p key) := by
  have hn : xs.length ≤ 8 := hm.1
  obtain ⟨p, h1, h2, h3, h4⟩ := find_l0 xs key hm xs.length k 0 xs.length (Nat.zero_le _) (Nat.le_refl _) (by omega) (by omega) (fun t _ h => absurd h (Nat.not_lt_zero t)) (fun t ht h => absurd ht (by omega))
  refine ⟨p, h1, h2, h3, ?_⟩
  unfold impl_MapMap_find.f impl_MapEntry_int.f
  rw [show impl_MapEntry_int.l0 k xs key (xs.length : Int) 0 (xs.length : Int) = _ from h4]; rfl
theorem cloneM_eq (l : List S39) (hn : l.length ≤ 1048576) : impl_MapEntry_41.f l = some l := by
  unfold impl_MapEntry_41.f
  simp only [Option.bind_some, List.nil_append, List.length_nil]
  rw [if_pos (by omega)]
theorem copyM_eq (l : List S39) (hn : l.length ≤ 1048576) : impl_MapMap_copy.f l = some l := by
  unfold impl_MapMap_copy.f
  rw [cloneM_eq l hn]; rfl

theorem insM_eq (l : List S39) (p : Nat) (x : S39) (hp : p ≤ l.length) (hn : l.length ≤ 1000000) : impl_MapEntry_47.f l (p : Int) [x] = some (l.take p ++ [x] ++ l.drop p) := by
  unfold impl_MapEntry_47.f Go.Proofs.Ytabihpjgkkmnjaa.Ins39.f
  rw [if_pos (by omega), if_pos (by omega), if_pos hn, if_pos (show [x].length = 1 from rfl), Int.toNat_natCast]
theorem goPut_pre (xs : List S39) (key val : Int) (r l : List S39) : ∀ out, (∀ e ∈ l, e.f0 < key) → goPut xs key val (l ++ r) out false = goPut xs key val r (out ++ l) false := by
  induction l with
  | nil => intro out _; simp
  | cons e l ih =>
    intro out h
    have he := h e List.mem_cons_self
    rw [List.cons_append, goPut, if_neg (by omega), if_neg (by simp), if_neg (by omega), ih _ (fun e' h' => h e' (List.mem_cons_of_mem _ h'))]
    simp
theorem goPut_post (xs : List S39) (key val : Int) (l : List S39) : ∀ out, (∀ e ∈ l, key < e.f0) → goPut xs key val l out true = if (out ++ l).length > 8 then (xs, 3, 0) else (out ++ l, 2, 0) := by
  induction l with
  | nil => intro out _; simp [goPut]
  | cons e l ih =>
    intro out h
    have he := h e List.mem_cons_self
    rw [goPut, if_neg (by omega), if_pos rfl, ih _ (fun e' h' => h e' (List.mem_cons_of_mem _ h'))]
    simp
/-- The reference's way, by the place. -/
theorem goPut_place (xs : List S39) (key val : Int) (hm : MOk xs) (p : Nat) (hp : p ≤ xs.length) (h1 : ∀ t, (ht : t < xs.length) → t < p → xs[t].f0 < key) (h2 : ∀ t, (ht : t < xs.length) → p ≤ t → key ≤ xs[t].f0) :
    goPut xs key val xs [] false = if hitB xs p key = true then (xs, 1, 0) else if xs.length = 8 then (xs, 3, 0) else (xs.take p ++ [⟨key, val⟩] ++ xs.drop p, 2, 0) := by
  have hpre : goPut xs key val (xs.take p ++ xs.drop p) [] false = goPut xs key val (xs.drop p) (xs.take p) false := by
    have := goPut_pre xs key val (xs.drop p) (xs.take p) [] (fun e he => by
      obtain ⟨t, ht, rfl⟩ := List.getElem_of_mem he
      have hl : t < p ∧ t < xs.length := by rw [List.length_take] at ht; omega
      rw [List.getElem_take]
      exact h1 t hl.2 hl.1)
    simpa using this
  rw [List.take_append_drop] at hpre
  rw [hpre]
  have hn8 : xs.length ≤ 8 := hm.1
  by_cases hlt : p < xs.length
  · rw [List.drop_eq_getElem_cons hlt, goPut]
    rw [hitB_lt xs p key hlt]
    by_cases he : xs[p].f0 = key
    · rw [if_pos he, if_pos (by simp [he])]
    · have := h2 p hlt (Nat.le_refl p)
      rw [if_neg he, if_neg (by simp), if_pos (by omega), if_neg (by simp [he]), goPut_post]
      · have hlen : (xs.take p ++ [(⟨key, val⟩ : S39)] ++ [xs[p]] ++ xs.drop (p + 1)).length = xs.length + 1 := by simp; omega
        rw [hlen]
        by_cases h8 : xs.length = 8
        · rw [if_pos (by omega), if_pos h8]
        · rw [if_neg (by omega), if_neg h8]; simp
      · intro e he'
        obtain ⟨t, ht, rfl⟩ := List.getElem_of_mem he'
        rw [List.length_drop] at ht
        rw [List.getElem_drop]
        have h3 := hm.lt' p (p + 1 + t) (by omega) (by omega)
        omega
  · have hpe : p = xs.length := by omega
    subst hpe
    rw [List.drop_length, List.take_length, goPut]
    rw [hitB_ge xs xs.length key (Nat.le_refl _)]
    simp only [Bool.false_eq_true, if_false]
    have hlen : (xs ++ [(⟨key, val⟩ : S39)]).length = xs.length + 1 := by simp
    rw [hlen]
    by_cases h8 : xs.length = 8
    · rw [if_pos (by omega), if_pos h8]
    · rw [if_neg (by omega), if_neg h8]; simp
theorem implMapPut_eq (xs : List S39) (key val : Int) (hn : xs.length ≤ 1048576) (k : Nat) (hk : xs.length + 30 < k) : impl_MapPut.f k xs key val = some (putS xs key val) := by
  obtain ⟨k, rfl⟩ : ∃ m, k = m + 1 := ⟨k - 1, by omega⟩
  unfold impl_MapPut.f putS
  rw [implMapOk_eq xs hn _ (by omega)]
  simp only [Option.bind_some, isKey_eq, isVal_eq, impl_MapPut.j0, mokB, decide_eq_true_eq]
  by_cases h1 : MOk xs
  · rw [if_pos h1]
    by_cases h2 : 0 ≤ key ∧ key ≤ 99
    · rw [if_pos h2]
      by_cases h3 : 0 ≤ val ∧ val ≤ 999
      · rw [if_neg (by simp [h3]), if_pos (show MOk xs ∧ _ from ⟨h1, h2, h3⟩)]
        obtain ⟨p, hp, a1, a2, e⟩ := find_eq xs key h1 k (by omega)
        rw [e, goPut_place xs key val h1 p hp a1 a2]
        simp only [Option.bind_some]
        have h8 := h1.1
        by_cases hb : hitB xs p key = true
        · rw [if_pos hb, if_pos hb, copyM_eq xs hn]; rfl
        · rw [if_neg hb, if_neg hb]
          by_cases h9 : xs.length = 8
          · rw [if_pos (by omega), if_pos h9, copyM_eq xs hn]; rfl
          · rw [if_neg (by omega), if_neg h9, cloneM_eq xs hn]
            simp only [Option.bind_some]
            rw [insM_eq xs p _ hp (by omega)]; rfl
      · rw [if_pos (by simp only [decide_eq_false h3]; rfl), if_neg (fun h => h3 h.2.2)]
    · rw [if_neg h2, if_pos trivial, if_neg (fun h => h2 h.2.1)]
  · rw [if_neg h1, if_pos trivial, if_neg (fun h => h1 h.1)]

theorem MOk.of_pw {xs : List S39} (hl : xs.length ≤ 8) (hk : ∀ e ∈ xs, (0 ≤ e.f0 ∧ e.f0 ≤ 99) ∧ (0 ≤ e.f1 ∧ e.f1 ≤ 999)) (hp : xs.Pairwise (fun a b => a.f0 < b.f0)) : MOk xs :=
  MOk.mk_ hl hk (fun j hj => List.pairwise_iff_getElem.1 hp j (j + 1) (by omega) hj (by omega))
theorem MOk.pw {xs : List S39} (h : MOk xs) : xs.Pairwise (fun a b => a.f0 < b.f0) := List.pairwise_iff_getElem.2 (fun i j hi hj hij => h.lt' i j hij hj)
theorem getS_none (xs : List S39) (key : Int) (h : ∀ e ∈ xs, e.f0 ≠ key) : getS xs key = (1, 0) := by
  unfold getS
  rw [List.find?_eq_none.2 (fun e he => by simpa using h e he)]
theorem putS_cases (xs : List S39) (key val : Int) (hm : MOk xs) (hk : 0 ≤ key ∧ key ≤ 99) (hv : 0 ≤ val ∧ val ≤ 999) :
    (putS xs key val = (xs, 1, 0) ∧ (getS xs key).1 = 2) ∨ (putS xs key val = (xs, 3, 0) ∧ xs.length = 8 ∧ getS xs key = (1, 0)) ∨
    ∃ p, p ≤ xs.length ∧ xs.length ≠ 8 ∧ putS xs key val = (xs.take p ++ [⟨key, val⟩] ++ xs.drop p, 2, 0) ∧ (∀ e ∈ xs.take p, e.f0 < key) ∧ (∀ e ∈ xs.drop p, key < e.f0) := by
  obtain ⟨p, hp, a1, a2, _⟩ := find_eq xs key hm 100 (by omega)
  unfold putS
  rw [if_pos ⟨hm, hk, hv⟩, goPut_place xs key val hm p hp a1 a2]
  have ht : ∀ e ∈ xs.take p, e.f0 < key := fun e h => by
    obtain ⟨t, ht, rfl⟩ := List.getElem_of_mem h
    have hl : t < p ∧ t < xs.length := by rw [List.length_take] at ht; omega
    rw [List.getElem_take]; exact a1 t hl.2 hl.1
  by_cases hb : hitB xs p key = true
  · refine .inl ⟨by rw [if_pos hb], ?_⟩
    have hlt : p < xs.length := by
      rcases Nat.lt_or_ge p xs.length with hlt | hge
      · exact hlt
      · rw [hitB_ge xs p key hge] at hb; cases hb
    rw [hitB_lt xs p key hlt, decide_eq_true_eq] at hb
    unfold getS
    have : xs.find? (fun e => decide (e.f0 = key)) = some xs[p] := by
      rw [List.find?_eq_some_iff_getElem]
      refine ⟨by simpa using hb, p, hlt, rfl, fun j hj => ?_⟩
      have := a1 j (by omega) hj
      simp
      omega
    rw [this]
  · have hd : ∀ e ∈ xs.drop p, key < e.f0 := fun e h => by
      obtain ⟨t, ht, rfl⟩ := List.getElem_of_mem h
      rw [List.length_drop] at ht
      rw [List.getElem_drop]
      have hlt : p < xs.length := by omega
      have h1 := a2 p hlt (Nat.le_refl p)
      rw [hitB_lt xs p key hlt, decide_eq_true_eq] at hb
      rcases Nat.eq_zero_or_pos t with h0 | h0
      · subst h0
        simp only [Nat.add_zero]
        omega
      · have := hm.lt' p (p + t) (by omega) (by omega)
        omega
    rw [if_neg hb]
    by_cases h8 : xs.length = 8
    · refine .inr (.inl ⟨by rw [if_pos h8], h8, getS_none xs key (fun e he => ?_)⟩)
      rw [← List.take_append_drop p xs] at he
      rcases List.mem_append.1 he with he | he
      · have := ht e he; omega
      · have := hd e he; omega
    · exact .inr (.inr ⟨p, hp, h8, by rw [if_neg h8], ht, hd⟩)

theorem tgMap_l0 (xs : List S39) (hn : xs.length ≤ 1048576) (d : Nat) : ∀ (k i : Nat), i + d = xs.length → d < k → laws_tgMap.l0 k (i : Int) xs xs = some true := by
  induction d with
  | zero =>
    intro k i hi hk
    obtain ⟨k, rfl⟩ : ∃ m, k = m + 1 := ⟨k - 1, by omega⟩
    simp only [laws_tgMap.l0]; rw [if_neg (by omega)]
  | succ d ih =>
    intro k i hi hk
    obtain ⟨k, rfl⟩ : ∃ m, k = m + 1 := ⟨k - 1, by omega⟩
    simp only [laws_tgMap.l0]
    rw [if_pos (by omega), if_pos (by omega), if_pos (by omega), if_neg (by simp), wrap_succ (by omega)]
    exact ih k (i + 1) (by omega) (by omega)
theorem tgMap_refl (xs : List S39) (hn : xs.length ≤ 1048576) (k : Nat) (hk : xs.length < k) : laws_tgMap.f k xs xs = some true := by
  unfold laws_tgMap.f
  rw [if_pos rfl]
  exact tgMap_l0 xs hn xs.length k 0 (by omega) hk

theorem getS_congr (xs ys : List S39) (j : Int) (h : xs.find? (fun e => decide (e.f0 = j)) = ys.find? (fun e => decide (e.f0 = j))) : getS xs j = getS ys j := by unfold getS; rw [h]
theorem drawMapPut (l : List Int) (hw : ∀ x ∈ l, (Lit.int .u8 x).wf = true) (K : Nat) (hK : 1000 < K) : ∃ m : List S39, ∃ key val : Int, m.length ≤ 9 ∧ spec_DrawMapPut.f K l = some (m, key, val) := by
  obtain ⟨xs, hx, e⟩ := open_eq l hw
  unfold spec_DrawMapPut.f
  rw [e]; simp only [Option.bind_some]
  obtain ⟨m, q, h1, h2, h3⟩ := map_eq xs hx 9 (by omega) (by omega) K 0 (by omega) (by omega)
  rw [show spec_l20Map.f K xs 0 9 = _ from h3]; simp only [Option.bind_some]
  obtain ⟨key, q2, h4, h5⟩ := key_eq xs hx 9 (by omega) (by omega) K q (by omega) (by omega)
  rw [show spec_l20Key.f K xs (q : Int) 9 = _ from h5]; simp only [Option.bind_some]
  obtain ⟨r, hr, e1⟩ := pick_eq xs hx q2 (by omega) 10 (by omega) (by omega) K (by omega)
  rw [show spec_l20Rd_pick.f K xs (q2 : Int) 10 = _ from e1]
  simp only [Option.bind_some]
  obtain ⟨r2, hr2, e2⟩ := pick_eq xs hx (q2 + 1) (by omega) 5 (by omega) (by omega) K (by omega)
  rw [show spec_l20Rd_pick.f K xs ((q2 + 1 : Nat) : Int) 5 = _ from e2]
  simp only [Option.bind_some]
  rw [if_pos (by omega), if_pos (by simp; omega)]
  exact ⟨m, key, _, h1, rfl⟩
theorem loop (xs ys : List S39) (key val : Int) (hn : xs.length ≤ 100) (hn2 : ys.length ≤ 100) (hk : getS ys key = (2, val)) (hg : ∀ j, j ≠ key → getS ys j = getS xs j) (d : Nat) : ∀ (k i : Nat), i + d = 100 → d + 400 < k → laws_FnMapPut.l0 k key val false (i : Int) xs ys = some true := by
  induction d with
  | zero =>
    intro k i hi hk'
    obtain ⟨k, rfl⟩ : ∃ m, k = m + 1 := ⟨k - 1, by omega⟩
    simp only [laws_FnMapPut.l0]
    rw [if_neg (by omega)]; rfl
  | succ d ih =>
    intro k i hi hk'
    obtain ⟨k, rfl⟩ : ∃ m, k = m + 1 := ⟨k - 1, by omega⟩
    simp only [laws_FnMapPut.l0]
    rw [if_pos (by omega), wrap_succ (by omega), implMapGet_eq xs _ (by omega) _ (by omega), implMapGet_eq ys _ (by omega) _ (by omega)]
    simp only [Option.bind_some]
    by_cases h : (i : Int) = key
    · have h2 : getS ys (i : Int) = (2, val) := by rw [h]; exact hk
      rw [if_pos h, h2, if_neg (by simp)]
      exact ih k (i + 1) (by omega) (by omega)
    · rw [if_neg h, hg _ h, if_neg (by simp)]
      exact ih k (i + 1) (by omega) (by omega)
theorem final : laws_FnMapPut.Pure := by
  intro l hm _ hw
  obtain ⟨K, hK⟩ : ∃ K, 2000000 ≤ K := ⟨2000000, Nat.le_refl _⟩
  refine ⟨K + 1 + 1, ?_⟩
  unfold laws_FnMapPut.f
  by_cases hn : l.length ≤ 1048576
  · rw [if_neg (by omega)]
    obtain ⟨m, key, val, h1, h2⟩ := drawMapPut l hw (K + 1 + 1) (by omega)
    rw [h2]; simp only [Option.bind_some]
    have hr := putS_length m key val
    rw [implMapPut_eq m key val (by omega) _ (by omega), specMapPut_eq m key val (by omega) _ (by omega)]
    simp only [Option.bind_some]
    have f1 : ∀ k, 1000 < k → impl_MapOk.f k m = some (mokB m) := fun k hk => implMapOk_eq m (by omega) k (by omega)
    have f2 : ∀ k, 1000 < k → spec_MapOk.f k m = some (mokB m) := fun k hk => specMapOk_eq m (by omega) k (by omega)
    have f3 : ∀ k, 1000 < k → impl_MapOk.f k (putS m key val).1 = some (mokB (putS m key val).1) := fun k hk => implMapOk_eq _ (by omega) k (by omega)
    have f4 : ∀ k, 1000 < k → impl_MapGet.f k m key = some (getS m key) := fun k hk => implMapGet_eq m key (by omega) k (by omega)
    have f5 : ∀ k, 1000 < k → laws_tgOk.f k = some true := fun k hk => tgOk_eq k (by omega)
    have f6 : ∀ k, 1000 < k → laws_tgMap.f k (putS m key val).1 (putS m key val).1 = some true := fun k hk => tgMap_refl _ (by omega) k (by omega)
    have f7 : ∀ k, 1000 < k → laws_tgMap.f k m m = some true := fun k hk => tgMap_refl m (by omega) k (by omega)
    simp (disch := omega) only [f6, f1, f2, Option.bind_some, bne_self_eq_false, Bool.or_self, beq_self_eq_true, Bool.not_true]
    simp only [laws_FnMapPut.j0]
    simp only [laws_FnMapPut.j1]
    simp only [Bool.false_eq_true, if_false]
    rw [f2 _ (by omega), f5 K (by omega)]
    simp only [Option.bind_some, mokB, decide_eq_true_eq]
    by_cases h : MOk m
    · rw [if_pos h]
      by_cases hk : 0 ≤ key ∧ key ≤ 99
      · by_cases hv : 0 ≤ val ∧ val ≤ 999
        · rw [if_neg (show ¬ key < 0 from by omega), if_neg (show ¬ key > 99 from by omega), if_neg (show ¬ val < 0 from by omega), if_neg (show ¬ val > 999 from by omega)]
          rcases putS_cases m key val h hk hv with ⟨e1, e2⟩ | ⟨e1, e2, e3⟩ | ⟨p, hp, h8, e1, e2, e3⟩
          · rw [e1]
            dsimp only
            rw [f1 K (by omega), f4 K (by omega), f7 K (by omega)]
            simp [mokB, h, e2]
          · rw [e1]
            dsimp only
            rw [f1 K (by omega), f4 K (by omega), f7 K (by omega)]
            simp [mokB, h, e2, e3]
          · have hm8 := h.1
            have hlen : (m.take p ++ [(⟨key, val⟩ : S39)] ++ m.drop p).length = m.length + 1 := by simp; omega
            have hd : MOk (m.take p ++ [(⟨key, val⟩ : S39)] ++ m.drop p) := by
              refine MOk.of_pw (by omega) (fun e he => ?_) ?_
              · rw [List.append_assoc] at he
                rcases List.mem_append.1 he with he | he
                · obtain ⟨t, ht, rfl⟩ := List.getElem_of_mem (List.mem_of_mem_take he)
                  exact ⟨h.key t ht, h.val t ht⟩
                · rcases List.mem_append.1 he with he | he
                  · rw [List.mem_singleton.1 he]; exact ⟨hk, hv⟩
                  · obtain ⟨t, ht, rfl⟩ := List.getElem_of_mem (List.mem_of_mem_drop he)
                    exact ⟨h.key t ht, h.val t ht⟩
              · rw [List.append_assoc, List.pairwise_append]
                refine ⟨h.pw.sublist (List.take_sublist p m), ?_, fun a ha b hb => ?_⟩
                · rw [List.singleton_append, List.pairwise_cons]
                  exact ⟨fun b hb => e3 b hb, h.pw.sublist (List.drop_sublist p m)⟩
                · have h4 := e2 a ha
                  rcases List.mem_append.1 hb with hb | hb
                  · rw [List.mem_singleton.1 hb]; exact h4
                  · have := e3 b hb; omega
            have hg : getS m key = (1, 0) := getS_none m key (fun e he => by
              rw [← List.take_append_drop p m] at he
              rcases List.mem_append.1 he with he | he
              · have := e2 e he; omega
              · have := e3 e he; omega)
            have hnone : (m.take p).find? (fun e => decide (e.f0 = key)) = none := List.find?_eq_none.2 (fun e he => by have := e2 e he; simp; omega)
            have hg2 : getS (m.take p ++ [(⟨key, val⟩ : S39)] ++ m.drop p) key = (2, val) := by
              unfold getS
              rw [List.append_assoc, List.find?_append, hnone, List.singleton_append, List.find?_cons_of_pos (by simp)]
              rfl
            have hg3 : ∀ j, j ≠ key → getS (m.take p ++ [(⟨key, val⟩ : S39)] ++ m.drop p) j = getS m j := fun j hj => by
              apply getS_congr
              have hs : m.find? (fun e => decide (e.f0 = j)) = (m.take p ++ m.drop p).find? (fun e => decide (e.f0 = j)) := by rw [List.take_append_drop]
              rw [hs, List.append_assoc, List.find?_append, List.find?_append, List.find?_append, List.find?_cons_of_neg (by simp; omega), List.find?_nil, Option.none_or]
            rw [f3 K (by omega), f4 K (by omega), e1, hg]
            simp only [Option.bind_some, mokB, decide_eq_true_eq]
            rw [if_pos hd, if_pos trivial]
            exact loop m _ key val (by omega) (by omega) hg2 hg3 100 _ 0 (by omega) (by omega)
        · have ha : putS m key val = ([], 0, 0) := by unfold putS; rw [if_neg (fun hh => hv hh.2.2)]
          rw [if_neg (show ¬ key < 0 from by omega), if_neg (show ¬ key > 99 from by omega), ha]
          by_cases h0 : val < 0
          · rw [if_pos h0]; simp
          · rw [if_neg h0, if_pos (show val > 999 from by omega)]; simp
      · have ha : putS m key val = ([], 0, 0) := by unfold putS; rw [if_neg (fun hh => hk hh.2.1)]
        rw [ha]
        by_cases h0 : key < 0
        · rw [if_pos h0]; simp
        · rw [if_neg h0, if_pos (show key > 99 from by omega)]; simp
    · rw [if_neg h]
      have ha : putS m key val = ([], 0, 0) := by unfold putS; rw [if_neg (fun hh => h hh.1)]
      rw [ha]; simp
  · rw [if_pos (by omega)]
end FnMapPut_

theorem FnMapPut : laws_FnMapPut.Pure := FnMapPut_.final

end Go.Proofs.Ytabihpjgkkmnjaa.Pure
