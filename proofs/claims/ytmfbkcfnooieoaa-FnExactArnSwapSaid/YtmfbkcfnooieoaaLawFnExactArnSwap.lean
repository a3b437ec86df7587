/-
  FnExactArnSwap: whatever the input, the law answers true and leaves its arguments as they were. Conditions: none.
-/
import Derived.Test.YtmfbkcfnooieoaaRows
import Derived.Test.YtmfbkcfnooieoaaOpn
import Derived.Test.YtmfbkcfnooieoaaPureFnExactArnSwap
import Derived.Test.YtmfbkcfnooieoaaGFnExactArnSwapx7
import Derived.WalkKit
import Derived.ProofKit
import Derived.OpenShut
import Derived.ShutString
import Derived.ChangeOld
import Derived.Below
import Derived.SizedLaws
namespace Go.Proofs.Ytmfbkcfnooieoaa.fnExactArnSwap
open Go.ChangeShapes Go.WideShapes Go.ChangeAt Go.RowKit Go.Proofs.Ytmfbkcfnooieoaa.Opn Go.Proofs.Ytmfbkcfnooieoaa.GFnExactArnSwap Go.Proofs.YtmfbkcfnooieoaaW.PrintWords
open Go.ChangeMaps (open_string shut_string)
set_option linter.unusedVariables false
theorem own : ownKnob Try.prog.godebug = none := by kernel_rfl
theorem laidOut : laidOutB Try.prog = true := by kernel_rfl
set_option maxRecDepth 100000 in
theorem lifted (os : Os) (started : os.Started) (H : Type) (enc : TypeId × Value → H) :
    ReturnsInHanded {} Try.checked os 9 .any (Rows.fnExactArnSwapSpec.pre6 enc Try.prog Try.f9 Rows.fnExactArnSwapRow.domain false) (Rows.fnExactArnSwapSpec.post enc Try.prog Try.f9 false true false false) := by
  refine returnsInHanded_of_change_sized (C := Try.checked) own started (by kernel_rfl) Try.func9
    (ChangeSpec.witness6 (enc := enc) (C := Try.checked) false ⟨#[], #[.agg #[.slice none 0 0, .int .i64 0, .int .i64 0, .int .i64 0], .int .i64 0, .int .i64 0, .int .i64 0], []⟩ 8 (by kernel_rfl) (by kernel_rfl) (by kernel_rfl) (by kernel_rfl)) ?_
  intro W base args ds gs before hval0 hW hcnd hsz0 _
  have hval : ∀ (j : Nat) t v, Try.f9.params[j]? = some t → args[j]? = some v → Value.okWide Try.prog W .any base t v := hval0
  have hW' := hW
  obtain ⟨p, q, hA0, hV, rfl, hfz, hnd⟩ := hW
  have hA : DataW.TrodAll enc Try.prog W 0 (fun _ => true) true Try.f9.params.toList args.toList ds p := hA0
  rw [Try.params9] at hA hval
  obtain ⟨v0, vs0, d0, ds0, p0, q0, hargs, rfl, rfl, h0, r0⟩ := trodAll_cons hA
  obtain ⟨v1, vs1, d1, ds1, p1, q1, rfl, rfl, rfl, h1, r1⟩ := trodAll_cons r0
  obtain ⟨v2, vs2, d2, ds2, p2, q2, rfl, rfl, rfl, h2, r2⟩ := trodAll_cons r1
  obtain ⟨v3, vs3, d3, ds3, p3, q3, rfl, rfl, rfl, h3, r3⟩ := trodAll_cons r2
  obtain ⟨rfl, rfl, rfl⟩ := trodAll_nil r3
  obtain rfl : args = #[v0, v1, v2, v3] := by cases args; simp_all
  obtain ⟨rfl, rfl⟩ := trodVars_none hV
  have k0 := h0
  have lt0 : ∀ x ∈ p0, x.block < W.heap.size := by obtain ⟨m, hm⟩ := k0; exact DataW.trod_lt m _ _ _ hm
  obtain ⟨cs0, rfl, _⟩ := okWide_struct Try.underlying38 (hval 0 38 v0 rfl rfl)
  obtain ⟨⟨l0_0, a0_1, a0_2, a0_3⟩, hK0⟩ := opens_arg (opens_struct Try.underlying38 (fo_cons (by kernel_rfl) (opens_slice Try.underlying36 (by kernel_rfl) (opens_iso (f := fun x : S93 => (x.f0, x.f1, x.f2, x.f3, x.f4, x.f5)) (fun p => (⟨p.1, p.2.1, p.2.2.1, p.2.2.2.1, p.2.2.2.2.1, p.2.2.2.2.2⟩ : S93)) (fun _ => rfl) (opens_struct Try.underlying93 (fo_cons (by kernel_rfl) (opens_int Try.underlying3) (fo_cons (by kernel_rfl) (opens_int Try.underlying3) (fo_cons (by kernel_rfl) (opens_int Try.underlying3) (fo_cons (by kernel_rfl) (opens_int Try.underlying3) (fo_cons (by kernel_rfl) (opens_bool Try.underlying4) (fo_one (by kernel_rfl) (by kernel_rfl) (opens_int Try.underlying3)))))))))) (fo_cons (by kernel_rfl) (opens_int Try.underlying3) (fo_cons (by kernel_rfl) (opens_int Try.underlying3) (fo_one (by kernel_rfl) (by kernel_rfl) (opens_int Try.underlying3)))))) h0
  obtain ⟨_, _, hcs, ⟨A0_0, c0_0, rfl, hc0_0, hr0_0⟩, ⟨_, _, rfl, rfl, ⟨_, _, rfl, rfl, rfl⟩⟩⟩ := hK0
  obtain rfl : cs0 = #[.slice A0_0 l0_0.length c0_0, .int .i64 a0_1, .int .i64 a0_2, .int .i64 a0_3] := by rcases cs0 with ⟨cs⟩; simpa [Value.cells] using hcs
  clear hcs
  obtain ⟨a1, rfl, rfl, rfl, w1⟩ := open_int Try.underlying3 (hval 1 3 v1 rfl rfl) h1
  obtain ⟨a2, rfl, rfl, rfl, w2⟩ := open_int Try.underlying3 (hval 2 3 v2 rfl rfl) h2
  obtain ⟨a3, rfl, rfl, rfl, w3⟩ := open_int Try.underlying3 (hval 3 3 v3 rfl rfl) h3
  clear hA0 hval0 hsz0
  obtain ⟨k, hk⟩ := Pure.FnExactArnSwap l0_0 a0_1 a0_2 a0_3 a1 a2 a3 hr0_0.2.1 w1 w2 w3
  refine (laws_FnExactArnSwap.calls k A0_0 c0_0 l0_0 a0_1 a0_2 a0_3 a1 a2 a3 true W hr0_0 hc0_0 rfl hk).mono fun e W' ⟨he, bel⟩ => ?_
  subst he
  exact ⟨_, rfl, _, _, _, [], _, [], hW', trodAll_mk1 (shut_bool Try.underlying4 _), (trodAll_cons_mk (Below.trod laidOut (by kernel_rfl) (of_decide_eq_true (by kernel_rfl)) k0 bel lt0) (trodAll_cons_mk (shut_int Try.underlying3 w1) (trodAll_cons_mk (shut_int Try.underlying3 w2) (trodAll_cons_mk (shut_int Try.underlying3 w3) trodAll_mk0)))), rfl, bel.frame _, fun h => by cases h⟩
theorem over : Rows.fnExactArnSwapRow.holds Try.pinned (OpenSpec.ofChange Rows.fnExactArnSwapSpec) :=
  OpenClaim.holds_of_wide 9 Try.f9 rfl rfl rfl rfl rfl rfl rfl ⟨rfl, rfl, rfl, rfl, rfl⟩ rfl rfl rfl rfl rfl (by kernel_rfl) Try.func9 (by kernel_rfl)
    (of_decide_eq_true (by kernel_rfl)) (by unfold Func.isWrapper; first | (rw [if_pos (by decide +kernel)]; kernel_rfl) | (rw [if_neg (by decide +kernel)]; exact ⟨rfl, rfl⟩))
    (fun os started H enc _ => lifted os started H enc)
theorem proved : Rows.FnExactArnSwapSaid := over
#print axioms proved
end Go.Proofs.Ytmfbkcfnooieoaa.fnExactArnSwap
namespace Go.Proofs.Ytmfbkcfnooieoaa
/-- The row, under a short name, for the claim. -/
theorem fnExactArnSwap_holds : Rows.FnExactArnSwapSaid := fnExactArnSwap.proved
end Go.Proofs.Ytmfbkcfnooieoaa
