/-
  FnExactArnGive: whatever the input, the law answers true and leaves its arguments as they were. Conditions: none.
-/
import Derived.Test.YtmfbkcfnooieoaaRows
import Derived.Test.YtmfbkcfnooieoaaOpn
import Derived.Test.YtmfbkcfnooieoaaPureFnExactArnGive
import Derived.Test.YtmfbkcfnooieoaaGFnExactArnGivex7
import Derived.WalkKit
import Derived.ProofKit
import Derived.OpenShut
import Derived.ShutString
import Derived.ChangeOld
import Derived.Below
import Derived.SizedLaws
namespace Go.Proofs.Ytmfbkcfnooieoaa.fnExactArnGive
open Go.ChangeShapes Go.WideShapes Go.ChangeAt Go.RowKit Go.Proofs.Ytmfbkcfnooieoaa.Opn Go.Proofs.Ytmfbkcfnooieoaa.GFnExactArnGive Go.Proofs.YtmfbkcfnooieoaaW.PrintWords
open Go.ChangeMaps (open_string shut_string)
set_option linter.unusedVariables false
theorem own : ownKnob Try.prog.godebug = none := by kernel_rfl
theorem laidOut : laidOutB Try.prog = true := by kernel_rfl
set_option maxRecDepth 100000 in
theorem lifted (os : Os) (started : os.Started) (H : Type) (enc : TypeId × Value → H) :
    ReturnsInHanded {} Try.checked os 8 .any (Rows.fnExactArnGiveSpec.pre6 enc Try.prog Try.f8 Rows.fnExactArnGiveRow.domain false) (Rows.fnExactArnGiveSpec.post enc Try.prog Try.f8 false true false false) := by
  refine returnsInHanded_of_change_sized (C := Try.checked) own started (by kernel_rfl) Try.func8
    (ChangeSpec.witness6 (enc := enc) (C := Try.checked) false ⟨#[], #[.agg #[.slice none 0 0, .int .i64 0, .int .i64 0, .int .i64 0], .int .i64 0], []⟩ 8 (by kernel_rfl) (by kernel_rfl) (by kernel_rfl) (by kernel_rfl)) ?_
  intro W base args ds gs before hval0 hW hcnd hsz0 _
  have hval : ∀ (j : Nat) t v, Try.f8.params[j]? = some t → args[j]? = some v → Value.okWide Try.prog W .any base t v := hval0
  have hW' := hW
  obtain ⟨p, q, hA0, hV, rfl, hfz, hnd⟩ := hW
  have hA : DataW.TrodAll enc Try.prog W 0 (fun _ => true) true Try.f8.params.toList args.toList ds p := hA0
  rw [Try.params8] at hA hval
  obtain ⟨v0, vs0, d0, ds0, p0, q0, hargs, rfl, rfl, h0, r0⟩ := trodAll_cons hA
  obtain ⟨v1, vs1, d1, ds1, p1, q1, rfl, rfl, rfl, h1, r1⟩ := trodAll_cons r0
  obtain ⟨rfl, rfl, rfl⟩ := trodAll_nil r1
  obtain rfl : args = #[v0, v1] := by cases args; simp_all
  obtain ⟨rfl, rfl⟩ := trodVars_none hV
  have k0 := h0
  have lt0 : ∀ x ∈ p0, x.block < W.heap.size := by obtain ⟨m, hm⟩ := k0; exact DataW.trod_lt m _ _ _ hm
  obtain ⟨cs0, rfl, _⟩ := okWide_struct Try.underlying38 (hval 0 38 v0 rfl rfl)
  obtain ⟨⟨l0_0, a0_1, a0_2, a0_3⟩, hK0⟩ := opens_arg (opens_struct Try.underlying38 (fo_cons (by kernel_rfl) (opens_slice Try.underlying36 (by kernel_rfl) (opens_iso (f := fun x : S93 => (x.f0, x.f1, x.f2, x.f3, x.f4, x.f5)) (fun p => (⟨p.1, p.2.1, p.2.2.1, p.2.2.2.1, p.2.2.2.2.1, p.2.2.2.2.2⟩ : S93)) (fun _ => rfl) (opens_struct Try.underlying93 (fo_cons (by kernel_rfl) (opens_int Try.underlying3) (fo_cons (by kernel_rfl) (opens_int Try.underlying3) (fo_cons (by kernel_rfl) (opens_int Try.underlying3) (fo_cons (by kernel_rfl) (opens_int Try.underlying3) (fo_cons (by kernel_rfl) (opens_bool Try.underlying4) (fo_one (by kernel_rfl) (by kernel_rfl) (opens_int Try.underlying3)))))))))) (fo_cons (by kernel_rfl) (opens_int Try.underlying3) (fo_cons (by kernel_rfl) (opens_int Try.underlying3) (fo_one (by kernel_rfl) (by kernel_rfl) (opens_int Try.underlying3)))))) h0
  obtain ⟨_, _, hcs, ⟨A0_0, c0_0, rfl, hc0_0, hr0_0⟩, ⟨_, _, rfl, rfl, ⟨_, _, rfl, rfl, rfl⟩⟩⟩ := hK0
  obtain rfl : cs0 = #[.slice A0_0 l0_0.length c0_0, .int .i64 a0_1, .int .i64 a0_2, .int .i64 a0_3] := by rcases cs0 with ⟨cs⟩; simpa [Value.cells] using hcs
  clear hcs
  obtain ⟨a1, rfl, rfl, rfl, w1⟩ := open_int Try.underlying3 (hval 1 3 v1 rfl rfl) h1
  clear hA0 hval0 hsz0
  obtain ⟨k, hk⟩ := Pure.FnExactArnGive l0_0 a0_1 a0_2 a0_3 a1 hr0_0.2.1 w1
  refine (laws_FnExactArnGive.calls k A0_0 c0_0 l0_0 a0_1 a0_2 a0_3 a1 true W hr0_0 hc0_0 rfl hk).mono fun e W' ⟨he, bel⟩ => ?_
  subst he
  exact ⟨_, rfl, _, _, _, [], _, [], hW', trodAll_mk1 (shut_bool Try.underlying4 _), (trodAll_cons_mk (Below.trod laidOut (by kernel_rfl) (of_decide_eq_true (by kernel_rfl)) k0 bel lt0) (trodAll_cons_mk (shut_int Try.underlying3 w1) trodAll_mk0)), rfl, bel.frame _, fun h => by cases h⟩
theorem over : Rows.fnExactArnGiveRow.holds Try.pinned (OpenSpec.ofChange Rows.fnExactArnGiveSpec) :=
  OpenClaim.holds_of_wide 8 Try.f8 rfl rfl rfl rfl rfl rfl rfl ⟨rfl, rfl, rfl, rfl, rfl⟩ rfl rfl rfl rfl rfl (by kernel_rfl) Try.func8 (by kernel_rfl)
    (of_decide_eq_true (by kernel_rfl)) (by unfold Func.isWrapper; first | (rw [if_pos (by decide +kernel)]; kernel_rfl) | (rw [if_neg (by decide +kernel)]; exact ⟨rfl, rfl⟩))
    (fun os started H enc _ => lifted os started H enc)
theorem proved : Rows.FnExactArnGiveSaid := over
#print axioms proved
end Go.Proofs.Ytmfbkcfnooieoaa.fnExactArnGive
namespace Go.Proofs.Ytmfbkcfnooieoaa
/-- The row, under a short name, for the claim. -/
theorem fnExactArnGive_holds : Rows.FnExactArnGiveSaid := fnExactArnGive.proved
end Go.Proofs.Ytmfbkcfnooieoaa
