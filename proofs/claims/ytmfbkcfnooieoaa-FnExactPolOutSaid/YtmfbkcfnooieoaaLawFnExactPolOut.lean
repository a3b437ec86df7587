/-
  FnExactPolOut: whatever the input, the law answers true and leaves its arguments as they were. Conditions: none.
-/
import Derived.Test.YtmfbkcfnooieoaaRows
import Derived.Test.YtmfbkcfnooieoaaOpn
import Derived.Test.YtmfbkcfnooieoaaPureFnExactPolOut
import Derived.Test.YtmfbkcfnooieoaaGFnExactPolOutx4
import Derived.WalkKit
import Derived.ProofKit
import Derived.OpenShut
import Derived.ShutString
import Derived.ChangeOld
import Derived.Below
import Derived.SizedLaws
namespace Go.Proofs.Ytmfbkcfnooieoaa.fnExactPolOut
open Go.ChangeShapes Go.WideShapes Go.ChangeAt Go.RowKit Go.Proofs.Ytmfbkcfnooieoaa.Opn Go.Proofs.Ytmfbkcfnooieoaa.GFnExactPolOut Go.Proofs.YtmfbkcfnooieoaaW.PrintWords
open Go.ChangeMaps (open_string shut_string)
set_option linter.unusedVariables false
theorem own : ownKnob Try.prog.godebug = none := by kernel_rfl
theorem laidOut : laidOutB Try.prog = true := by kernel_rfl
set_option maxRecDepth 100000 in
theorem lifted (os : Os) (started : os.Started) (H : Type) (enc : TypeId × Value → H) :
    ReturnsInHanded {} Try.checked os 11 .any (Rows.fnExactPolOutSpec.pre6 enc Try.prog Try.f11 Rows.fnExactPolOutRow.domain false) (Rows.fnExactPolOutSpec.post enc Try.prog Try.f11 false true false false) := by
  refine returnsInHanded_of_change_sized (C := Try.checked) own started (by kernel_rfl) Try.func11
    (ChangeSpec.witness6 (enc := enc) (C := Try.checked) false ⟨#[], #[.agg #[.int .i64 0, .slice none 0 0, .slice none 0 0]], []⟩ 8 (by kernel_rfl) (by kernel_rfl) (by kernel_rfl) (by kernel_rfl)) ?_
  intro W base args ds gs before hval0 hW hcnd hsz0 _
  have hval : ∀ (j : Nat) t v, Try.f11.params[j]? = some t → args[j]? = some v → Value.okWide Try.prog W .any base t v := hval0
  have hW' := hW
  obtain ⟨p, q, hA0, hV, rfl, hfz, hnd⟩ := hW
  have hA : DataW.TrodAll enc Try.prog W 0 (fun _ => true) true Try.f11.params.toList args.toList ds p := hA0
  rw [Try.params11] at hA hval
  obtain ⟨v0, vs0, d0, ds0, p0, q0, hargs, rfl, rfl, h0, r0⟩ := trodAll_cons hA
  obtain ⟨rfl, rfl, rfl⟩ := trodAll_nil r0
  obtain rfl : args = #[v0] := by cases args; simp_all
  obtain ⟨rfl, rfl⟩ := trodVars_none hV
  have k0 := h0
  have lt0 : ∀ x ∈ p0, x.block < W.heap.size := by obtain ⟨m, hm⟩ := k0; exact DataW.trod_lt m _ _ _ hm
  obtain ⟨cs0, rfl, _⟩ := okWide_struct Try.underlying54 (hval 0 54 v0 rfl rfl)
  obtain ⟨⟨a0_0, l0_1, l0_2⟩, hK0⟩ := opens_arg (opens_struct Try.underlying54 (fo_cons (by kernel_rfl) (opens_int Try.underlying3) (fo_cons (by kernel_rfl) (opens_slice Try.underlying29 (by kernel_rfl) (opens_int Try.underlying3)) (fo_one (by kernel_rfl) (by kernel_rfl) (opens_slice Try.underlying52 (by kernel_rfl) (opens_slice Try.underlying98 (by kernel_rfl) (opens_iso (f := fun x : S104 => (x.f0, x.f1)) (fun p => (⟨p.1, p.2⟩ : S104)) (fun _ => rfl) (opens_struct Try.underlying104 (fo_cons (by kernel_rfl) (opens_int Try.underlying3) (fo_one (by kernel_rfl) (by kernel_rfl) (opens_int Try.underlying3))))))))))) h0
  obtain ⟨_, _, hcs, rfl, ⟨_, _, rfl, ⟨A0_1, c0_1, rfl, hc0_1, hr0_1⟩, ⟨A0_2, c0_2, rfl, hc0_2, hr0_2⟩⟩⟩ := hK0
  obtain rfl : cs0 = #[.int .i64 a0_0, .slice A0_1 l0_1.length c0_1, .slice A0_2 l0_2.length c0_2] := by rcases cs0 with ⟨cs⟩; simpa [Value.cells] using hcs
  clear hcs
  clear hA0 hval0 hsz0
  obtain ⟨k, hk⟩ := Pure.FnExactPolOut a0_0 l0_1 l0_2 hr0_1.2.1 hr0_2.2.1 (inner_len hr0_2 rfl)
  refine (laws_FnExactPolOut.calls k a0_0 A0_1 c0_1 l0_1 A0_2 c0_2 l0_2 true W hr0_1 hc0_1 hr0_2 hc0_2 rfl hk).mono fun e W' ⟨he, bel⟩ => ?_
  subst he
  exact ⟨_, rfl, _, _, _, [], _, [], hW', trodAll_mk1 (shut_bool Try.underlying4 _), (trodAll_cons_mk (Below.trod laidOut (by kernel_rfl) (of_decide_eq_true (by kernel_rfl)) k0 bel lt0) trodAll_mk0), rfl, bel.frame _, fun h => by cases h⟩
theorem over : Rows.fnExactPolOutRow.holds Try.pinned (OpenSpec.ofChange Rows.fnExactPolOutSpec) :=
  OpenClaim.holds_of_wide 11 Try.f11 rfl rfl rfl rfl rfl rfl rfl ⟨rfl, rfl, rfl, rfl, rfl⟩ rfl rfl rfl rfl rfl (by kernel_rfl) Try.func11 (by kernel_rfl)
    (of_decide_eq_true (by kernel_rfl)) (by unfold Func.isWrapper; first | (rw [if_pos (by decide +kernel)]; kernel_rfl) | (rw [if_neg (by decide +kernel)]; exact ⟨rfl, rfl⟩))
    (fun os started H enc _ => lifted os started H enc)
theorem proved : Rows.FnExactPolOutSaid := over
#print axioms proved
end Go.Proofs.Ytmfbkcfnooieoaa.fnExactPolOut
namespace Go.Proofs.Ytmfbkcfnooieoaa
/-- The row, under a short name, for the claim. -/
theorem fnExactPolOut_holds : Rows.FnExactPolOutSaid := fnExactPolOut.proved
end Go.Proofs.Ytmfbkcfnooieoaa
