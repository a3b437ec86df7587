/-
  FnExactMapPut: whatever the input, the law answers true and leaves its arguments as they were. Conditions: none.
-/
import Derived.Test.YtabihpjgkkmnjaaRows
import Derived.Test.YtabihpjgkkmnjaaOpn
import Derived.Test.YtabihpjgkkmnjaaPureFnExactMapPut
import Derived.Test.YtabihpjgkkmnjaaGFnExactMapPutx5
import Derived.WalkKit
import Derived.ProofKit
import Derived.OpenShut
import Derived.ShutString
import Derived.ChangeOld
import Derived.Below
import Derived.SizedLaws
namespace Go.Proofs.Ytabihpjgkkmnjaa.fnExactMapPut
open Go.ChangeShapes Go.WideShapes Go.ChangeAt Go.RowKit Go.Proofs.Ytabihpjgkkmnjaa.Opn Go.Proofs.Ytabihpjgkkmnjaa.GFnExactMapPut Go.Proofs.YtabihpjgkkmnjaaW.PrintWords
open Go.ChangeMaps (open_string shut_string)
set_option linter.unusedVariables false
theorem own : ownKnob Try.prog.godebug = none := by kernel_rfl
theorem laidOut : laidOutB Try.prog = true := by kernel_rfl
set_option maxRecDepth 100000 in
theorem lifted (os : Os) (started : os.Started) (H : Type) (enc : TypeId × Value → H) :
    ReturnsInHanded {} Try.checked os 10 .any (Rows.fnExactMapPutSpec.pre6 enc Try.prog Try.f10 Rows.fnExactMapPutRow.domain false) (Rows.fnExactMapPutSpec.post enc Try.prog Try.f10 false true false false) := by
  refine returnsInHanded_of_change_sized (C := Try.checked) own started (by kernel_rfl) Try.func10
    (ChangeSpec.witness6 (enc := enc) (C := Try.checked) false ⟨#[], #[.agg #[.slice none 0 0], .int .i64 0, .int .i64 0], []⟩ 8 (by kernel_rfl) (by kernel_rfl) (by kernel_rfl) (by kernel_rfl)) ?_
  intro W base args ds gs before hval0 hW hcnd hsz0 _
  have hval : ∀ (j : Nat) t v, Try.f10.params[j]? = some t → args[j]? = some v → Value.okWide Try.prog W .any base t v := hval0
  have hW' := hW
  obtain ⟨p, q, hA0, hV, rfl, hfz, hnd⟩ := hW
  have hA : DataW.TrodAll enc Try.prog W 0 (fun _ => true) true Try.f10.params.toList args.toList ds p := hA0
  rw [Try.params10] at hA hval
  obtain ⟨v0, vs0, d0, ds0, p0, q0, hargs, rfl, rfl, h0, r0⟩ := trodAll_cons hA
  obtain ⟨v1, vs1, d1, ds1, p1, q1, rfl, rfl, rfl, h1, r1⟩ := trodAll_cons r0
  obtain ⟨v2, vs2, d2, ds2, p2, q2, rfl, rfl, rfl, h2, r2⟩ := trodAll_cons r1
  obtain ⟨rfl, rfl, rfl⟩ := trodAll_nil r2
  obtain rfl : args = #[v0, v1, v2] := by cases args; simp_all
  obtain ⟨rfl, rfl⟩ := trodVars_none hV
  have k0 := h0
  have lt0 : ∀ x ∈ p0, x.block < W.heap.size := by obtain ⟨m, hm⟩ := k0; exact DataW.trod_lt m _ _ _ hm
  obtain ⟨cs0, rfl, _⟩ := okWide_struct Try.underlying43 (hval 0 43 v0 rfl rfl)
  obtain ⟨l0_0, hK0⟩ := opens_arg (opens_struct Try.underlying43 (fo_one (by kernel_rfl) (by kernel_rfl) (opens_slice Try.underlying41 (by kernel_rfl) (opens_iso (f := fun x : S79 => (x.f0, x.f1)) (fun p => (⟨p.1, p.2⟩ : S79)) (fun _ => rfl) (opens_struct Try.underlying79 (fo_cons (by kernel_rfl) (opens_int Try.underlying3) (fo_one (by kernel_rfl) (by kernel_rfl) (opens_int Try.underlying3)))))))) h0
  obtain ⟨A0_0, c0_0, hcs, hc0_0, hr0_0⟩ := hK0
  obtain rfl : cs0 = #[.slice A0_0 l0_0.length c0_0] := by rcases cs0 with ⟨cs⟩; simpa [Value.cells] using hcs
  clear hcs
  obtain ⟨a1, rfl, rfl, rfl, w1⟩ := open_int Try.underlying3 (hval 1 3 v1 rfl rfl) h1
  obtain ⟨a2, rfl, rfl, rfl, w2⟩ := open_int Try.underlying3 (hval 2 3 v2 rfl rfl) h2
  clear hA0 hval0 hsz0
  obtain ⟨k, hk⟩ := Pure.FnExactMapPut l0_0 a1 a2 hr0_0.2.1 w1 w2
  refine (laws_FnExactMapPut.calls k A0_0 c0_0 l0_0 a1 a2 true W hr0_0 hc0_0 rfl hk).mono fun e W' ⟨he, bel⟩ => ?_
  subst he
  exact ⟨_, rfl, _, _, _, [], _, [], hW', trodAll_mk1 (shut_bool Try.underlying4 _), (trodAll_cons_mk (Below.trod laidOut (by kernel_rfl) (of_decide_eq_true (by kernel_rfl)) k0 bel lt0) (trodAll_cons_mk (shut_int Try.underlying3 w1) (trodAll_cons_mk (shut_int Try.underlying3 w2) trodAll_mk0))), rfl, bel.frame _, fun h => by cases h⟩
theorem over : Rows.fnExactMapPutRow.holds Try.pinned (OpenSpec.ofChange Rows.fnExactMapPutSpec) :=
  OpenClaim.holds_of_wide 10 Try.f10 rfl rfl rfl rfl rfl rfl rfl ⟨rfl, rfl, rfl, rfl, rfl⟩ rfl rfl rfl rfl rfl (by kernel_rfl) Try.func10 (by kernel_rfl)
    (of_decide_eq_true (by kernel_rfl)) (by unfold Func.isWrapper; first | (rw [if_pos (by decide +kernel)]; kernel_rfl) | (rw [if_neg (by decide +kernel)]; exact ⟨rfl, rfl⟩))
    (fun os started H enc _ => lifted os started H enc)
theorem proved : Rows.FnExactMapPutSaid := over
#print axioms proved
end Go.Proofs.Ytabihpjgkkmnjaa.fnExactMapPut
namespace Go.Proofs.Ytabihpjgkkmnjaa
/-- The row, under a short name, for the claim. -/
theorem fnExactMapPut_holds : Rows.FnExactMapPutSaid := fnExactMapPut.proved
end Go.Proofs.Ytabihpjgkkmnjaa
