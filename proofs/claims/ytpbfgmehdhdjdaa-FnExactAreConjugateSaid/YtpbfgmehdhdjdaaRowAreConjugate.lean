
/-
  The law 'FnExactAreConjugate' returns true for every input and leaves its arguments as they were. No condition.
-/
import Derived.Test.YtpbfgmehdhdjdaaRows
import Derived.Test.YtpbfgmehdhdjdaaAmRow
import Derived.Test.YtpbfgmehdhdjdaaLawAre
namespace Go.Proofs.Ytpbfgmehdhdjdaa.fnExactAreConjugate
open Go Go.ChangeShapes Go.WideShapes Go.ChangeAt Go.RowKit
set_option linter.unusedVariables false

theorem own : ownKnob Try.prog.godebug = none := by kernel_rfl
theorem laidOut : laidOutB Try.prog = true := by kernel_rfl

set_option maxRecDepth 100000 in
theorem lifted (os : Os) (started : os.Started) (H : Type) (enc : TypeId × Value → H) :
    ReturnsInHanded {} Try.checked os 13 .any (Rows.fnExactAreConjugateSpec.pre6 enc Try.prog Try.f13 Rows.fnExactAreConjugateRow.domain false) (Rows.fnExactAreConjugateSpec.post enc Try.prog Try.f13 false true false false) := by
  refine returnsInHanded_of_change (C := Try.checked) own started (by kernel_rfl) Try.func13
    (ChangeSpec.witness6 (enc := enc) (C := Try.checked) false ⟨#[], #[.agg #[.int .i64 0, .slice none 0 0], .agg #[.int .i64 0, .slice none 0 0]], []⟩ 8 (by kernel_rfl) (by kernel_rfl) (by kernel_rfl) (by kernel_rfl)) ?_
  intro W base args ds gs before hval0 hW hcnd _
  have hval : ∀ (j : Nat) t v, Try.f13.params[j]? = some t → args[j]? = some v → Value.okWide Try.prog W .any base t v := hval0
  have hW' := hW
  obtain ⟨p, q, hA0, hV, rfl, hfz, hnd⟩ := hW
  have hA : DataW.TrodAll enc Try.prog W 0 (fun _ => true) true Try.f13.params.toList args.toList ds p := hA0
  rw [Try.params13] at hA hval
  obtain ⟨v0, vs0, d0, ds0, p0, q0, hargs, rfl, rfl, h0, r0⟩ := trodAll_cons hA
  obtain ⟨v1, vs1, d1, ds1, p1, q1, rfl, rfl, rfl, h1, r1⟩ := trodAll_cons r0
  obtain ⟨rfl, rfl, rfl⟩ := trodAll_nil r1
  obtain rfl : args = #[v0, v1] := by cases args; simp_all
  obtain ⟨rfl, rfl⟩ := trodVars_none hV
  obtain ⟨n0, x0, w0, k0⟩ := arg_series Try.underlying24 (by kernel_rfl) (by kernel_rfl) Try.underlying2 Try.underlying22 Try.underlying2 (by kernel_rfl) (hval 0 24 v0 rfl rfl) h0
  obtain ⟨n1, x1, w1, k1⟩ := arg_series Try.underlying24 (by kernel_rfl) (by kernel_rfl) Try.underlying2 Try.underlying22 Try.underlying2 (by kernel_rfl) (hval 1 24 v1 rfl rfl) h1
  refine ((lawAreConjugate_c n0 x0 n1 x1).2 W _ (rvs2 k0 k1)).mono fun e W' ⟨he, bel⟩ => ?_
  subst he
  exact ⟨_, rfl, _, _, _, [], _, [], hW', trodAll_mk1 (shut_bool Try.underlying4 _), (trodAll_cons_mk (Below.trod laidOut (by kernel_rfl) (of_decide_eq_true (by kernel_rfl)) h0 bel (trod_places h0)) (trodAll_cons_mk (Below.trod laidOut (by kernel_rfl) (of_decide_eq_true (by kernel_rfl)) h1 bel (trod_places h1)) trodAll_mk0)), rfl, bel.frame _, fun h => by cases h⟩

theorem over : Rows.fnExactAreConjugateRow.holds Try.pinned (OpenSpec.ofChange Rows.fnExactAreConjugateSpec) :=
  OpenClaim.holds_of_wide 13 Try.f13 rfl rfl rfl rfl rfl rfl rfl ⟨rfl, rfl, rfl, rfl, rfl⟩ rfl rfl rfl rfl rfl (by kernel_rfl) Try.func13 (by kernel_rfl)
    (of_decide_eq_true (by kernel_rfl)) (by unfold Func.isWrapper; first | (rw [if_pos (by decide +kernel)]; kernel_rfl) | (rw [if_neg (by decide +kernel)]; exact ⟨rfl, rfl⟩))
    (fun os started H enc _ => lifted os started H enc)

end Go.Proofs.Ytpbfgmehdhdjdaa.fnExactAreConjugate
namespace Go.Proofs.Ytpbfgmehdhdjdaa
theorem fnExactAreConjugateHolds : Rows.FnExactAreConjugateSaid := fnExactAreConjugate.over
#print axioms fnExactAreConjugateHolds
end Go.Proofs.Ytpbfgmehdhdjdaa
