/- laws.FnExactDeltaCut returns true for every input. No condition. -/
import Derived.Test.YtngehfhcnfobbaaRows
import Derived.Conc.LeavingOf
import Derived.Test.YtngehfhcnfobbaaPk20
namespace Go.Proofs.Ytngehfhcnfobbaa
open Go Go.RowKit

namespace rFnExactDeltaCut
open Go.ChangeShapes Go.WideShapes Go.ChangeAt
set_option linter.unusedVariables false
theorem own : ownKnob Try.prog.godebug = none := by kernel_rfl
theorem laidOut : laidOutB Try.prog = true := by kernel_rfl
set_option maxRecDepth 100000 in
theorem lifted (os : Os) (started : os.Started) (H : Type) (enc : TypeId × Value → H) :
    ReturnsInLeavingWide {} Try.checked os 3 .any (Rows.fnExactDeltaCutSpec.pre6 enc Try.prog Try.f3 Rows.fnExactDeltaCutRow.domain false) (Rows.fnExactDeltaCutSpec.post enc Try.prog Try.f3 false true false false) := by
  refine returnsInLeavingWide_of_change_sized (C := Try.checked) own started Try.func3
    (ChangeSpec.witness6 (enc := enc) (C := Try.checked) false ⟨#[], #[.agg #[.slice none 0 0, .slice none 0 0]], []⟩ 8 (by kernel_rfl) (by kernel_rfl) (by kernel_rfl) (by kernel_rfl)) ?_
  intro W base args ds gs before hval0 hW hcnd _ _
  have hval : ∀ (j : Nat) t v, Try.f3.params[j]? = some t → args[j]? = some v → Value.okWide Try.prog W .any base t v := hval0
  have hW' := hW
  obtain ⟨p, q, hA0, hV, rfl, hfz, hnd⟩ := hW
  have hA : DataW.TrodAll enc Try.prog W 0 (fun _ => true) true Try.f3.params.toList args.toList ds p := hA0
  rw [Try.params3] at hA hval
  obtain ⟨v0, vs0, d0, ds0, p0, q0, hargs, rfl, rfl, h0, r0⟩ := trodAll_cons hA
  obtain ⟨rfl, rfl, rfl⟩ := trodAll_nil r0
  obtain rfl : args = #[v0] := by cases args; simp_all
  obtain ⟨rfl, rfl⟩ := trodVars_none hV
  have k0 := h0
  have lt0 : ∀ x ∈ p0, x.block < W.heap.size := by obtain ⟨m, hm⟩ := k0; exact DataW.trod_lt m _ _ _ hm
  obtain ⟨c0, rfl, _⟩ := okWide_struct Try.underlying25 (hval 0 25 v0 rfl rfl)
  clear hA0 hval0
  obtain ⟨m, hm⟩ := h0
  obtain ⟨M, last, o, w', t', e1, e2, e3, e4⟩ := the_run (cs := c0) hm
  refine ⟨M, last, o, w', t', e1, e2, e3, e4.mono fun v hP => ?_⟩
  obtain ⟨rfl, hK⟩ := hP
  have bel : Below W.heap.size W w' := ⟨hK.os, hK.tape, hK.output, hK.size, hK.low⟩
  exact ⟨_, _, _, [], _, [], hW', trodAll_mk1 (shut_bool Try.underlying4 _), (trodAll_cons_mk (Below.trod laidOut (by kernel_rfl) (of_decide_eq_true (by kernel_rfl)) k0 bel lt0) trodAll_mk0), rfl, bel.frame _, fun h => by cases h⟩
theorem over : Rows.fnExactDeltaCutRow.holds Try.pinned (OpenSpec.ofChange Rows.fnExactDeltaCutSpec) :=
  OpenClaim.holds_of_wide_leaving 3 Try.f3 rfl rfl rfl rfl rfl rfl rfl ⟨rfl, rfl, rfl, rfl, rfl⟩ rfl rfl rfl rfl rfl (by kernel_rfl) Try.func3 (by kernel_rfl)
    (of_decide_eq_true (by kernel_rfl)) (by unfold Func.isWrapper; rw [if_neg (of_decide_eq_false (by kernel_rfl))]; exact ⟨rfl, rfl⟩)
    (fun os started H enc _ => lifted os started H enc)
end rFnExactDeltaCut
/-- THE STATEMENT. -/
theorem FnExactDeltaCut_holds : Rows.FnExactDeltaCutSaid := rFnExactDeltaCut.over
#print axioms FnExactDeltaCut_holds
end Go.Proofs.Ytngehfhcnfobbaa
