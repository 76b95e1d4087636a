/- FnExactClauseOk returns true for every input. No condition. -/
import Derived.Test.YtgcmbmjpgaadcaaClause
import Derived.Test.YtgcmbmjpgaadcaaOpens
namespace Go.Proofs.Ytgcmbmjpgaadcaa
open Go Go.RowKit

set_option maxHeartbeats 1000000 in
theorem FnExactClauseOk_walk (cs : List Value) (d : Cl) (w : World) (h : Lay.rd w cs d) :
    Calls Try.prog 5 #[.agg cs.toArray] w fun e w' => e = .returned (.bool true) ∧ Below w.heap.size w w' := by
  obtain ⟨rfl, _⟩ := h
  go_enter Try.func5, Try.ntmps5
  go_wp2_with (first | (first | (go_at_call 17; (with_reducible refine (to_Cl d _).mono ?_); rintro _ _ ⟨rfl, x, rfl⟩) | (go_at_call 16; (with_reducible refine (sClauseOk_any d _).mono ?_); rintro _ _ ⟨rfl, x, rfl⟩) | (go_at_call 18; (with_reducible refine (iClauseOk_any d _).mono ?_); rintro _ _ ⟨rfl, x, rfl⟩)) | ((first | with_reducible refine wp_region_qe (by kernel_rfl) (by kernel_rfl) ?_ | with_reducible refine wp_region_q (by kernel_rfl) (by kernel_rfl) ?_); (repeat (go_big_quiet_step ((first | (go_at_call 17; first | with_reducible exact Calls.qb (by assumption) (to_Cl d _) | with_reducible exact Calls.q (to_Cl d _)) | (go_at_call 16; first | with_reducible exact Calls.qb (by assumption) (sClauseOk_any d _) | with_reducible exact Calls.q (sClauseOk_any d _)) | (go_at_call 18; first | with_reducible exact Calls.qb (by assumption) (iClauseOk_any d _) | with_reducible exact Calls.q (iClauseOk_any d _)))))); refine wpQuiet_nil ?_; intro x))
  go_ret
  exact ⟨rfl, ((by repeat (first | with_reducible exact Ext.refl _ | with_reducible apply Ext.and | with_reducible apply Ext.drewx | with_reducible apply Ext.alloc | with_reducible apply Ext.ext | with_reducible apply Ext.drew | with_reducible refine Ext.setCell ?_ (by simp) _)) : Ext _ _).below⟩
namespace rFnExactClauseOk
open Go.ChangeShapes Go.WideShapes Go.ChangeAt
set_option linter.unusedVariables false
theorem own : ownKnob Try.prog.godebug = none := by kernel_rfl
theorem laidOut : laidOutB Try.prog = true := by kernel_rfl
set_option maxRecDepth 100000 in
theorem lifted (os : Os) (started : os.Started) (H : Type) (enc : TypeId × Value → H) :
    ReturnsInHanded {} Try.checked os 5 .any (Rows.fnExactClauseOkSpec.pre6 enc Try.prog Try.f5 Rows.fnExactClauseOkRow.domain false) (Rows.fnExactClauseOkSpec.post enc Try.prog Try.f5 false true false false) := by
  refine returnsInHanded_of_change (C := Try.checked) own started (by kernel_rfl) Try.func5
    (ChangeSpec.witness6 (enc := enc) (C := Try.checked) false ⟨#[], #[.agg #[.int .i64 0, .int .i64 0, .int .i64 0, .int .i64 0, .bool false, .int .i64 0, .int .i64 0, .int .i64 0]], []⟩ 8 (by kernel_rfl) (by kernel_rfl) (by kernel_rfl) (by kernel_rfl)) ?_
  intro W base args ds gs before hval0 hW hcnd _
  have hval : ∀ (j : Nat) t v, Try.f5.params[j]? = some t → args[j]? = some v → Value.okWide Try.prog W .any base t v := hval0
  have hW' := hW
  obtain ⟨p, q, hA0, hV, rfl, hfz, hnd⟩ := hW
  have hA : DataW.TrodAll enc Try.prog W 0 (fun _ => true) true Try.f5.params.toList args.toList ds p := hA0
  rw [Try.params5] at hA hval
  obtain ⟨v0, vs0, d0, ds0, p0, q0, hargs, rfl, rfl, h0, r0⟩ := trodAll_cons hA
  obtain ⟨rfl, rfl, rfl⟩ := trodAll_nil r0
  obtain rfl : args = #[v0] := by cases args; simp_all
  obtain ⟨rfl, rfl⟩ := trodVars_none hV
  have k0 := h0
  have lt0 : ∀ x ∈ p0, x.block < W.heap.size := by obtain ⟨m, hm⟩ := k0; exact DataW.trod_lt m _ _ _ hm
  obtain ⟨c0, rfl, _⟩ := okWide_struct Try.underlying45 (hval 0 45 v0 rfl rfl)
  obtain ⟨x0, w0⟩ := open_agg opens_laws_Cl h0
  obtain ⟨c0⟩ := c0
  clear hA0 hval0
  refine (FnExactClauseOk_walk c0 x0 W w0).mono fun e W' ⟨he, bel⟩ => ?_
  subst he
  exact ⟨_, rfl, _, _, _, [], _, [], hW', trodAll_mk1 (shut_bool Try.underlying4 _), (trodAll_cons_mk (Below.trod laidOut (by kernel_rfl) (of_decide_eq_true (by kernel_rfl)) k0 bel lt0) trodAll_mk0), rfl, bel.frame _, fun h => by cases h⟩
theorem over : Rows.fnExactClauseOkRow.holds Try.pinned (OpenSpec.ofChange Rows.fnExactClauseOkSpec) :=
  OpenClaim.holds_of_wide 5 Try.f5 rfl rfl rfl rfl rfl rfl rfl ⟨rfl, rfl, rfl, rfl, rfl⟩ rfl rfl rfl rfl rfl (by kernel_rfl) Try.func5 (by kernel_rfl)
    (of_decide_eq_true (by kernel_rfl)) (by unfold Func.isWrapper; rw [if_neg (of_decide_eq_false (by kernel_rfl))]; exact ⟨rfl, rfl⟩)
    (fun os started H enc _ => lifted os started H enc)
end rFnExactClauseOk
/-- THE STATEMENT. -/
theorem FnExactClauseOk_holds : Rows.FnExactClauseOkSaid := rFnExactClauseOk.over
end Go.Proofs.Ytgcmbmjpgaadcaa
