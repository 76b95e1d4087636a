/- FnExactRangeCmp returns true for every input. No condition. -/
import Derived.Test.YtofblgnoogbmhaaCmp
import Derived.Test.YtofblgnoogbmhaaOpens
namespace Go.Proofs.Ytofblgnoogbmhaa
open Go Go.RowKit

set_option maxHeartbeats 400000 in
theorem FnExactRangeCmp_walk (cs : List Value) (d : Rg) (cs' : List Value) (d' : Rg) (w : World) (h : Lay.rd w cs d) (h' : Lay.rd w cs' d') :
    Calls Try.prog 13 #[.agg cs.toArray, .agg cs'.toArray] w fun e w' => e = .returned (.bool true) ∧ Below w.heap.size w w' := by
  obtain ⟨f, b⟩ := d
  obtain ⟨rfl, _, _⟩ := h
  obtain ⟨f', b'⟩ := d'
  obtain ⟨rfl, _, _⟩ := h'
  go_enter Try.func13, Try.ntmps13
  go_wp2_with (first | (first | (go_at_call 16; refine (toRange_any _ _ _).mono ?_; rintro _ _ ⟨rfl, x, rfl⟩) | (go_at_call 30; refine (sRangeCmp_any _ _ _ _ _).mono ?_; rintro _ _ ⟨rfl, x, rfl⟩) | (go_at_call 31; refine (iRangeCmp_any _ _ _ _ _).mono ?_; rintro _ _ ⟨rfl, x, rfl⟩)) | ((first | refine wp_region_qe (by kernel_rfl) (by kernel_rfl) ?_ | refine wp_region_q (by kernel_rfl) (by kernel_rfl) ?_); (repeat (go_big_quiet_step ((first | (go_at_call 16; first | exact Calls.qb (by assumption) (toRange_any _ _ _) | exact Calls.q (toRange_any _ _ _)) | (go_at_call 30; first | exact Calls.qb (by assumption) (sRangeCmp_any _ _ _ _ _) | exact Calls.q (sRangeCmp_any _ _ _ _ _)) | (go_at_call 31; first | exact Calls.qb (by assumption) (iRangeCmp_any _ _ _ _ _) | exact Calls.q (iRangeCmp_any _ _ _ _ _)))))); refine wpQuiet_nil ?_; intro x))
  go_ret
  exact ⟨rfl, (by repeat (first | exact Ext.refl _ | apply Ext.alloc | apply Ext.ext) : Ext _ _).below⟩
namespace rFnExactRangeCmp
open Go.ChangeShapes Go.WideShapes Go.ChangeAt
set_option linter.unusedVariables false
theorem own : ownKnob Try.prog.godebug = none := by kernel_rfl
theorem laidOut : laidOutB Try.prog = true := by kernel_rfl
set_option maxRecDepth 100000 in
theorem lifted (os : Os) (started : os.Started) (H : Type) (enc : TypeId × Value → H) :
    ReturnsInHanded {} Try.checked os 13 .any (Rows.fnExactRangeCmpSpec.pre6 enc Try.prog Try.f13 Rows.fnExactRangeCmpRow.domain false) (Rows.fnExactRangeCmpSpec.post enc Try.prog Try.f13 false true false false) := by
  refine returnsInHanded_of_change (C := Try.checked) own started (by kernel_rfl) Try.func13
    (ChangeSpec.witness6 (enc := enc) (C := Try.checked) false ⟨#[], #[.agg #[.int .i64 0, .int .i64 0], .agg #[.int .i64 0, .int .i64 0]], []⟩ 8 (by kernel_rfl) (by kernel_rfl) (by kernel_rfl) (by kernel_rfl)) ?_
  intro W base args ds gs before hval0 hW hcnd _
  have hval : ∀ (j : Nat) t v, Try.f13.params[j]? = some t → args[j]? = some v → Value.okWide Try.prog W .any base t v := hval0
  have hW' := hW
  obtain ⟨p, q, hA0, hV, rfl, hfz, hnd⟩ := hW
  have hA : DataW.TrodAll enc Try.prog W 0 (fun _ => true) true Try.f13.params.toList args.toList ds p := hA0
  rw [Try.params13] at hA hval
  obtain ⟨v0, vs0, d0, ds0, p0, q0, hargs, rfl, rfl, h0, r0⟩ := trodAll_cons hA
  obtain ⟨v1, vs1, d1, ds1, p1, q1, rfl, rfl, rfl, h1, r1⟩ := trodAll_cons r0
  obtain ⟨rfl, rfl, rfl⟩ := trodAll_nil r1
  obtain rfl : args = #[v0, v1] := by cases args; simp_all
  obtain ⟨rfl, rfl⟩ := trodVars_none hV
  have k0 := h0
  have lt0 : ∀ x ∈ p0, x.block < W.heap.size := by obtain ⟨m, hm⟩ := k0; exact DataW.trod_lt m _ _ _ hm
  obtain ⟨c0, rfl, _⟩ := okWide_struct Try.underlying24 (hval 0 24 v0 rfl rfl)
  obtain ⟨x0, w0⟩ := open_agg opens_laws_Rg h0
  obtain ⟨c0⟩ := c0
  have k1 := h1
  have lt1 : ∀ x ∈ p1, x.block < W.heap.size := by obtain ⟨m, hm⟩ := k1; exact DataW.trod_lt m _ _ _ hm
  obtain ⟨c1, rfl, _⟩ := okWide_struct Try.underlying24 (hval 1 24 v1 rfl rfl)
  obtain ⟨x1, w1⟩ := open_agg opens_laws_Rg h1
  obtain ⟨c1⟩ := c1
  clear hA0 hval0
  refine (FnExactRangeCmp_walk c0 x0 c1 x1 W w0 w1).mono fun e W' ⟨he, bel⟩ => ?_
  subst he
  exact ⟨_, rfl, _, _, _, [], _, [], hW', trodAll_mk1 (shut_bool Try.underlying4 _), (trodAll_cons_mk (Below.trod laidOut (by kernel_rfl) (of_decide_eq_true (by kernel_rfl)) k0 bel lt0) (trodAll_cons_mk (Below.trod laidOut (by kernel_rfl) (of_decide_eq_true (by kernel_rfl)) k1 bel lt1) trodAll_mk0)), rfl, bel.frame _, fun h => by cases h⟩
theorem over : Rows.fnExactRangeCmpRow.holds Try.pinned (OpenSpec.ofChange Rows.fnExactRangeCmpSpec) :=
  OpenClaim.holds_of_wide 13 Try.f13 rfl rfl rfl rfl rfl rfl rfl ⟨rfl, rfl, rfl, rfl, rfl⟩ rfl rfl rfl rfl rfl (by kernel_rfl) Try.func13 (by kernel_rfl)
    (of_decide_eq_true (by kernel_rfl)) (by unfold Func.isWrapper; rw [if_neg (of_decide_eq_false (by kernel_rfl))]; exact ⟨rfl, rfl⟩)
    (fun os started H enc _ => lifted os started H enc)
end rFnExactRangeCmp
/-- THE STATEMENT. -/
theorem FnExactRangeCmp_holds : Rows.FnExactRangeCmpSaid := rFnExactRangeCmp.over
end Go.Proofs.Ytofblgnoogbmhaa
