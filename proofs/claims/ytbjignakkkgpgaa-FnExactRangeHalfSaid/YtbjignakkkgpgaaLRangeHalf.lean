/- FnExactRangeHalf returns true for every input. No condition. -/
import Derived.Test.YtbjignakkkgpgaaHls
import Derived.Test.YtbjignakkkgpgaaOpens
namespace Go.Proofs.Ytbjignakkkgpgaa
open Go Go.RowKit

theorem iRangeHalf_ext (f b : Int) (up : Bool) (w : World) :
    Calls Try.prog 6 #[.agg #[.int .i64 f, .int .i64 b], .bool up] w fun e w' => e = .returned (.tuple #[.agg #[.int .i64 (hf f b up).1, .int .i64 (hf f b up).2.1], .bool (hf f b up).2.2]) ∧ Ext w w' :=
  (callsIn_wide.1 (iRangeHalf_any f b up w)).mono fun _ _ ⟨he, hb⟩ => ⟨he, Ext.of hb⟩
set_option maxHeartbeats 400000 in
theorem eqRange_same (f b : Int) (w : World) :
    Calls Try.prog 7 #[.agg #[.int .i64 f, .int .i64 b], .agg #[.int .i64 f, .int .i64 b]] w fun e w' => e = .returned (.bool true) ∧ Ext w w' := by
  go_enter Try.func7, Try.ntmps7
  go_wp2_with (first | ((first | with_reducible refine wp_region_qe (by kernel_rfl) (by kernel_rfl) ?_ | with_reducible refine wp_region_q (by kernel_rfl) (by kernel_rfl) ?_); (repeat (go_big_quiet_step (fail))); refine wpQuiet_nil ?_; intro x))
  go_ret
  exact ⟨rfl, (by repeat (first | with_reducible exact Ext.refl _ | with_reducible apply Ext.and | with_reducible apply Ext.drewx | with_reducible apply Ext.alloc | with_reducible apply Ext.ext | with_reducible apply Ext.drew | with_reducible refine Ext.setCell ?_ (by simp) _))⟩

set_option maxHeartbeats 4000000 in
theorem FnExactRangeHalf_walk (cs : List Value) (d : Rg) (up : Bool) (w : World) (h : Lay.rd w cs d) :
    Calls Try.prog 3 #[.agg cs.toArray, .bool up] w fun e w' => e = .returned (.bool true) ∧ Below w.heap.size w w' := by
  obtain ⟨f, b⟩ := d
  obtain ⟨rfl, _, _⟩ := h
  go_enter Try.func3, Try.ntmps3
  go_wp2_with (first | (first | (go_at_call 5; (with_reducible refine (toRange_any _ _ _).mono ?_); rintro _ _ ⟨rfl, x, rfl⟩) | (go_at_call 4; (with_reducible refine (sRangeHalf_any _ _ _ _).mono ?_); rintro _ _ ⟨rfl, x, rfl⟩) | (go_at_call 6; (with_reducible refine (iRangeHalf_ext _ _ _ _).mono ?_); rintro _ _ ⟨rfl, x, rfl⟩) | (go_at_call 7; (with_reducible refine (eqRange_same _ _ _).mono ?_); rintro _ _ ⟨rfl, x, rfl⟩)) | ((first | with_reducible refine wp_region_qe (by kernel_rfl) (by kernel_rfl) ?_ | with_reducible refine wp_region_q (by kernel_rfl) (by kernel_rfl) ?_); (repeat' (first | go_big_quiet_step ((first | (go_at_call 5; first | with_reducible exact Calls.qb (by assumption) (toRange_any _ _ _) | with_reducible exact Calls.q (toRange_any _ _ _)) | (go_at_call 4; first | with_reducible exact Calls.qb (by assumption) (sRangeHalf_any _ _ _ _) | with_reducible exact Calls.q (sRangeHalf_any _ _ _ _)) | (go_at_call 6; first | with_reducible exact Calls.qb (by assumption) (iRangeHalf_ext _ _ _ _) | with_reducible exact Calls.q (iRangeHalf_ext _ _ _ _)) | (go_at_call 7; first | with_reducible exact Calls.qb (by assumption) (eqRange_same _ _ _) | with_reducible exact Calls.q (eqRange_same _ _ _)))) | (refine wpQuiet_split rfl rfl rfl rfl (fun hsp => ?_) (fun hsp => ?_); ((fail_if_success (cases hsp; done)); simp only [hsp]; (try first | have hsq : _ < _ := of_decide_eq_true hsp | have hsq : _ ≤ _ := of_decide_eq_true hsp | have hsq : ¬ _ < _ := of_decide_eq_false hsp | have hsq : ¬ _ ≤ _ := of_decide_eq_false hsp)); rotate_left; ((fail_if_success (cases hsp; done)); simp only [hsp]; (try first | have hsq : _ < _ := of_decide_eq_true hsp | have hsq : _ ≤ _ := of_decide_eq_true hsp | have hsq : ¬ _ < _ := of_decide_eq_false hsp | have hsq : ¬ _ ≤ _ := of_decide_eq_false hsp))))); (all_goals (refine wpQuiet_nil ?_; intro x))) | ((first | with_reducible refine wp_region_seqSe (by kernel_rfl) (by kernel_rfl) ?_ | with_reducible refine wp_region_seqSw (by kernel_rfl) (by kernel_rfl) ?_); (repeat' (first | ((with_reducible refine wpSeqS_pure (by with_unfolding_all rfl) (fun Kq hKq => ?_)); (repeat' (first | go_big_quiet_step (fail) | (refine wpQuiet_split rfl rfl rfl rfl (fun hsp => ?_) (fun hsp => ?_); ((fail_if_success (cases hsp; done)); simp only [hsp]; (try first | have hsq : _ < _ := of_decide_eq_true hsp | have hsq : _ ≤ _ := of_decide_eq_true hsp | have hsq : ¬ _ < _ := of_decide_eq_false hsp | have hsq : ¬ _ ≤ _ := of_decide_eq_false hsp)); rotate_left; ((fail_if_success (cases hsp; done)); simp only [hsp]; (try first | have hsq : _ < _ := of_decide_eq_true hsp | have hsq : _ ≤ _ := of_decide_eq_true hsp | have hsq : ¬ _ < _ := of_decide_eq_false hsp | have hsq : ¬ _ ≤ _ := of_decide_eq_false hsp))))); (all_goals (refine wpQuiet_nil ?_; refine hKq _ ?_; clear hKq Kq))) | ((with_reducible refine wpSeqS_load (by with_unfolding_all rfl) (fun Kq hKq => ?_)); (repeat' (first | go_big_quiet_step (fail) | (refine wpQuiet_split rfl rfl rfl rfl (fun hsp => ?_) (fun hsp => ?_); ((fail_if_success (cases hsp; done)); simp only [hsp]; (try first | have hsq : _ < _ := of_decide_eq_true hsp | have hsq : _ ≤ _ := of_decide_eq_true hsp | have hsq : ¬ _ < _ := of_decide_eq_false hsp | have hsq : ¬ _ ≤ _ := of_decide_eq_false hsp)); rotate_left; ((fail_if_success (cases hsp; done)); simp only [hsp]; (try first | have hsq : _ < _ := of_decide_eq_true hsp | have hsq : _ ≤ _ := of_decide_eq_true hsp | have hsq : ¬ _ < _ := of_decide_eq_false hsp | have hsq : ¬ _ ≤ _ := of_decide_eq_false hsp))))); (all_goals (refine wpQuiet_nil ?_; refine hKq _ ?_; clear hKq Kq))) | ((with_reducible refine wpSeqS_act (by with_unfolding_all rfl) (fun Q' hQ' => ?_)); (go_wp2_with (first | (go_at_call 5; (with_reducible refine (toRange_any _ _ _).mono ?_); rintro _ _ ⟨rfl, x, rfl⟩) | (go_at_call 4; (with_reducible refine (sRangeHalf_any _ _ _ _).mono ?_); rintro _ _ ⟨rfl, x, rfl⟩) | (go_at_call 6; (with_reducible refine (iRangeHalf_ext _ _ _ _).mono ?_); rintro _ _ ⟨rfl, x, rfl⟩) | (go_at_call 7; (with_reducible refine (eqRange_same _ _ _).mono ?_); rintro _ _ ⟨rfl, x, rfl⟩))); (all_goals (refine hQ' _ _ rfl ?_ ?_; (first | (focus (intro hbk; simp [brkB] at hbk; done)) | (focus (intro _; change Ext _ _; exact (by repeat (first | with_reducible assumption | with_reducible exact Ext.refl _ | with_reducible apply Ext.and | with_reducible apply Ext.drewx | with_reducible apply Ext.alloc | with_reducible apply Ext.ext | with_reducible apply Ext.drew | with_reducible refine Ext.setCell ?_ (by simp) _))))); clear hQ' Q'))))); (all_goals ((with_reducible refine wpSeqS_nil ?_)))))
  all_goals
    go_ret
    exact ⟨rfl, ((by repeat (first | with_reducible exact Ext.refl _ | with_reducible apply Ext.and | with_reducible apply Ext.drewx | with_reducible apply Ext.alloc | with_reducible apply Ext.ext | with_reducible apply Ext.drew | with_reducible refine Ext.setCell ?_ (by simp) _)) : Ext _ _).below⟩
namespace rFnExactRangeHalf
open Go.ChangeShapes Go.WideShapes Go.ChangeAt
set_option linter.unusedVariables false
theorem own : ownKnob Try.prog.godebug = none := by kernel_rfl
theorem laidOut : laidOutB Try.prog = true := by kernel_rfl
set_option maxRecDepth 100000 in
theorem lifted (os : Os) (started : os.Started) (H : Type) (enc : TypeId × Value → H) :
    ReturnsInHanded {} Try.checked os 3 .any (Rows.fnExactRangeHalfSpec.pre6 enc Try.prog Try.f3 Rows.fnExactRangeHalfRow.domain false) (Rows.fnExactRangeHalfSpec.post enc Try.prog Try.f3 false true false false) := by
  refine returnsInHanded_of_change (C := Try.checked) own started (by kernel_rfl) Try.func3
    (ChangeSpec.witness6 (enc := enc) (C := Try.checked) false ⟨#[], #[.agg #[.int .i64 0, .int .i64 0], .bool false], []⟩ 8 (by kernel_rfl) (by kernel_rfl) (by kernel_rfl) (by kernel_rfl)) ?_
  intro W base args ds gs before hval0 hW hcnd _
  have hval : ∀ (j : Nat) t v, Try.f3.params[j]? = some t → args[j]? = some v → Value.okWide Try.prog W .any base t v := hval0
  have hW' := hW
  obtain ⟨p, q, hA0, hV, rfl, hfz, hnd⟩ := hW
  have hA : DataW.TrodAll enc Try.prog W 0 (fun _ => true) true Try.f3.params.toList args.toList ds p := hA0
  rw [Try.params3] at hA hval
  obtain ⟨v0, vs0, d0, ds0, p0, q0, hargs, rfl, rfl, h0, r0⟩ := trodAll_cons hA
  obtain ⟨v1, vs1, d1, ds1, p1, q1, rfl, rfl, rfl, h1, r1⟩ := trodAll_cons r0
  obtain ⟨rfl, rfl, rfl⟩ := trodAll_nil r1
  obtain rfl : args = #[v0, v1] := by cases args; simp_all
  obtain ⟨rfl, rfl⟩ := trodVars_none hV
  have k0 := h0
  have lt0 : ∀ x ∈ p0, x.block < W.heap.size := by obtain ⟨m, hm⟩ := k0; exact DataW.trod_lt m _ _ _ hm
  obtain ⟨c0, rfl, _⟩ := okWide_struct Try.underlying23 (hval 0 23 v0 rfl rfl)
  obtain ⟨x0, w0⟩ := open_agg opens_laws_Rg h0
  obtain ⟨c0⟩ := c0
  have k1 := h1
  have lt1 : ∀ x ∈ p1, x.block < W.heap.size := by obtain ⟨m, hm⟩ := k1; exact DataW.trod_lt m _ _ _ hm
  obtain ⟨a1, rfl⟩ := okWide_bool Try.underlying4 (hval 1 4 v1 rfl rfl)
  clear hA0 hval0
  refine (FnExactRangeHalf_walk c0 x0 a1 W w0).mono fun e W' ⟨he, bel⟩ => ?_
  subst he
  exact ⟨_, rfl, _, _, _, [], _, [], hW', trodAll_mk1 (shut_bool Try.underlying4 _), (trodAll_cons_mk (Below.trod laidOut (by kernel_rfl) (of_decide_eq_true (by kernel_rfl)) k0 bel lt0) (trodAll_cons_mk (Below.trod laidOut (by kernel_rfl) (of_decide_eq_true (by kernel_rfl)) k1 bel lt1) trodAll_mk0)), rfl, bel.frame _, fun h => by cases h⟩
theorem over : Rows.fnExactRangeHalfRow.holds Try.pinned (OpenSpec.ofChange Rows.fnExactRangeHalfSpec) :=
  OpenClaim.holds_of_wide 3 Try.f3 rfl rfl rfl rfl rfl rfl rfl ⟨rfl, rfl, rfl, rfl, rfl⟩ rfl rfl rfl rfl rfl (by kernel_rfl) Try.func3 (by kernel_rfl)
    (of_decide_eq_true (by kernel_rfl)) (by unfold Func.isWrapper; rw [if_neg (of_decide_eq_false (by kernel_rfl))]; exact ⟨rfl, rfl⟩)
    (fun os started H enc _ => lifted os started H enc)
end rFnExactRangeHalf
/-- THE STATEMENT. -/
theorem FnExactRangeHalf_holds : Rows.FnExactRangeHalfSaid := rFnExactRangeHalf.over
end Go.Proofs.Ytbjignakkkgpgaa
