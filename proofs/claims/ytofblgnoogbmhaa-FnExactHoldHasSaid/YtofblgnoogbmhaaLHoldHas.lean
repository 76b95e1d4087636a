/- FnExactHoldHas returns true for every input. No condition. -/
import Derived.Test.YtofblgnoogbmhaaHold
import Derived.Test.YtofblgnoogbmhaaOpens
namespace Go.Proofs.Ytofblgnoogbmhaa
open Go Go.RowKit

theorem hfit_ok {house : Int} {r : Rg} {l : List Hd} (h : rok r.f r.b = false) : l.any (hfit house r) = false := by
  rw [List.any_eq_false]
  intro d _
  simp [hfit, rin, h]
set_option maxHeartbeats 1000000 in
theorem sHoldHas_any (a : Option Addr) (len cap : Nat) (l : List Hd) (house : Int) (r : Rg) (w : World) (h : SlRd w a len cap l) :
    Calls Try.prog 33 #[.slice a len cap, .int .i64 house, .agg #[.int .i64 r.f, .int .i64 r.b]] w fun e w' => e = .returned (.bool (l.any (hfit house r))) ∧ Ext w w' := by
  cases hr : rok r.f r.b
  all_goals
    go_enter Try.func33, Try.ntmps33
    go_wp2_with (first | (first | (go_at_call 15; refine (sRangeOk_any _ _ _).mono ?_; rintro _ _ ⟨rfl, x, rfl⟩) | (go_at_call 51; refine (l13Holds_any _ _ _ l house r _ (h.stays ((by repeat (first | with_reducible exact Ext.refl _ | with_reducible apply Ext.and | with_reducible apply Ext.drewx | with_reducible apply Ext.alloc | with_reducible apply Ext.ext | with_reducible apply Ext.drew | with_reducible refine Ext.setCell ?_ (by simp) _)) : Ext _ _).below)).mono ?_; rintro _ _ ⟨rfl, x, rfl⟩)) | ((first | refine wp_region_qe (by kernel_rfl) (by kernel_rfl) ?_ | refine wp_region_q (by kernel_rfl) (by kernel_rfl) ?_); (repeat (go_big_quiet_step ((first | (go_at_call 15; first | exact Calls.qb (by assumption) (sRangeOk_any _ _ _) | exact Calls.q (sRangeOk_any _ _ _)) | (go_at_call 51; first | exact Calls.qb (by assumption) (l13Holds_any _ _ _ l house r _ (h.stays ((by repeat (first | with_reducible exact Ext.refl _ | with_reducible apply Ext.and | with_reducible apply Ext.drewx | with_reducible apply Ext.alloc | with_reducible apply Ext.ext | with_reducible apply Ext.drew | with_reducible refine Ext.setCell ?_ (by simp) _)) : Ext _ _).below)) | exact Calls.q (l13Holds_any _ _ _ l house r _ (h.stays ((by repeat (first | with_reducible exact Ext.refl _ | with_reducible apply Ext.and | with_reducible apply Ext.drewx | with_reducible apply Ext.alloc | with_reducible apply Ext.ext | with_reducible apply Ext.drew | with_reducible refine Ext.setCell ?_ (by simp) _)) : Ext _ _).below))))))); refine wpQuiet_nil ?_; intro x))
    go_ret
    exact ⟨ret_bool (by first | rfl | exact (hfit_ok hr).symm), (by repeat (first | with_reducible exact Ext.refl _ | with_reducible apply Ext.and | with_reducible apply Ext.drewx | with_reducible apply Ext.alloc | with_reducible apply Ext.ext | with_reducible apply Ext.drew | with_reducible refine Ext.setCell ?_ (by simp) _))⟩

set_option maxHeartbeats 2000000 in
theorem FnExactHoldHas_walk (a : Option Addr) (len cap : Nat) (l : List Hd) (house : Int) (cs : List Value) (r : Rg) (w : World) (h : SlRd w a len cap l) (_hh : I64 house) (hr : Lay.rd w cs r) :
    Calls Try.prog 14 #[.slice a len cap, .int .i64 house, .agg cs.toArray] w fun e w' => e = .returned (.bool true) ∧ Below w.heap.size w w' := by
  obtain ⟨rfl, _, _⟩ := hr
  by_cases hz : (Sz.sz l : Int) ≤ 1048576
  · have e1 := szR_le hz
    have z : Sz.sz l ≤ 1048576 := by omega
    go_enter Try.func14, Try.ntmps14
    go_wp2_with (first | (first | (go_at_call 32; refine (sz_LHd _ _ _ l _ _ (h.stays ((by repeat (first | with_reducible exact Ext.refl _ | with_reducible apply Ext.and | with_reducible apply Ext.drewx | with_reducible apply Ext.alloc | with_reducible apply Ext.ext | with_reducible apply Ext.drew | with_reducible refine Ext.setCell ?_ (by simp) _)) : Ext _ _).below) (by omega) (by omega)).mono ?_; rintro _ _ ⟨rfl, x, rfl⟩)) | ((first | refine wp_region_qe (by kernel_rfl) (by kernel_rfl) ?_ | refine wp_region_q (by kernel_rfl) (by kernel_rfl) ?_); (repeat (go_big_quiet_step ((first | (go_at_call 32; first | exact Calls.qb (by assumption) (sz_LHd _ _ _ l _ _ (h.stays ((by repeat (first | with_reducible exact Ext.refl _ | with_reducible apply Ext.and | with_reducible apply Ext.drewx | with_reducible apply Ext.alloc | with_reducible apply Ext.ext | with_reducible apply Ext.drew | with_reducible refine Ext.setCell ?_ (by simp) _)) : Ext _ _).below) (by omega) (by omega)) | exact Calls.q (sz_LHd _ _ _ l _ _ (h.stays ((by repeat (first | with_reducible exact Ext.refl _ | with_reducible apply Ext.and | with_reducible apply Ext.drewx | with_reducible apply Ext.alloc | with_reducible apply Ext.ext | with_reducible apply Ext.drew | with_reducible refine Ext.setCell ?_ (by simp) _)) : Ext _ _).below) (by omega) (by omega))))))); refine wpQuiet_nil ?_; intro x))
    go_region_held3 (fun w' => w'.cell? ⟨w.heap.size, 0, none⟩ = some (.int .i64 r.f) ∧ w'.cell? ⟨w.heap.size, 1, none⟩ = some (.int .i64 r.b)) (go_simp) (first | (go_at_call 34; refine (to_LHd _ _ _ _ _ ?_ z).mono ?_; (exact h.stays ((by repeat (first | with_reducible exact Ext.refl _ | with_reducible apply Ext.and | with_reducible apply Ext.drewx | with_reducible apply Ext.alloc | with_reducible apply Ext.ext | with_reducible apply Ext.drew | with_reducible refine Ext.setCell ?_ (by simp) _)) : Ext _ _).below); rintro _ _ ⟨B0, rfl, x0, rfl, F0⟩; (try rw [ext_ext] at F0)) | (go_at_call 16; refine (to_Rg r _).mono ?_; rintro _ _ ⟨rfl, x, rfl⟩) | (go_at_call 33; refine (sHoldHas_any _ _ _ l house r _ ?_).mono ?_; (exact F0.out.sl.stays ((by repeat (first | with_reducible exact Ext.refl _ | with_reducible apply Ext.and | with_reducible apply Ext.drewx | with_reducible apply Ext.alloc | with_reducible apply Ext.ext | with_reducible apply Ext.drew | with_reducible refine Ext.setCell ?_ (by simp) _)) : Ext _ _).below); rintro _ _ ⟨rfl, x, rfl⟩))
    have tk := True.intro
    go_wp2_with (first | (first | (go_at_call 16; refine (to_Rg r _).mono ?_; rintro _ _ ⟨rfl, x, rfl⟩) | ((go_at_call 34; have _t := tk; refine (to_LHd _ _ _ _ _ ?_ z).mono ?_; (exact h.stays ((by repeat (first | with_reducible exact Ext.refl _ | with_reducible apply Ext.and | with_reducible apply Ext.drewx | with_reducible apply Ext.alloc | with_reducible apply Ext.ext | with_reducible apply Ext.drew | with_reducible refine Ext.setCell ?_ (by simp) _)) : Ext _ _).below); rintro _ _ ⟨B1, rfl, x1, rfl, F1⟩; (try rw [ext_ext] at F1); clear tk _t)) | ((go_at_call 34; refine (to_LHd _ _ _ _ _ ?_ z).mono ?_; (exact h.stays ((by repeat (first | with_reducible exact Ext.refl _ | with_reducible apply Ext.and | with_reducible apply Ext.drewx | with_reducible apply Ext.alloc | with_reducible apply Ext.ext | with_reducible apply Ext.drew | with_reducible refine Ext.setCell ?_ (by simp) _)) : Ext _ _).below); rintro _ _ ⟨B2, rfl, x2, rfl, F2⟩; (try rw [ext_ext] at F2))) | (go_at_call 35; refine (iHoldHas_any _ _ _ l house r _ (F1.out.sl.stays ((by repeat (first | with_reducible exact Ext.refl _ | with_reducible apply Ext.and | with_reducible apply Ext.drewx | with_reducible apply Ext.alloc | with_reducible apply Ext.ext | with_reducible apply Ext.drew | with_reducible refine Ext.setCell ?_ (by simp) _)) : Ext _ _).below)).mono ?_; rintro _ _ ⟨rfl, x, rfl⟩) | (go_at_call 36; refine (eq_LHd _ _ _ l _ _ _ l _ (F1.out.sl.stays ((by repeat (first | with_reducible exact Ext.refl _ | with_reducible apply Ext.and | with_reducible apply Ext.drewx | with_reducible apply Ext.alloc | with_reducible apply Ext.ext | with_reducible apply Ext.drew | with_reducible refine Ext.setCell ?_ (by simp) _)) : Ext _ _).below) (F2.out.sl.stays ((by repeat (first | with_reducible exact Ext.refl _ | with_reducible apply Ext.and | with_reducible apply Ext.drewx | with_reducible apply Ext.alloc | with_reducible apply Ext.ext | with_reducible apply Ext.drew | with_reducible refine Ext.setCell ?_ (by simp) _)) : Ext _ _).below)).mono ?_; rintro _ _ ⟨rfl, x, rfl⟩)) | ((first | refine wp_region_qe (by kernel_rfl) (by kernel_rfl) ?_ | refine wp_region_q (by kernel_rfl) (by kernel_rfl) ?_); (repeat (go_big_quiet_step ((first | (go_at_call 16; first | exact Calls.qb (by assumption) (to_Rg r _) | exact Calls.q (to_Rg r _)) | ((go_at_call 34; have _t := tk; refine (to_LHd _ _ _ _ _ ?_ z).mono ?_; (exact h.stays ((by repeat (first | with_reducible exact Ext.refl _ | with_reducible apply Ext.and | with_reducible apply Ext.drewx | with_reducible apply Ext.alloc | with_reducible apply Ext.ext | with_reducible apply Ext.drew | with_reducible refine Ext.setCell ?_ (by simp) _)) : Ext _ _).below); rintro _ _ ⟨B1, rfl, x1, rfl, F1⟩; (try rw [ext_ext] at F1); clear tk _t)) | ((go_at_call 34; refine (to_LHd _ _ _ _ _ ?_ z).mono ?_; (exact h.stays ((by repeat (first | with_reducible exact Ext.refl _ | with_reducible apply Ext.and | with_reducible apply Ext.drewx | with_reducible apply Ext.alloc | with_reducible apply Ext.ext | with_reducible apply Ext.drew | with_reducible refine Ext.setCell ?_ (by simp) _)) : Ext _ _).below); rintro _ _ ⟨B2, rfl, x2, rfl, F2⟩; (try rw [ext_ext] at F2))) | (go_at_call 35; first | exact Calls.qb (by assumption) (iHoldHas_any _ _ _ l house r _ (F1.out.sl.stays ((by repeat (first | with_reducible exact Ext.refl _ | with_reducible apply Ext.and | with_reducible apply Ext.drewx | with_reducible apply Ext.alloc | with_reducible apply Ext.ext | with_reducible apply Ext.drew | with_reducible refine Ext.setCell ?_ (by simp) _)) : Ext _ _).below)) | exact Calls.q (iHoldHas_any _ _ _ l house r _ (F1.out.sl.stays ((by repeat (first | with_reducible exact Ext.refl _ | with_reducible apply Ext.and | with_reducible apply Ext.drewx | with_reducible apply Ext.alloc | with_reducible apply Ext.ext | with_reducible apply Ext.drew | with_reducible refine Ext.setCell ?_ (by simp) _)) : Ext _ _).below))) | (go_at_call 36; first | exact Calls.qb (by assumption) (eq_LHd _ _ _ l _ _ _ l _ (F1.out.sl.stays ((by repeat (first | with_reducible exact Ext.refl _ | with_reducible apply Ext.and | with_reducible apply Ext.drewx | with_reducible apply Ext.alloc | with_reducible apply Ext.ext | with_reducible apply Ext.drew | with_reducible refine Ext.setCell ?_ (by simp) _)) : Ext _ _).below) (F2.out.sl.stays ((by repeat (first | with_reducible exact Ext.refl _ | with_reducible apply Ext.and | with_reducible apply Ext.drewx | with_reducible apply Ext.alloc | with_reducible apply Ext.ext | with_reducible apply Ext.drew | with_reducible refine Ext.setCell ?_ (by simp) _)) : Ext _ _).below)) | exact Calls.q (eq_LHd _ _ _ l _ _ _ l _ (F1.out.sl.stays ((by repeat (first | with_reducible exact Ext.refl _ | with_reducible apply Ext.and | with_reducible apply Ext.drewx | with_reducible apply Ext.alloc | with_reducible apply Ext.ext | with_reducible apply Ext.drew | with_reducible refine Ext.setCell ?_ (by simp) _)) : Ext _ _).below) (F2.out.sl.stays ((by repeat (first | with_reducible exact Ext.refl _ | with_reducible apply Ext.and | with_reducible apply Ext.drewx | with_reducible apply Ext.alloc | with_reducible apply Ext.ext | with_reducible apply Ext.drew | with_reducible refine Ext.setCell ?_ (by simp) _)) : Ext _ _).below))))))); refine wpQuiet_nil ?_; intro x))
    go_ret
    exact ⟨rfl, ((by repeat (first | with_reducible exact Ext.refl _ | with_reducible apply Ext.and | with_reducible apply Ext.drewx | with_reducible apply Ext.alloc | with_reducible apply Ext.ext | with_reducible apply Ext.drew | with_reducible refine Ext.setCell ?_ (by simp) _)) : Ext _ _).below⟩
  · have e1 := szR_gt hz
    go_enter Try.func14, Try.ntmps14
    go_wp2_with (first | (first | (go_at_call 32; refine (sz_LHd _ _ _ l _ _ (h.stays ((by repeat (first | with_reducible exact Ext.refl _ | with_reducible apply Ext.and | with_reducible apply Ext.drewx | with_reducible apply Ext.alloc | with_reducible apply Ext.ext | with_reducible apply Ext.drew | with_reducible refine Ext.setCell ?_ (by simp) _)) : Ext _ _).below) (by omega) (by omega)).mono ?_; rintro _ _ ⟨rfl, x, rfl⟩)) | ((first | refine wp_region_qe (by kernel_rfl) (by kernel_rfl) ?_ | refine wp_region_q (by kernel_rfl) (by kernel_rfl) ?_); (repeat (go_big_quiet_step ((first | (go_at_call 32; first | exact Calls.qb (by assumption) (sz_LHd _ _ _ l _ _ (h.stays ((by repeat (first | with_reducible exact Ext.refl _ | with_reducible apply Ext.and | with_reducible apply Ext.drewx | with_reducible apply Ext.alloc | with_reducible apply Ext.ext | with_reducible apply Ext.drew | with_reducible refine Ext.setCell ?_ (by simp) _)) : Ext _ _).below) (by omega) (by omega)) | exact Calls.q (sz_LHd _ _ _ l _ _ (h.stays ((by repeat (first | with_reducible exact Ext.refl _ | with_reducible apply Ext.and | with_reducible apply Ext.drewx | with_reducible apply Ext.alloc | with_reducible apply Ext.ext | with_reducible apply Ext.drew | with_reducible refine Ext.setCell ?_ (by simp) _)) : Ext _ _).below) (by omega) (by omega))))))); refine wpQuiet_nil ?_; intro x))
    go_ret
    exact ⟨rfl, ((by repeat (first | with_reducible exact Ext.refl _ | with_reducible apply Ext.and | with_reducible apply Ext.drewx | with_reducible apply Ext.alloc | with_reducible apply Ext.ext | with_reducible apply Ext.drew | with_reducible refine Ext.setCell ?_ (by simp) _)) : Ext _ _).below⟩
namespace rFnExactHoldHas
open Go.ChangeShapes Go.WideShapes Go.ChangeAt
set_option linter.unusedVariables false
theorem own : ownKnob Try.prog.godebug = none := by kernel_rfl
theorem laidOut : laidOutB Try.prog = true := by kernel_rfl
set_option maxRecDepth 100000 in
theorem lifted (os : Os) (started : os.Started) (H : Type) (enc : TypeId × Value → H) :
    ReturnsInHanded {} Try.checked os 14 .any (Rows.fnExactHoldHasSpec.pre6 enc Try.prog Try.f14 Rows.fnExactHoldHasRow.domain false) (Rows.fnExactHoldHasSpec.post enc Try.prog Try.f14 false true false false) := by
  refine returnsInHanded_of_change (C := Try.checked) own started (by kernel_rfl) Try.func14
    (ChangeSpec.witness6 (enc := enc) (C := Try.checked) false ⟨#[], #[.slice none 0 0, .int .i64 0, .agg #[.int .i64 0, .int .i64 0]], []⟩ 8 (by kernel_rfl) (by kernel_rfl) (by kernel_rfl) (by kernel_rfl)) ?_
  intro W base args ds gs before hval0 hW hcnd _
  have hval : ∀ (j : Nat) t v, Try.f14.params[j]? = some t → args[j]? = some v → Value.okWide Try.prog W .any base t v := hval0
  have hW' := hW
  obtain ⟨p, q, hA0, hV, rfl, hfz, hnd⟩ := hW
  have hA : DataW.TrodAll enc Try.prog W 0 (fun _ => true) true Try.f14.params.toList args.toList ds p := hA0
  rw [Try.params14] at hA hval
  obtain ⟨v0, vs0, d0, ds0, p0, q0, hargs, rfl, rfl, h0, r0⟩ := trodAll_cons hA
  obtain ⟨v1, vs1, d1, ds1, p1, q1, rfl, rfl, rfl, h1, r1⟩ := trodAll_cons r0
  obtain ⟨v2, vs2, d2, ds2, p2, q2, rfl, rfl, rfl, h2, r2⟩ := trodAll_cons r1
  obtain ⟨rfl, rfl, rfl⟩ := trodAll_nil r2
  obtain rfl : args = #[v0, v1, v2] := by cases args; simp_all
  obtain ⟨rfl, rfl⟩ := trodVars_none hV
  have k0 := h0
  have lt0 : ∀ x ∈ p0, x.block < W.heap.size := by obtain ⟨m, hm⟩ := k0; exact DataW.trod_lt m _ _ _ hm
  obtain ⟨a0, len0, cap0, rfl⟩ := okWide_slice Try.underlying44 (hval 0 44 v0 rfl rfl)
  obtain ⟨x0, a0', len0', cap0', e0, w0⟩ := open_cell opens_laws_LHd rfl h0
  obtain ⟨rfl, rfl, rfl⟩ : a0 = a0' ∧ len0 = len0' ∧ cap0 = cap0' := by simpa using e0
  have k1 := h1
  have lt1 : ∀ x ∈ p1, x.block < W.heap.size := by obtain ⟨m, hm⟩ := k1; exact DataW.trod_lt m _ _ _ hm
  obtain ⟨a1, rfl⟩ := okWide_int Try.underlying3 (hval 1 3 v1 rfl rfl)
  obtain ⟨x1, e1, w1⟩ := open_cell opens_laws_int rfl h1
  obtain rfl : x1 = a1 := by simpa using e1.symm
  have k2 := h2
  have lt2 : ∀ x ∈ p2, x.block < W.heap.size := by obtain ⟨m, hm⟩ := k2; exact DataW.trod_lt m _ _ _ hm
  obtain ⟨c2, rfl, _⟩ := okWide_struct Try.underlying24 (hval 2 24 v2 rfl rfl)
  obtain ⟨x2, w2⟩ := open_agg opens_laws_Rg h2
  obtain ⟨c2⟩ := c2
  clear hA0 hval0
  refine (FnExactHoldHas_walk a0 len0 cap0 x0 x1 c2 x2 W w0 w1 w2).mono fun e W' ⟨he, bel⟩ => ?_
  subst he
  exact ⟨_, rfl, _, _, _, [], _, [], hW', trodAll_mk1 (shut_bool Try.underlying4 _), (trodAll_cons_mk (Below.trod laidOut (by kernel_rfl) (of_decide_eq_true (by kernel_rfl)) k0 bel lt0) (trodAll_cons_mk (Below.trod laidOut (by kernel_rfl) (of_decide_eq_true (by kernel_rfl)) k1 bel lt1) (trodAll_cons_mk (Below.trod laidOut (by kernel_rfl) (of_decide_eq_true (by kernel_rfl)) k2 bel lt2) trodAll_mk0))), rfl, bel.frame _, fun h => by cases h⟩
theorem over : Rows.fnExactHoldHasRow.holds Try.pinned (OpenSpec.ofChange Rows.fnExactHoldHasSpec) :=
  OpenClaim.holds_of_wide 14 Try.f14 rfl rfl rfl rfl rfl rfl rfl ⟨rfl, rfl, rfl, rfl, rfl⟩ rfl rfl rfl rfl rfl (by kernel_rfl) Try.func14 (by kernel_rfl)
    (of_decide_eq_true (by kernel_rfl)) (by unfold Func.isWrapper; rw [if_neg (of_decide_eq_false (by kernel_rfl))]; exact ⟨rfl, rfl⟩)
    (fun os started H enc _ => lifted os started H enc)
end rFnExactHoldHas
/-- THE STATEMENT. -/
theorem FnExactHoldHas_holds : Rows.FnExactHoldHasSaid := rFnExactHoldHas.over
end Go.Proofs.Ytofblgnoogbmhaa
