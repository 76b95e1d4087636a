/- FnRangeHas returns true for every input. No condition. -/
import Derived.Test.YthkfgdclbjabeaaDrawR
import Derived.Test.YthkfgdclbjabeaaOpens
namespace Go.Proofs.Ythkfgdclbjabeaa
open Go Go.RowKit

theorem iMany_ok (f b : Int) (w : World) (h : rok f b = true) : Calls Try.prog 11 #[.agg #[.int .i64 f, .int .i64 b]] w fun e w' => e = .returned (.int .i64 (rsz b)) ∧ Ext w w' := by
  have e : rmany f b = rsz b := by unfold rmany; rw [if_pos h]
  rw [← e]; exact iRangeMany_any f b w
theorem rhas_zero {v : Int} (h : inB v 0 255 = true) : rhas 0 0 v = true := by
  have h0 := inB_true.1 h
  have e : rok 0 0 = true := by decide
  have e2 : covB 0 0 v = true := by unfold covB; rw [rsz_zero]; exact decide_eq_true (by omega)
  unfold rhas; rw [e, h, e2]; rfl
theorem iHas_zero (v : Int) (w : World) (h : inB v 0 255 = true) : Calls Try.prog 14 #[.agg #[.int .i64 0, .int .i64 0], .int .i64 v] w fun e w' => e = .returned (.bool true) ∧ Ext w w' := by
  rw [← rhas_zero h]; exact iRangeHas_any 0 0 v w
theorem rhas_in {f b v : Int} (hr : rok f b = true) (h : inB v 0 255 = true) : rhas f b v = covB f b v := by unfold rhas; rw [hr, h]; simp
theorem rhas_out {f b v : Int} (h : inB v 0 255 = false) : rhas f b v = false := by unfold rhas; rw [h]; simp
theorem rhas_no {f b v : Int} (h : rok f b = false) : rhas f b v = false := by unfold rhas; rw [h]; rfl

set_option linter.unusedVariables false in
set_option maxHeartbeats 4000000 in
theorem FnRangeHas_walk (a0 : Option Addr) (len0 cap0 : Nat) (l0 : List U8) (w : World) (h : SlRd w a0 len0 cap0 l0) :
    Calls Try.prog 6 #[.slice a0 len0 cap0] w fun e w' => e = .returned (.bool true) ∧ Below w.heap.size w w' := by
  by_cases hz : len0 ≤ 1048576
  case neg =>
    have hb0 : decide (1048576 < (len0 : Int)) = true := by simp; omega
    go_enter Try.func6, Try.ntmps6
    go_wp2_with (first | ((first | with_reducible refine wp_region_qe (by kernel_rfl) (by kernel_rfl) ?_ | with_reducible refine wp_region_q (by kernel_rfl) (by kernel_rfl) ?_); (repeat' (first | go_big_quiet_step (fail) | (refine wpQuiet_split rfl rfl rfl rfl (fun hsp => ?_) (fun hsp => ?_); ((fail_if_success (cases hsp; done)); simp only [hsp]; (try first | have hsq : _ < _ := of_decide_eq_true hsp | have hsq : _ ≤ _ := of_decide_eq_true hsp | have hsq : ¬ _ < _ := of_decide_eq_false hsp | have hsq : ¬ _ ≤ _ := of_decide_eq_false hsp)); rotate_left; ((fail_if_success (cases hsp; done)); simp only [hsp]; (try first | have hsq : _ < _ := of_decide_eq_true hsp | have hsq : _ ≤ _ := of_decide_eq_true hsp | have hsq : ¬ _ < _ := of_decide_eq_false hsp | have hsq : ¬ _ ≤ _ := of_decide_eq_false hsp))))); (all_goals (refine wpQuiet_nil ?_; intro x))))
    go_ret
    exact ⟨rfl, ((by repeat (first | with_reducible exact Ext.refl _ | with_reducible apply Ext.and | with_reducible apply Ext.drewx | with_reducible apply Ext.alloc | with_reducible apply Ext.ext | with_reducible apply Ext.drew | with_reducible refine Ext.setCell ?_ (by simp) _)) : Ext _ _).below⟩
  have hb0 : decide (1048576 < (len0 : Int)) = false := by simp; omega
  go_enter Try.func6, Try.ntmps6
  go_wp2_with (first | (first | ((go_at_call 19; (with_reducible refine (drawHas_any _ _ _ l0 _ (h.stays ((by repeat (first | with_reducible exact Ext.refl _ | with_reducible apply Ext.and | with_reducible apply Ext.drewx | with_reducible apply Ext.alloc | with_reducible apply Ext.ext | with_reducible apply Ext.drew | with_reducible refine Ext.setCell ?_ (by simp) _)) : Ext _ _).below)).mono ?_); rintro _ _ ⟨f, b, v, rfl, ⟨b1, b2, b3, b4, b5, b6⟩, x1, rfl⟩)) | ((go_at_call 14; (with_reducible refine (iRangeHas_any f b v _).mono ?_); rintro _ _ ⟨rfl, y1, rfl⟩; refine Hid.out ?_))) | ((first | with_reducible refine wp_region_qe (by kernel_rfl) (by kernel_rfl) ?_ | with_reducible refine wp_region_q (by kernel_rfl) (by kernel_rfl) ?_); (repeat' (first | go_big_quiet_step ((first | ((go_at_call 19; (with_reducible refine (drawHas_any _ _ _ l0 _ (h.stays ((by repeat (first | with_reducible exact Ext.refl _ | with_reducible apply Ext.and | with_reducible apply Ext.drewx | with_reducible apply Ext.alloc | with_reducible apply Ext.ext | with_reducible apply Ext.drew | with_reducible refine Ext.setCell ?_ (by simp) _)) : Ext _ _).below)).mono ?_); rintro _ _ ⟨f, b, v, rfl, ⟨b1, b2, b3, b4, b5, b6⟩, x1, rfl⟩)) | ((go_at_call 14; (with_reducible refine (iRangeHas_any f b v _).mono ?_); rintro _ _ ⟨rfl, y1, rfl⟩; refine Hid.out ?_)))) | (refine wpQuiet_split rfl rfl rfl rfl (fun hsp => ?_) (fun hsp => ?_); ((fail_if_success (cases hsp; done)); simp only [hsp]; (try first | have hsq : _ < _ := of_decide_eq_true hsp | have hsq : _ ≤ _ := of_decide_eq_true hsp | have hsq : ¬ _ < _ := of_decide_eq_false hsp | have hsq : ¬ _ ≤ _ := of_decide_eq_false hsp)); rotate_left; ((fail_if_success (cases hsp; done)); simp only [hsp]; (try first | have hsq : _ < _ := of_decide_eq_true hsp | have hsq : _ ≤ _ := of_decide_eq_true hsp | have hsq : ¬ _ < _ := of_decide_eq_false hsp | have hsq : ¬ _ ≤ _ := of_decide_eq_false hsp))))); (all_goals (refine wpQuiet_nil ?_; intro x))))
  refine hidden ?_
  cases hr : rok f b
  · have e := rhas_no (v := v) hr
    go_wp2_with (first | (first | (go_at_call 20; (with_reducible refine (sRangeHas_any f b v _).mono ?_); rintro _ _ ⟨rfl, x, rfl⟩) | (go_at_call 10; (with_reducible refine (sRangeOk_any f b _).mono ?_); rintro _ _ ⟨rfl, x, rfl⟩)) | ((first | with_reducible refine wp_region_qe (by kernel_rfl) (by kernel_rfl) ?_ | with_reducible refine wp_region_q (by kernel_rfl) (by kernel_rfl) ?_); (repeat' (first | go_big_quiet_step ((first | (go_at_call 20; first | with_reducible exact Calls.qb (by assumption) (sRangeHas_any f b v _) | with_reducible exact Calls.q (sRangeHas_any f b v _)) | (go_at_call 10; first | with_reducible exact Calls.qb (by assumption) (sRangeOk_any f b _) | with_reducible exact Calls.q (sRangeOk_any f b _)))) | (refine wpQuiet_split rfl rfl rfl rfl (fun hsp => ?_) (fun hsp => ?_); ((fail_if_success (cases hsp; done)); simp only [hsp]; (try first | have hsq : _ < _ := of_decide_eq_true hsp | have hsq : _ ≤ _ := of_decide_eq_true hsp | have hsq : ¬ _ < _ := of_decide_eq_false hsp | have hsq : ¬ _ ≤ _ := of_decide_eq_false hsp)); rotate_left; ((fail_if_success (cases hsp; done)); simp only [hsp]; (try first | have hsq : _ < _ := of_decide_eq_true hsp | have hsq : _ ≤ _ := of_decide_eq_true hsp | have hsq : ¬ _ < _ := of_decide_eq_false hsp | have hsq : ¬ _ ≤ _ := of_decide_eq_false hsp))))); (all_goals (refine wpQuiet_nil ?_; intro x))))
    all_goals
      go_ret
      exact ⟨rfl, ((by repeat (first | with_reducible exact Ext.refl _ | with_reducible apply Ext.and | with_reducible apply Ext.drewx | with_reducible apply Ext.alloc | with_reducible apply Ext.ext | with_reducible apply Ext.drew | with_reducible refine Ext.setCell ?_ (by simp) _)) : Ext _ _).below⟩
  cases hi : inB v 0 255
  · have e := inB_false.1 hi
    go_wp2_with (first | (first | (go_at_call 20; (with_reducible refine (sRangeHas_any f b v _).mono ?_); rintro _ _ ⟨rfl, x, rfl⟩) | (go_at_call 10; (with_reducible refine (sRangeOk_any f b _).mono ?_); rintro _ _ ⟨rfl, x, rfl⟩)) | ((first | with_reducible refine wp_region_qe (by kernel_rfl) (by kernel_rfl) ?_ | with_reducible refine wp_region_q (by kernel_rfl) (by kernel_rfl) ?_); (repeat' (first | go_big_quiet_step ((first | (go_at_call 20; first | with_reducible exact Calls.qb (by assumption) (sRangeHas_any f b v _) | with_reducible exact Calls.q (sRangeHas_any f b v _)) | (go_at_call 10; first | with_reducible exact Calls.qb (by assumption) (sRangeOk_any f b _) | with_reducible exact Calls.q (sRangeOk_any f b _)))) | (refine wpQuiet_split rfl rfl rfl rfl (fun hsp => ?_) (fun hsp => ?_); ((fail_if_success (cases hsp; done)); simp only [hsp]; (try first | have hsq : _ < _ := of_decide_eq_true hsp | have hsq : _ ≤ _ := of_decide_eq_true hsp | have hsq : ¬ _ < _ := of_decide_eq_false hsp | have hsq : ¬ _ ≤ _ := of_decide_eq_false hsp)); rotate_left; ((fail_if_success (cases hsp; done)); simp only [hsp]; (try first | have hsq : _ < _ := of_decide_eq_true hsp | have hsq : _ ≤ _ := of_decide_eq_true hsp | have hsq : ¬ _ < _ := of_decide_eq_false hsp | have hsq : ¬ _ ≤ _ := of_decide_eq_false hsp))))); (all_goals (refine wpQuiet_nil ?_; intro x))))
    all_goals first
      | (go_ret; exact ⟨rfl, ((by repeat (first | with_reducible exact Ext.refl _ | with_reducible apply Ext.and | with_reducible apply Ext.drewx | with_reducible apply Ext.alloc | with_reducible apply Ext.ext | with_reducible apply Ext.drew | with_reducible refine Ext.setCell ?_ (by simp) _)) : Ext _ _).below⟩)
      | (exfalso; omega)
  have e0 := rhas_in (f := f) (b := b) hr hi
  have hv := inB_true.1 hi
  obtain ⟨k0, k1, k2, k3⟩ := rok_bd hr
  obtain ⟨rz0, rz1⟩ := rsz_bd k0 k1
  obtain ⟨hv0, hv1⟩ := hv
  have hcd : ∃ c, covB f b v = c := ⟨_, rfl⟩
  by_cases hf : f ≤ v
  · have hf' : decide (f ≤ v) = true := by simpa using hf
    by_cases hg : v < f + rsz b
    · have e : rhas f b v = true := by rw [e0]; unfold covB; exact decide_eq_true ⟨hf, hg⟩
      have hg' : decide (v < f + rsz b) = true := by simpa using hg
      clear e0 hcd
      go_wp2_with (first | (first | (go_at_call 20; (with_reducible refine (sRangeHas_any f b v _).mono ?_); rintro _ _ ⟨rfl, x, rfl⟩) | (go_at_call 10; (with_reducible refine (sRangeOk_any f b _).mono ?_); rintro _ _ ⟨rfl, x, rfl⟩) | (go_at_call 11; (with_reducible refine (iMany_ok f b _ hr).mono ?_); rintro _ _ ⟨rfl, x, rfl⟩) | (go_at_call 14; (with_reducible refine (iHas_zero v _ hi).mono ?_); rintro _ _ ⟨rfl, x, rfl⟩)) | ((first | with_reducible refine wp_region_qe (by kernel_rfl) (by kernel_rfl) ?_ | with_reducible refine wp_region_q (by kernel_rfl) (by kernel_rfl) ?_); (repeat' (first | go_big_quiet_step ((first | (go_at_call 20; first | with_reducible exact Calls.qb (by assumption) (sRangeHas_any f b v _) | with_reducible exact Calls.q (sRangeHas_any f b v _)) | (go_at_call 10; first | with_reducible exact Calls.qb (by assumption) (sRangeOk_any f b _) | with_reducible exact Calls.q (sRangeOk_any f b _)) | (go_at_call 11; first | with_reducible exact Calls.qb (by assumption) (iMany_ok f b _ hr) | with_reducible exact Calls.q (iMany_ok f b _ hr)) | (go_at_call 14; first | with_reducible exact Calls.qb (by assumption) (iHas_zero v _ hi) | with_reducible exact Calls.q (iHas_zero v _ hi)))) | (refine wpQuiet_split rfl rfl rfl rfl (fun hsp => ?_) (fun hsp => ?_); ((fail_if_success (cases hsp; done)); simp only [hsp]; (try first | have hsq : _ < _ := of_decide_eq_true hsp | have hsq : _ ≤ _ := of_decide_eq_true hsp | have hsq : ¬ _ < _ := of_decide_eq_false hsp | have hsq : ¬ _ ≤ _ := of_decide_eq_false hsp)); rotate_left; ((fail_if_success (cases hsp; done)); simp only [hsp]; (try first | have hsq : _ < _ := of_decide_eq_true hsp | have hsq : _ ≤ _ := of_decide_eq_true hsp | have hsq : ¬ _ < _ := of_decide_eq_false hsp | have hsq : ¬ _ ≤ _ := of_decide_eq_false hsp))))); (all_goals (refine wpQuiet_nil ?_; intro x))))
      all_goals first
        | (go_ret; exact ⟨rfl, ((by repeat (first | with_reducible exact Ext.refl _ | with_reducible apply Ext.and | with_reducible apply Ext.drewx | with_reducible apply Ext.alloc | with_reducible apply Ext.ext | with_reducible apply Ext.drew | with_reducible refine Ext.setCell ?_ (by simp) _)) : Ext _ _).below⟩)
        | (exfalso; omega)
    · have e : rhas f b v = false := by rw [e0]; unfold covB; exact decide_eq_false (fun hh => hg hh.2)
      have hg' : decide (v < f + rsz b) = false := by simpa using hg
      clear e0 hcd
      go_wp2_with (first | (first | (go_at_call 20; (with_reducible refine (sRangeHas_any f b v _).mono ?_); rintro _ _ ⟨rfl, x, rfl⟩) | (go_at_call 10; (with_reducible refine (sRangeOk_any f b _).mono ?_); rintro _ _ ⟨rfl, x, rfl⟩) | (go_at_call 11; (with_reducible refine (iMany_ok f b _ hr).mono ?_); rintro _ _ ⟨rfl, x, rfl⟩) | (go_at_call 14; (with_reducible refine (iHas_zero v _ hi).mono ?_); rintro _ _ ⟨rfl, x, rfl⟩)) | ((first | with_reducible refine wp_region_qe (by kernel_rfl) (by kernel_rfl) ?_ | with_reducible refine wp_region_q (by kernel_rfl) (by kernel_rfl) ?_); (repeat' (first | go_big_quiet_step ((first | (go_at_call 20; first | with_reducible exact Calls.qb (by assumption) (sRangeHas_any f b v _) | with_reducible exact Calls.q (sRangeHas_any f b v _)) | (go_at_call 10; first | with_reducible exact Calls.qb (by assumption) (sRangeOk_any f b _) | with_reducible exact Calls.q (sRangeOk_any f b _)) | (go_at_call 11; first | with_reducible exact Calls.qb (by assumption) (iMany_ok f b _ hr) | with_reducible exact Calls.q (iMany_ok f b _ hr)) | (go_at_call 14; first | with_reducible exact Calls.qb (by assumption) (iHas_zero v _ hi) | with_reducible exact Calls.q (iHas_zero v _ hi)))) | (refine wpQuiet_split rfl rfl rfl rfl (fun hsp => ?_) (fun hsp => ?_); ((fail_if_success (cases hsp; done)); simp only [hsp]; (try first | have hsq : _ < _ := of_decide_eq_true hsp | have hsq : _ ≤ _ := of_decide_eq_true hsp | have hsq : ¬ _ < _ := of_decide_eq_false hsp | have hsq : ¬ _ ≤ _ := of_decide_eq_false hsp)); rotate_left; ((fail_if_success (cases hsp; done)); simp only [hsp]; (try first | have hsq : _ < _ := of_decide_eq_true hsp | have hsq : _ ≤ _ := of_decide_eq_true hsp | have hsq : ¬ _ < _ := of_decide_eq_false hsp | have hsq : ¬ _ ≤ _ := of_decide_eq_false hsp))))); (all_goals (refine wpQuiet_nil ?_; intro x))))
      all_goals first
        | (go_ret; exact ⟨rfl, ((by repeat (first | with_reducible exact Ext.refl _ | with_reducible apply Ext.and | with_reducible apply Ext.drewx | with_reducible apply Ext.alloc | with_reducible apply Ext.ext | with_reducible apply Ext.drew | with_reducible refine Ext.setCell ?_ (by simp) _)) : Ext _ _).below⟩)
        | (exfalso; omega)
  · have hf' : decide (f ≤ v) = false := by simpa using hf
    have e : rhas f b v = false := by rw [e0]; unfold covB; exact decide_eq_false (fun hh => hf hh.1)
    clear e0 hcd
    go_wp2_with (first | (first | (go_at_call 20; (with_reducible refine (sRangeHas_any f b v _).mono ?_); rintro _ _ ⟨rfl, x, rfl⟩) | (go_at_call 10; (with_reducible refine (sRangeOk_any f b _).mono ?_); rintro _ _ ⟨rfl, x, rfl⟩) | (go_at_call 11; (with_reducible refine (iMany_ok f b _ hr).mono ?_); rintro _ _ ⟨rfl, x, rfl⟩) | (go_at_call 14; (with_reducible refine (iHas_zero v _ hi).mono ?_); rintro _ _ ⟨rfl, x, rfl⟩)) | ((first | with_reducible refine wp_region_qe (by kernel_rfl) (by kernel_rfl) ?_ | with_reducible refine wp_region_q (by kernel_rfl) (by kernel_rfl) ?_); (repeat' (first | go_big_quiet_step ((first | (go_at_call 20; first | with_reducible exact Calls.qb (by assumption) (sRangeHas_any f b v _) | with_reducible exact Calls.q (sRangeHas_any f b v _)) | (go_at_call 10; first | with_reducible exact Calls.qb (by assumption) (sRangeOk_any f b _) | with_reducible exact Calls.q (sRangeOk_any f b _)) | (go_at_call 11; first | with_reducible exact Calls.qb (by assumption) (iMany_ok f b _ hr) | with_reducible exact Calls.q (iMany_ok f b _ hr)) | (go_at_call 14; first | with_reducible exact Calls.qb (by assumption) (iHas_zero v _ hi) | with_reducible exact Calls.q (iHas_zero v _ hi)))) | (refine wpQuiet_split rfl rfl rfl rfl (fun hsp => ?_) (fun hsp => ?_); ((fail_if_success (cases hsp; done)); simp only [hsp]; (try first | have hsq : _ < _ := of_decide_eq_true hsp | have hsq : _ ≤ _ := of_decide_eq_true hsp | have hsq : ¬ _ < _ := of_decide_eq_false hsp | have hsq : ¬ _ ≤ _ := of_decide_eq_false hsp)); rotate_left; ((fail_if_success (cases hsp; done)); simp only [hsp]; (try first | have hsq : _ < _ := of_decide_eq_true hsp | have hsq : _ ≤ _ := of_decide_eq_true hsp | have hsq : ¬ _ < _ := of_decide_eq_false hsp | have hsq : ¬ _ ≤ _ := of_decide_eq_false hsp))))); (all_goals (refine wpQuiet_nil ?_; intro x))))
    all_goals first
      | (go_ret; exact ⟨rfl, ((by repeat (first | with_reducible exact Ext.refl _ | with_reducible apply Ext.and | with_reducible apply Ext.drewx | with_reducible apply Ext.alloc | with_reducible apply Ext.ext | with_reducible apply Ext.drew | with_reducible refine Ext.setCell ?_ (by simp) _)) : Ext _ _).below⟩)
      | (exfalso; omega)

namespace rFnRangeHas
open Go.ChangeShapes Go.WideShapes Go.ChangeAt
set_option linter.unusedVariables false
theorem own : ownKnob Try.prog.godebug = none := by kernel_rfl
theorem laidOut : laidOutB Try.prog = true := by kernel_rfl
set_option maxRecDepth 100000 in
theorem lifted (os : Os) (started : os.Started) (H : Type) (enc : TypeId × Value → H) :
    ReturnsInHanded {} Try.checked os 6 .any (Rows.fnRangeHasSpec.pre6 enc Try.prog Try.f6 Rows.fnRangeHasRow.domain false) (Rows.fnRangeHasSpec.post enc Try.prog Try.f6 false true false false) := by
  refine returnsInHanded_of_change (C := Try.checked) own started (by kernel_rfl) Try.func6
    (ChangeSpec.witness6 (enc := enc) (C := Try.checked) false ⟨#[], #[.slice none 0 0], []⟩ 8 (by kernel_rfl) (by kernel_rfl) (by kernel_rfl) (by kernel_rfl)) ?_
  intro W base args ds gs before hval0 hW hcnd _
  have hval : ∀ (j : Nat) t v, Try.f6.params[j]? = some t → args[j]? = some v → Value.okWide Try.prog W .any base t v := hval0
  have hW' := hW
  obtain ⟨p, q, hA0, hV, rfl, hfz, hnd⟩ := hW
  have hA : DataW.TrodAll enc Try.prog W 0 (fun _ => true) true Try.f6.params.toList args.toList ds p := hA0
  rw [Try.params6] at hA hval
  obtain ⟨v0, vs0, d0, ds0, p0, q0, hargs, rfl, rfl, h0, r0⟩ := trodAll_cons hA
  obtain ⟨rfl, rfl, rfl⟩ := trodAll_nil r0
  obtain rfl : args = #[v0] := by cases args; simp_all
  obtain ⟨rfl, rfl⟩ := trodVars_none hV
  have k0 := h0
  have lt0 : ∀ x ∈ p0, x.block < W.heap.size := by obtain ⟨m, hm⟩ := k0; exact DataW.trod_lt m _ _ _ hm
  obtain ⟨a0, len0, cap0, rfl⟩ := okWide_slice Try.underlying22 (hval 0 22 v0 rfl rfl)
  obtain ⟨x0, a0', len0', cap0', e0, w0⟩ := open_cell opens_bytes rfl h0
  obtain ⟨rfl, rfl, rfl⟩ : a0 = a0' ∧ len0 = len0' ∧ cap0 = cap0' := by simpa using e0
  clear hA0 hval0
  refine (FnRangeHas_walk a0 len0 cap0 x0 W w0).mono fun e W' ⟨he, bel⟩ => ?_
  subst he
  exact ⟨_, rfl, _, _, _, [], _, [], hW', trodAll_mk1 (shut_bool Try.underlying4 _), (trodAll_cons_mk (Below.trod laidOut (by kernel_rfl) (of_decide_eq_true (by kernel_rfl)) k0 bel lt0) trodAll_mk0), rfl, bel.frame _, fun h => by cases h⟩
theorem over : Rows.fnRangeHasRow.holds Try.pinned (OpenSpec.ofChange Rows.fnRangeHasSpec) :=
  OpenClaim.holds_of_wide 6 Try.f6 rfl rfl rfl rfl rfl rfl rfl ⟨rfl, rfl, rfl, rfl, rfl⟩ rfl rfl rfl rfl rfl (by kernel_rfl) Try.func6 (by kernel_rfl)
    (of_decide_eq_true (by kernel_rfl)) (by unfold Func.isWrapper; rw [if_neg (of_decide_eq_false (by kernel_rfl))]; exact ⟨rfl, rfl⟩)
    (fun os started H enc _ => lifted os started H enc)
end rFnRangeHas
/-- THE STATEMENT. -/
theorem FnRangeHas_holds : Rows.FnRangeHasSaid := rFnRangeHas.over
end Go.Proofs.Ythkfgdclbjabeaa
