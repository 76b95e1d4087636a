/- FnAddrOne returns true for every input. No condition. -/
import Derived.Test.YthkfgdclbjabeaaDrawR
import Derived.Test.YthkfgdclbjabeaaOpens
namespace Go.Proofs.Ythkfgdclbjabeaa
open Go Go.RowKit

theorem iMany_ok (f b : Int) (w : World) (h : rok f b = true) : Calls Try.prog 11 #[.agg #[.int .i64 f, .int .i64 b]] w fun e w' => e = .returned (.int .i64 (rsz b)) ∧ Ext w w' := by
  have e : rmany f b = rsz b := by unfold rmany; rw [if_pos h]
  rw [← e]; exact iRangeMany_any f b w
theorem rok_one {n : Int} (h0 : 0 ≤ n) (h1 : n ≤ 255) : rok n 8 = true := rok_true.2 ⟨by omega, by omega, h0, h1, by rw [show rsz 8 = 1 by decide]; omega⟩
theorem rin_one {n f b : Int} (h0 : 0 ≤ n) (h1 : n ≤ 255) (hr : rok f b = true) : rin n 8 f b = rhas f b n := by
  have h2 := rok_bd hr
  unfold rin rhas
  rw [rok_one h0 h1, hr, inB_t h0 h1, decide_eq_true (show b ≤ 8 from h2.2.1)]
  simp
theorem one_has (n : Int) (w : World) (h0 : 0 ≤ n) (h1 : n ≤ 255) : Calls Try.prog 9 #[.agg #[.int .i64 n, .int .i64 8]] w fun e w' => e = .returned (.bool true) ∧ Ext w w' := by
  rw [← rok_one h0 h1]; exact iRangeOk_any n 8 w
theorem one_many (n : Int) (w : World) (h0 : 0 ≤ n) (h1 : n ≤ 255) : Calls Try.prog 11 #[.agg #[.int .i64 n, .int .i64 8]] w fun e w' => e = .returned (.int .i64 1) ∧ Ext w w' := by
  have := iMany_ok n 8 w (rok_one h0 h1)
  rwa [show rsz 8 = 1 by decide] at this
theorem one_in (n f b : Int) (w : World) (h0 : 0 ≤ n) (h1 : n ≤ 255) (hr : rok f b = true) : Calls Try.prog 21 #[.agg #[.int .i64 n, .int .i64 8], .agg #[.int .i64 f, .int .i64 b]] w fun e w' => e = .returned (.bool (rhas f b n)) ∧ Ext w w' := by
  rw [← rin_one h0 h1 hr]; exact iRangeIn_any n 8 f b w

set_option linter.unusedVariables false in
set_option maxHeartbeats 4000000 in
theorem FnAddrOne_walk (a0 : Option Addr) (len0 cap0 : Nat) (l0 : List U8) (a1 : Option Addr) (len1 cap1 : Nat) (l1 : List U8) (w : World) (h : SlRd w a0 len0 cap0 l0) (h' : SlRd w a1 len1 cap1 l1) :
    Calls Try.prog 7 #[.slice a0 len0 cap0, .slice a1 len1 cap1] w fun e w' => e = .returned (.bool true) ∧ Below w.heap.size w w' := by
  by_cases hz : len0 ≤ 1048576
  case neg =>
    have hb0 : decide (1048576 < (len0 : Int)) = true := by simp; omega
    go_enter Try.func7, Try.ntmps7
    go_wp2_with (first | ((first | with_reducible refine wp_region_qe (by kernel_rfl) (by kernel_rfl) ?_ | with_reducible refine wp_region_q (by kernel_rfl) (by kernel_rfl) ?_); (repeat' (first | go_big_quiet_step (fail) | (refine wpQuiet_split rfl rfl rfl rfl (fun hsp => ?_) (fun hsp => ?_); ((fail_if_success (cases hsp; done)); simp only [hsp]; (try first | have hsq : _ < _ := of_decide_eq_true hsp | have hsq : _ ≤ _ := of_decide_eq_true hsp | have hsq : ¬ _ < _ := of_decide_eq_false hsp | have hsq : ¬ _ ≤ _ := of_decide_eq_false hsp)); rotate_left; ((fail_if_success (cases hsp; done)); simp only [hsp]; (try first | have hsq : _ < _ := of_decide_eq_true hsp | have hsq : _ ≤ _ := of_decide_eq_true hsp | have hsq : ¬ _ < _ := of_decide_eq_false hsp | have hsq : ¬ _ ≤ _ := of_decide_eq_false hsp))))); (all_goals (refine wpQuiet_nil ?_; intro x))))
    go_ret
    exact ⟨rfl, ((by repeat (first | with_reducible exact Ext.refl _ | with_reducible apply Ext.and | with_reducible apply Ext.drewx | with_reducible apply Ext.alloc | with_reducible apply Ext.ext | with_reducible apply Ext.drew | with_reducible refine Ext.setCell ?_ (by simp) _)) : Ext _ _).below⟩
  have hb0 : decide (1048576 < (len0 : Int)) = false := by simp; omega
  by_cases hz1 : len1 ≤ 1048576
  case neg =>
    have hb1 : decide (1048576 < (len1 : Int)) = true := by simp; omega
    go_enter Try.func7, Try.ntmps7
    go_wp2_with (first | ((first | with_reducible refine wp_region_qe (by kernel_rfl) (by kernel_rfl) ?_ | with_reducible refine wp_region_q (by kernel_rfl) (by kernel_rfl) ?_); (repeat' (first | go_big_quiet_step (fail) | (refine wpQuiet_split rfl rfl rfl rfl (fun hsp => ?_) (fun hsp => ?_); ((fail_if_success (cases hsp; done)); simp only [hsp]; (try first | have hsq : _ < _ := of_decide_eq_true hsp | have hsq : _ ≤ _ := of_decide_eq_true hsp | have hsq : ¬ _ < _ := of_decide_eq_false hsp | have hsq : ¬ _ ≤ _ := of_decide_eq_false hsp)); rotate_left; ((fail_if_success (cases hsp; done)); simp only [hsp]; (try first | have hsq : _ < _ := of_decide_eq_true hsp | have hsq : _ ≤ _ := of_decide_eq_true hsp | have hsq : ¬ _ < _ := of_decide_eq_false hsp | have hsq : ¬ _ ≤ _ := of_decide_eq_false hsp))))); (all_goals (refine wpQuiet_nil ?_; intro x))))
    go_ret
    exact ⟨rfl, ((by repeat (first | with_reducible exact Ext.refl _ | with_reducible apply Ext.and | with_reducible apply Ext.drewx | with_reducible apply Ext.alloc | with_reducible apply Ext.ext | with_reducible apply Ext.drew | with_reducible refine Ext.setCell ?_ (by simp) _)) : Ext _ _).below⟩
  have hb1 : decide (1048576 < (len1 : Int)) = false := by simp; omega
  obtain ⟨n, hn⟩ : ∃ n : Nat, len1 * 37 % 256 = n := ⟨_, rfl⟩
  have hn2 : ((len1 : Int) * 37) % 256 = (n : Int) := by omega
  have hn3 : (n : Int) ≤ 255 := by omega
  have hn4 : (0 : Int) ≤ (n : Int) := by omega
  clear hn
  go_enter Try.func7, Try.ntmps7
  go_wp2_with (first | (first | ((go_at_call 19; (with_reducible refine (drawHas_any _ _ _ l0 _ (h.stays ((by repeat (first | with_reducible exact Ext.refl _ | with_reducible apply Ext.and | with_reducible apply Ext.drewx | with_reducible apply Ext.alloc | with_reducible apply Ext.ext | with_reducible apply Ext.drew | with_reducible refine Ext.setCell ?_ (by simp) _)) : Ext _ _).below)).mono ?_); rintro _ _ ⟨f, b, v, rfl, ⟨b1, b2, b3, b4, b5, b6⟩, x1, rfl⟩)) | ((go_at_call 14; (with_reducible refine (iRangeHas_any f b v _).mono ?_); rintro _ _ ⟨rfl, y1, rfl⟩; refine Hid.out ?_))) | ((first | with_reducible refine wp_region_qe (by kernel_rfl) (by kernel_rfl) ?_ | with_reducible refine wp_region_q (by kernel_rfl) (by kernel_rfl) ?_); (repeat' (first | go_big_quiet_step ((first | ((go_at_call 19; (with_reducible refine (drawHas_any _ _ _ l0 _ (h.stays ((by repeat (first | with_reducible exact Ext.refl _ | with_reducible apply Ext.and | with_reducible apply Ext.drewx | with_reducible apply Ext.alloc | with_reducible apply Ext.ext | with_reducible apply Ext.drew | with_reducible refine Ext.setCell ?_ (by simp) _)) : Ext _ _).below)).mono ?_); rintro _ _ ⟨f, b, v, rfl, ⟨b1, b2, b3, b4, b5, b6⟩, x1, rfl⟩)) | ((go_at_call 14; (with_reducible refine (iRangeHas_any f b v _).mono ?_); rintro _ _ ⟨rfl, y1, rfl⟩; refine Hid.out ?_)))) | (refine wpQuiet_split rfl rfl rfl rfl (fun hsp => ?_) (fun hsp => ?_); ((fail_if_success (cases hsp; done)); simp only [hsp]; (try first | have hsq : _ < _ := of_decide_eq_true hsp | have hsq : _ ≤ _ := of_decide_eq_true hsp | have hsq : ¬ _ < _ := of_decide_eq_false hsp | have hsq : ¬ _ ≤ _ := of_decide_eq_false hsp)); rotate_left; ((fail_if_success (cases hsp; done)); simp only [hsp]; (try first | have hsq : _ < _ := of_decide_eq_true hsp | have hsq : _ ≤ _ := of_decide_eq_true hsp | have hsq : ¬ _ < _ := of_decide_eq_false hsp | have hsq : ¬ _ ≤ _ := of_decide_eq_false hsp))))); (all_goals (refine wpQuiet_nil ?_; intro x))))
  refine hidden ?_
  cases hr : rok f b
  · have e : rhas f b v = false := by unfold rhas; rw [hr]; rfl
    go_wp2_with (first | (first | (go_at_call 20; (with_reducible refine (sRangeHas_any f b v _).mono ?_); rintro _ _ ⟨rfl, x, rfl⟩) | (go_at_call 10; (with_reducible refine (sRangeOk_any f b _).mono ?_); rintro _ _ ⟨rfl, x, rfl⟩)) | ((first | with_reducible refine wp_region_qe (by kernel_rfl) (by kernel_rfl) ?_ | with_reducible refine wp_region_q (by kernel_rfl) (by kernel_rfl) ?_); (repeat' (first | go_big_quiet_step ((first | (go_at_call 20; first | with_reducible exact Calls.qb (by assumption) (sRangeHas_any f b v _) | with_reducible exact Calls.q (sRangeHas_any f b v _)) | (go_at_call 10; first | with_reducible exact Calls.qb (by assumption) (sRangeOk_any f b _) | with_reducible exact Calls.q (sRangeOk_any f b _)))) | (refine wpQuiet_split rfl rfl rfl rfl (fun hsp => ?_) (fun hsp => ?_); ((fail_if_success (cases hsp; done)); simp only [hsp]; (try first | have hsq : _ < _ := of_decide_eq_true hsp | have hsq : _ ≤ _ := of_decide_eq_true hsp | have hsq : ¬ _ < _ := of_decide_eq_false hsp | have hsq : ¬ _ ≤ _ := of_decide_eq_false hsp)); rotate_left; ((fail_if_success (cases hsp; done)); simp only [hsp]; (try first | have hsq : _ < _ := of_decide_eq_true hsp | have hsq : _ ≤ _ := of_decide_eq_true hsp | have hsq : ¬ _ < _ := of_decide_eq_false hsp | have hsq : ¬ _ ≤ _ := of_decide_eq_false hsp))))); (all_goals (refine wpQuiet_nil ?_; intro x))))
    all_goals
      go_ret
      exact ⟨rfl, ((by repeat (first | with_reducible exact Ext.refl _ | with_reducible apply Ext.and | with_reducible apply Ext.drewx | with_reducible apply Ext.alloc | with_reducible apply Ext.ext | with_reducible apply Ext.drew | with_reducible refine Ext.setCell ?_ (by simp) _)) : Ext _ _).below⟩
  go_wp2_with (first | (first | (go_at_call 20; (with_reducible refine (sRangeHas_any f b v _).mono ?_); rintro _ _ ⟨rfl, x, rfl⟩) | (go_at_call 10; (with_reducible refine (sRangeOk_any f b _).mono ?_); rintro _ _ ⟨rfl, x, rfl⟩) | (go_at_call 9; (with_reducible refine (one_has n _ hn4 hn3).mono ?_); rintro _ _ ⟨rfl, x, rfl⟩) | (go_at_call 11; (with_reducible refine (one_many n _ hn4 hn3).mono ?_); rintro _ _ ⟨rfl, x, rfl⟩) | (go_at_call 21; (with_reducible refine (one_in n f b _ hn4 hn3 hr).mono ?_); rintro _ _ ⟨rfl, x, rfl⟩) | (go_at_call 14; (with_reducible refine (iRangeHas_any f b n _).mono ?_); rintro _ _ ⟨rfl, x, rfl⟩)) | ((first | with_reducible refine wp_region_qe (by kernel_rfl) (by kernel_rfl) ?_ | with_reducible refine wp_region_q (by kernel_rfl) (by kernel_rfl) ?_); (repeat' (first | go_big_quiet_step ((first | (go_at_call 20; first | with_reducible exact Calls.qb (by assumption) (sRangeHas_any f b v _) | with_reducible exact Calls.q (sRangeHas_any f b v _)) | (go_at_call 10; first | with_reducible exact Calls.qb (by assumption) (sRangeOk_any f b _) | with_reducible exact Calls.q (sRangeOk_any f b _)) | (go_at_call 9; first | with_reducible exact Calls.qb (by assumption) (one_has n _ hn4 hn3) | with_reducible exact Calls.q (one_has n _ hn4 hn3)) | (go_at_call 11; first | with_reducible exact Calls.qb (by assumption) (one_many n _ hn4 hn3) | with_reducible exact Calls.q (one_many n _ hn4 hn3)) | (go_at_call 21; first | with_reducible exact Calls.qb (by assumption) (one_in n f b _ hn4 hn3 hr) | with_reducible exact Calls.q (one_in n f b _ hn4 hn3 hr)) | (go_at_call 14; first | with_reducible exact Calls.qb (by assumption) (iRangeHas_any f b n _) | with_reducible exact Calls.q (iRangeHas_any f b n _)))) | (refine wpQuiet_split rfl rfl rfl rfl (fun hsp => ?_) (fun hsp => ?_); ((fail_if_success (cases hsp; done)); simp only [hsp]; (try first | have hsq : _ < _ := of_decide_eq_true hsp | have hsq : _ ≤ _ := of_decide_eq_true hsp | have hsq : ¬ _ < _ := of_decide_eq_false hsp | have hsq : ¬ _ ≤ _ := of_decide_eq_false hsp)); rotate_left; ((fail_if_success (cases hsp; done)); simp only [hsp]; (try first | have hsq : _ < _ := of_decide_eq_true hsp | have hsq : _ ≤ _ := of_decide_eq_true hsp | have hsq : ¬ _ < _ := of_decide_eq_false hsp | have hsq : ¬ _ ≤ _ := of_decide_eq_false hsp))))); (all_goals (refine wpQuiet_nil ?_; intro x))))
  all_goals
    go_ret
    exact ⟨ret_bool (by simp), ((by repeat (first | with_reducible exact Ext.refl _ | with_reducible apply Ext.and | with_reducible apply Ext.drewx | with_reducible apply Ext.alloc | with_reducible apply Ext.ext | with_reducible apply Ext.drew | with_reducible refine Ext.setCell ?_ (by simp) _)) : Ext _ _).below⟩

namespace rFnAddrOne
open Go.ChangeShapes Go.WideShapes Go.ChangeAt
set_option linter.unusedVariables false
theorem own : ownKnob Try.prog.godebug = none := by kernel_rfl
theorem laidOut : laidOutB Try.prog = true := by kernel_rfl
set_option maxRecDepth 100000 in
theorem lifted (os : Os) (started : os.Started) (H : Type) (enc : TypeId × Value → H) :
    ReturnsInHanded {} Try.checked os 7 .any (Rows.fnAddrOneSpec.pre6 enc Try.prog Try.f7 Rows.fnAddrOneRow.domain false) (Rows.fnAddrOneSpec.post enc Try.prog Try.f7 false true false false) := by
  refine returnsInHanded_of_change (C := Try.checked) own started (by kernel_rfl) Try.func7
    (ChangeSpec.witness6 (enc := enc) (C := Try.checked) false ⟨#[], #[.slice none 0 0, .slice none 0 0], []⟩ 8 (by kernel_rfl) (by kernel_rfl) (by kernel_rfl) (by kernel_rfl)) ?_
  intro W base args ds gs before hval0 hW hcnd _
  have hval : ∀ (j : Nat) t v, Try.f7.params[j]? = some t → args[j]? = some v → Value.okWide Try.prog W .any base t v := hval0
  have hW' := hW
  obtain ⟨p, q, hA0, hV, rfl, hfz, hnd⟩ := hW
  have hA : DataW.TrodAll enc Try.prog W 0 (fun _ => true) true Try.f7.params.toList args.toList ds p := hA0
  rw [Try.params7] at hA hval
  obtain ⟨v0, vs0, d0, ds0, p0, q0, hargs, rfl, rfl, h0, r0⟩ := trodAll_cons hA
  obtain ⟨v1, vs1, d1, ds1, p1, q1, rfl, rfl, rfl, h1, r1⟩ := trodAll_cons r0
  obtain ⟨rfl, rfl, rfl⟩ := trodAll_nil r1
  obtain rfl : args = #[v0, v1] := by cases args; simp_all
  obtain ⟨rfl, rfl⟩ := trodVars_none hV
  have k0 := h0
  have lt0 : ∀ x ∈ p0, x.block < W.heap.size := by obtain ⟨m, hm⟩ := k0; exact DataW.trod_lt m _ _ _ hm
  obtain ⟨a0, len0, cap0, rfl⟩ := okWide_slice Try.underlying22 (hval 0 22 v0 rfl rfl)
  obtain ⟨x0, a0', len0', cap0', e0, w0⟩ := open_cell opens_bytes rfl h0
  obtain ⟨rfl, rfl, rfl⟩ : a0 = a0' ∧ len0 = len0' ∧ cap0 = cap0' := by simpa using e0
  have k1 := h1
  have lt1 : ∀ x ∈ p1, x.block < W.heap.size := by obtain ⟨m, hm⟩ := k1; exact DataW.trod_lt m _ _ _ hm
  obtain ⟨a1, len1, cap1, rfl⟩ := okWide_slice Try.underlying22 (hval 1 22 v1 rfl rfl)
  obtain ⟨x1, a1', len1', cap1', e1, w1⟩ := open_cell opens_bytes rfl h1
  obtain ⟨rfl, rfl, rfl⟩ : a1 = a1' ∧ len1 = len1' ∧ cap1 = cap1' := by simpa using e1
  clear hA0 hval0
  refine (FnAddrOne_walk a0 len0 cap0 x0 a1 len1 cap1 x1 W w0 w1).mono fun e W' ⟨he, bel⟩ => ?_
  subst he
  exact ⟨_, rfl, _, _, _, [], _, [], hW', trodAll_mk1 (shut_bool Try.underlying4 _), (trodAll_cons_mk (Below.trod laidOut (by kernel_rfl) (of_decide_eq_true (by kernel_rfl)) k0 bel lt0) (trodAll_cons_mk (Below.trod laidOut (by kernel_rfl) (of_decide_eq_true (by kernel_rfl)) k1 bel lt1) trodAll_mk0)), rfl, bel.frame _, fun h => by cases h⟩
theorem over : Rows.fnAddrOneRow.holds Try.pinned (OpenSpec.ofChange Rows.fnAddrOneSpec) :=
  OpenClaim.holds_of_wide 7 Try.f7 rfl rfl rfl rfl rfl rfl rfl ⟨rfl, rfl, rfl, rfl, rfl⟩ rfl rfl rfl rfl rfl (by kernel_rfl) Try.func7 (by kernel_rfl)
    (of_decide_eq_true (by kernel_rfl)) (by unfold Func.isWrapper; rw [if_neg (of_decide_eq_false (by kernel_rfl))]; exact ⟨rfl, rfl⟩)
    (fun os started H enc _ => lifted os started H enc)
end rFnAddrOne
/-- THE STATEMENT. -/
theorem FnAddrOne_holds : Rows.FnAddrOneSaid := rFnAddrOne.over
end Go.Proofs.Ythkfgdclbjabeaa
