/- FnRangeMany returns true for every input. No condition. -/
import Derived.Test.YthkfgdclbjabeaaDrawR
import Derived.Test.YthkfgdclbjabeaaOpens
namespace Go.Proofs.Ythkfgdclbjabeaa
open Go Go.RowKit

theorem iMany_ok (f b : Int) (w : World) (h : rok f b = true) : Calls Try.prog 11 #[.agg #[.int .i64 f, .int .i64 b]] w fun e w' => e = .returned (.int .i64 (rsz b)) ∧ Ext w w' := by
  have e : rmany f b = rsz b := by unfold rmany; rw [if_pos h]
  rw [← e]; exact iRangeMany_any f b w
theorem sMany_ok (f b : Int) (w : World) (h : rok f b = true) : Calls Try.prog 13 #[.agg #[.int .i64 f, .int .i64 b]] w fun e w' => e = .returned (.int .i64 (rsz b)) ∧ Ext w w' := by
  have e : rmany f b = rsz b := by unfold rmany; rw [if_pos h]
  rw [← e]; exact sRangeMany_any f b w
/-- How many of the first k addresses are covered. -/
def cnt (f b : Int) (k : Int) : Int := if k ≤ f then 0 else if k ≤ f + rsz b then k - f else rsz b
theorem rhas_cov {f b v : Int} (hr : rok f b = true) (h0 : 0 ≤ v) (h1 : v ≤ 255) : rhas f b v = decide (f ≤ v ∧ v < f + rsz b) := by
  unfold rhas; rw [hr, inB_t h0 h1]; rfl
theorem cnt_yes {f b v : Int} (h : f ≤ v ∧ v < f + rsz b) : cnt f b v + 1 = cnt f b (v + 1) := by
  unfold cnt
  (repeat' split) <;> omega
theorem cnt_no {f b v : Int} (h : ¬ (f ≤ v ∧ v < f + rsz b)) (hz : 1 ≤ rsz b) : cnt f b v = cnt f b (v + 1) := by
  unfold cnt
  (repeat' split) <;> omega
theorem top_le {f b : Int} (h : rok f b = true) : f + rsz b ≤ 256 := by
  obtain ⟨h1, h2, h3, h4, h5⟩ := rok_true.1 h
  rcases eight h1 h2 with rfl | rfl | rfl | rfl | rfl | rfl | rfl | rfl | rfl <;> simp [rsz] at * <;> omega
theorem cnt_all {f b : Int} (h : rok f b = true) : cnt f b 256 = rsz b := by
  have h1 := top_le h
  obtain ⟨k0, k1, k2, k3⟩ := rok_bd h
  have h2 := (rsz_bd k0 k1).1
  unfold cnt
  rw [if_neg (by omega)]
  split <;> omega
theorem cnt_bd {f b k : Int} (hz : 0 ≤ rsz b) (h2 : rsz b ≤ 256) : 0 ≤ cnt f b k ∧ cnt f b k ≤ 256 := by
  unfold cnt
  split
  · omega
  · split <;> omega

set_option linter.unusedVariables false in
set_option maxHeartbeats 4000000 in
theorem FnRangeMany_walk (a0 : Option Addr) (len0 cap0 : Nat) (l0 : List U8) (w : World) (h : SlRd w a0 len0 cap0 l0) :
    Calls Try.prog 4 #[.slice a0 len0 cap0] w fun e w' => e = .returned (.bool true) ∧ Below w.heap.size w w' := by
  by_cases hz : len0 ≤ 1048576
  case neg =>
    have hb0 : decide (1048576 < (len0 : Int)) = true := by simp; omega
    go_enter Try.func4, Try.ntmps4
    go_wp2_with (first | ((first | with_reducible refine wp_region_qe (by kernel_rfl) (by kernel_rfl) ?_ | with_reducible refine wp_region_q (by kernel_rfl) (by kernel_rfl) ?_); (repeat' (first | go_big_quiet_step (fail) | (refine wpQuiet_split rfl rfl rfl rfl (fun hsp => ?_) (fun hsp => ?_); ((fail_if_success (cases hsp; done)); simp only [hsp]; (try first | have hsq : _ < _ := of_decide_eq_true hsp | have hsq : _ ≤ _ := of_decide_eq_true hsp | have hsq : ¬ _ < _ := of_decide_eq_false hsp | have hsq : ¬ _ ≤ _ := of_decide_eq_false hsp)); rotate_left; ((fail_if_success (cases hsp; done)); simp only [hsp]; (try first | have hsq : _ < _ := of_decide_eq_true hsp | have hsq : _ ≤ _ := of_decide_eq_true hsp | have hsq : ¬ _ < _ := of_decide_eq_false hsp | have hsq : ¬ _ ≤ _ := of_decide_eq_false hsp))))); (all_goals (refine wpQuiet_nil ?_; intro x))))
    go_ret
    exact ⟨rfl, ((by repeat (first | with_reducible exact Ext.refl _ | with_reducible apply Ext.and | with_reducible apply Ext.drewx | with_reducible apply Ext.alloc | with_reducible apply Ext.ext | with_reducible apply Ext.drew | with_reducible refine Ext.setCell ?_ (by simp) _)) : Ext _ _).below⟩
  have hb0 : decide (1048576 < (len0 : Int)) = false := by simp; omega
  go_enter Try.func4, Try.ntmps4
  go_wp2_with (first | (first | ((go_at_call 12; (with_reducible refine (drawMany_any _ _ _ l0 _ (h.stays ((by repeat (first | with_reducible exact Ext.refl _ | with_reducible apply Ext.and | with_reducible apply Ext.drewx | with_reducible apply Ext.alloc | with_reducible apply Ext.ext | with_reducible apply Ext.drew | with_reducible refine Ext.setCell ?_ (by simp) _)) : Ext _ _).below)).mono ?_); rintro _ _ ⟨f, b, rfl, b1, b2, b3, b4, x1, rfl⟩; refine Hid.out ?_))) | ((first | with_reducible refine wp_region_qe (by kernel_rfl) (by kernel_rfl) ?_ | with_reducible refine wp_region_q (by kernel_rfl) (by kernel_rfl) ?_); (repeat' (first | go_big_quiet_step ((first | ((go_at_call 12; (with_reducible refine (drawMany_any _ _ _ l0 _ (h.stays ((by repeat (first | with_reducible exact Ext.refl _ | with_reducible apply Ext.and | with_reducible apply Ext.drewx | with_reducible apply Ext.alloc | with_reducible apply Ext.ext | with_reducible apply Ext.drew | with_reducible refine Ext.setCell ?_ (by simp) _)) : Ext _ _).below)).mono ?_); rintro _ _ ⟨f, b, rfl, b1, b2, b3, b4, x1, rfl⟩; refine Hid.out ?_)))) | (refine wpQuiet_split rfl rfl rfl rfl (fun hsp => ?_) (fun hsp => ?_); ((fail_if_success (cases hsp; done)); simp only [hsp]; (try first | have hsq : _ < _ := of_decide_eq_true hsp | have hsq : _ ≤ _ := of_decide_eq_true hsp | have hsq : ¬ _ < _ := of_decide_eq_false hsp | have hsq : ¬ _ ≤ _ := of_decide_eq_false hsp)); rotate_left; ((fail_if_success (cases hsp; done)); simp only [hsp]; (try first | have hsq : _ < _ := of_decide_eq_true hsp | have hsq : _ ≤ _ := of_decide_eq_true hsp | have hsq : ¬ _ < _ := of_decide_eq_false hsp | have hsq : ¬ _ ≤ _ := of_decide_eq_false hsp))))); (all_goals (refine wpQuiet_nil ?_; intro x))))
  refine hidden ?_
  cases hr : rok f b
  · have e : rmany f b = 0 := by unfold rmany; rw [hr]; rfl
    go_wp2_with (first | (first | (go_at_call 11; (with_reducible refine (iRangeMany_any f b _).mono ?_); rintro _ _ ⟨rfl, x, rfl⟩) | (go_at_call 13; (with_reducible refine (sRangeMany_any f b _).mono ?_); rintro _ _ ⟨rfl, x, rfl⟩) | (go_at_call 10; (with_reducible refine (sRangeOk_any f b _).mono ?_); rintro _ _ ⟨rfl, x, rfl⟩)) | ((first | with_reducible refine wp_region_qe (by kernel_rfl) (by kernel_rfl) ?_ | with_reducible refine wp_region_q (by kernel_rfl) (by kernel_rfl) ?_); (repeat' (first | go_big_quiet_step ((first | (go_at_call 11; first | with_reducible exact Calls.qb (by assumption) (iRangeMany_any f b _) | with_reducible exact Calls.q (iRangeMany_any f b _)) | (go_at_call 13; first | with_reducible exact Calls.qb (by assumption) (sRangeMany_any f b _) | with_reducible exact Calls.q (sRangeMany_any f b _)) | (go_at_call 10; first | with_reducible exact Calls.qb (by assumption) (sRangeOk_any f b _) | with_reducible exact Calls.q (sRangeOk_any f b _)))) | (refine wpQuiet_split rfl rfl rfl rfl (fun hsp => ?_) (fun hsp => ?_); ((fail_if_success (cases hsp; done)); simp only [hsp]; (try first | have hsq : _ < _ := of_decide_eq_true hsp | have hsq : _ ≤ _ := of_decide_eq_true hsp | have hsq : ¬ _ < _ := of_decide_eq_false hsp | have hsq : ¬ _ ≤ _ := of_decide_eq_false hsp)); rotate_left; ((fail_if_success (cases hsp; done)); simp only [hsp]; (try first | have hsq : _ < _ := of_decide_eq_true hsp | have hsq : _ ≤ _ := of_decide_eq_true hsp | have hsq : ¬ _ < _ := of_decide_eq_false hsp | have hsq : ¬ _ ≤ _ := of_decide_eq_false hsp))))); (all_goals (refine wpQuiet_nil ?_; intro x))))
    all_goals
      go_ret
      exact ⟨ret_bool (by simp), ((by repeat (first | with_reducible exact Ext.refl _ | with_reducible apply Ext.and | with_reducible apply Ext.drewx | with_reducible apply Ext.alloc | with_reducible apply Ext.ext | with_reducible apply Ext.drew | with_reducible refine Ext.setCell ?_ (by simp) _)) : Ext _ _).below⟩
  obtain ⟨k0, k1, k2, k3⟩ := rok_bd hr
  obtain ⟨rz0, rz1⟩ := rsz_bd k0 k1
  go_wp2_with (first | (first | (go_at_call 11; (with_reducible refine (iMany_ok f b _ hr).mono ?_); rintro _ _ ⟨rfl, x, rfl⟩) | (go_at_call 13; (with_reducible refine (sMany_ok f b _ hr).mono ?_); rintro _ _ ⟨rfl, x, rfl⟩) | (go_at_call 10; (with_reducible refine (sRangeOk_any f b _).mono ?_); rintro _ _ ⟨rfl, x, rfl⟩)) | ((first | with_reducible refine wp_region_qe (by kernel_rfl) (by kernel_rfl) ?_ | with_reducible refine wp_region_q (by kernel_rfl) (by kernel_rfl) ?_); (repeat' (first | go_big_quiet_step ((first | (go_at_call 11; first | with_reducible exact Calls.qb (by assumption) (iMany_ok f b _ hr) | with_reducible exact Calls.q (iMany_ok f b _ hr)) | (go_at_call 13; first | with_reducible exact Calls.qb (by assumption) (sMany_ok f b _ hr) | with_reducible exact Calls.q (sMany_ok f b _ hr)) | (go_at_call 10; first | with_reducible exact Calls.qb (by assumption) (sRangeOk_any f b _) | with_reducible exact Calls.q (sRangeOk_any f b _)))) | (refine wpQuiet_split rfl rfl rfl rfl (fun hsp => ?_) (fun hsp => ?_); ((fail_if_success (cases hsp; done)); simp only [hsp]; (try first | have hsq : _ < _ := of_decide_eq_true hsp | have hsq : _ ≤ _ := of_decide_eq_true hsp | have hsq : ¬ _ < _ := of_decide_eq_false hsp | have hsq : ¬ _ ≤ _ := of_decide_eq_false hsp)); rotate_left; ((fail_if_success (cases hsp; done)); simp only [hsp]; (try first | have hsq : _ < _ := of_decide_eq_true hsp | have hsq : _ ≤ _ := of_decide_eq_true hsp | have hsq : ¬ _ < _ := of_decide_eq_false hsp | have hsq : ¬ _ ≤ _ := of_decide_eq_false hsp))))); (all_goals (refine wpQuiet_nil ?_; intro x))))
  go_loopw [5, 6] (fun n i wr => ∃ k : Nat, k ≤ 256 ∧ i = .int .i64 k ∧ n = .int .i64 (cnt f b k) ∧ Ext ((ext w x1).alloc (.cells #[.int .i64 f, .int .i64 b] 24)) wr) (fun _ i _ => 256 - (intOf i).toNat)
  case atStart => exact ⟨0, by omega, rfl, by unfold cnt; rw [if_pos (by simpa using k2)], (by repeat (first | with_reducible exact Ext.refl _ | with_reducible apply Ext.and | with_reducible apply Ext.drewx | with_reducible apply Ext.alloc | with_reducible apply Ext.ext | with_reducible apply Ext.drew | with_reducible refine Ext.setCell ?_ (by simp) _))⟩
  case round =>
    obtain ⟨k, hk, rfl, rfl, hE⟩ := hrel
    have HB := hidden ((Blk.new (ext w x1) #[.int .i64 f, .int .i64 b] 24).extends hE)
    have q0 := HB.out.cell (j := 0) rfl
    have q1 := HB.out.cell (j := 1) rfl
    simp only [ext_size] at q0 q1
    have lq := cell_lt q0
    by_cases hlt : k < 256
    · have e := rhas_cov (v := (k : Int)) hr (by omega) (by omega)
      obtain ⟨cb0, cb1⟩ := cnt_bd (f := f) (b := b) (k := (k : Int)) (by omega) rz1
      by_cases hc : f ≤ (k : Int) ∧ (k : Int) < f + rsz b
      · have HC := hidden (cnt_yes hc)
        rw [decide_eq_true hc] at e
        clear hc
        go_wp2_with (first | (first | (go_at_call 14; (with_reducible refine (iRangeHas_any f b k _).mono ?_); rintro _ _ ⟨rfl, x, rfl⟩)) | ((first | with_reducible refine wp_region_qe (by kernel_rfl) (by kernel_rfl) ?_ | with_reducible refine wp_region_q (by kernel_rfl) (by kernel_rfl) ?_); (repeat' (first | go_big_quiet_step ((first | (go_at_call 14; first | with_reducible exact Calls.qb (by assumption) (iRangeHas_any f b k _) | with_reducible exact Calls.q (iRangeHas_any f b k _)))) | (refine wpQuiet_split rfl rfl rfl rfl (fun hsp => ?_) (fun hsp => ?_); ((fail_if_success (cases hsp; done)); simp only [hsp]; (try first | have hsq : _ < _ := of_decide_eq_true hsp | have hsq : _ ≤ _ := of_decide_eq_true hsp | have hsq : ¬ _ < _ := of_decide_eq_false hsp | have hsq : ¬ _ ≤ _ := of_decide_eq_false hsp)); rotate_left; ((fail_if_success (cases hsp; done)); simp only [hsp]; (try first | have hsq : _ < _ := of_decide_eq_true hsp | have hsq : _ ≤ _ := of_decide_eq_true hsp | have hsq : ¬ _ < _ := of_decide_eq_false hsp | have hsq : ¬ _ ≤ _ := of_decide_eq_false hsp))))); (all_goals (refine wpQuiet_nil ?_; intro x))))
        go_roundw
        case rel => exact ⟨k + 1, by omega, by go_num, int_eq (by have := HC.out; simpa using this), hE.trans (by repeat (first | with_reducible exact Ext.refl _ | with_reducible apply Ext.and | with_reducible apply Ext.drewx | with_reducible apply Ext.alloc | with_reducible apply Ext.ext | with_reducible apply Ext.drew | with_reducible refine Ext.setCell ?_ (by simp) _))⟩
        case measure => simp [intOf]; omega
      · have HC := hidden (cnt_no hc rz0)
        rw [decide_eq_false hc] at e
        clear hc
        go_wp2_with (first | (first | (go_at_call 14; (with_reducible refine (iRangeHas_any f b k _).mono ?_); rintro _ _ ⟨rfl, x, rfl⟩)) | ((first | with_reducible refine wp_region_qe (by kernel_rfl) (by kernel_rfl) ?_ | with_reducible refine wp_region_q (by kernel_rfl) (by kernel_rfl) ?_); (repeat' (first | go_big_quiet_step ((first | (go_at_call 14; first | with_reducible exact Calls.qb (by assumption) (iRangeHas_any f b k _) | with_reducible exact Calls.q (iRangeHas_any f b k _)))) | (refine wpQuiet_split rfl rfl rfl rfl (fun hsp => ?_) (fun hsp => ?_); ((fail_if_success (cases hsp; done)); simp only [hsp]; (try first | have hsq : _ < _ := of_decide_eq_true hsp | have hsq : _ ≤ _ := of_decide_eq_true hsp | have hsq : ¬ _ < _ := of_decide_eq_false hsp | have hsq : ¬ _ ≤ _ := of_decide_eq_false hsp)); rotate_left; ((fail_if_success (cases hsp; done)); simp only [hsp]; (try first | have hsq : _ < _ := of_decide_eq_true hsp | have hsq : _ ≤ _ := of_decide_eq_true hsp | have hsq : ¬ _ < _ := of_decide_eq_false hsp | have hsq : ¬ _ ≤ _ := of_decide_eq_false hsp))))); (all_goals (refine wpQuiet_nil ?_; intro x))))
        go_roundw
        case rel => exact ⟨k + 1, by omega, by go_num, int_eq (by have := HC.out; simpa using this), hE.trans (by repeat (first | with_reducible exact Ext.refl _ | with_reducible apply Ext.and | with_reducible apply Ext.drewx | with_reducible apply Ext.alloc | with_reducible apply Ext.ext | with_reducible apply Ext.drew | with_reducible refine Ext.setCell ?_ (by simp) _))⟩
        case measure => simp [intOf]; omega
    · obtain rfl : k = 256 := by omega
      have HA := hidden (cnt_all hr)
      go_wp2_with (first | ((first | with_reducible refine wp_region_qe (by kernel_rfl) (by kernel_rfl) ?_ | with_reducible refine wp_region_q (by kernel_rfl) (by kernel_rfl) ?_); (repeat' (first | go_big_quiet_step (fail) | (refine wpQuiet_split rfl rfl rfl rfl (fun hsp => ?_) (fun hsp => ?_); ((fail_if_success (cases hsp; done)); simp only [hsp]; (try first | have hsq : _ < _ := of_decide_eq_true hsp | have hsq : _ ≤ _ := of_decide_eq_true hsp | have hsq : ¬ _ < _ := of_decide_eq_false hsp | have hsq : ¬ _ ≤ _ := of_decide_eq_false hsp)); rotate_left; ((fail_if_success (cases hsp; done)); simp only [hsp]; (try first | have hsq : _ < _ := of_decide_eq_true hsp | have hsq : _ ≤ _ := of_decide_eq_true hsp | have hsq : ¬ _ < _ := of_decide_eq_false hsp | have hsq : ¬ _ ≤ _ := of_decide_eq_false hsp))))); (all_goals (refine wpQuiet_nil ?_; intro x))))
      go_loop [7, 8] (fun n i => ∃ k : Int, 0 ≤ k ∧ k ≤ b ∧ i = .int .i64 k ∧ n = .int .i64 (rsz k)) (fun _ i => (b - intOf i).toNat)
      case atStart => exact ⟨0, by omega, by omega, rfl, rfl⟩
      case round =>
        obtain ⟨j, hj0, hj, rfl, rfl⟩ := hrel
        obtain ⟨z1, z2⟩ := rsz_bd hj0 (by omega)
        by_cases hlt : j < b
        · go_wp2_with (first | ((first | with_reducible refine wp_region_qe (by kernel_rfl) (by kernel_rfl) ?_ | with_reducible refine wp_region_q (by kernel_rfl) (by kernel_rfl) ?_); (repeat' (first | go_big_quiet_step (fail) | (refine wpQuiet_split rfl rfl rfl rfl (fun hsp => ?_) (fun hsp => ?_); ((fail_if_success (cases hsp; done)); simp only [hsp]; (try first | have hsq : _ < _ := of_decide_eq_true hsp | have hsq : _ ≤ _ := of_decide_eq_true hsp | have hsq : ¬ _ < _ := of_decide_eq_false hsp | have hsq : ¬ _ ≤ _ := of_decide_eq_false hsp)); rotate_left; ((fail_if_success (cases hsp; done)); simp only [hsp]; (try first | have hsq : _ < _ := of_decide_eq_true hsp | have hsq : _ ≤ _ := of_decide_eq_true hsp | have hsq : ¬ _ < _ := of_decide_eq_false hsp | have hsq : ¬ _ ≤ _ := of_decide_eq_false hsp))))); (all_goals (refine wpQuiet_nil ?_; intro x))))
          go_round
          case rel => exact ⟨j + 1, by omega, by omega, by go_num, by rw [rsz_half hj0 (by omega)]⟩
          case measure => simp [intOf]; omega
        · obtain rfl : j = b := by omega
          have e : cnt f j 256 = rsz j := HA.out
          go_wp2_with (first | ((first | with_reducible refine wp_region_qe (by kernel_rfl) (by kernel_rfl) ?_ | with_reducible refine wp_region_q (by kernel_rfl) (by kernel_rfl) ?_); (repeat' (first | go_big_quiet_step (fail) | (refine wpQuiet_split rfl rfl rfl rfl (fun hsp => ?_) (fun hsp => ?_); ((fail_if_success (cases hsp; done)); simp only [hsp]; (try first | have hsq : _ < _ := of_decide_eq_true hsp | have hsq : _ ≤ _ := of_decide_eq_true hsp | have hsq : ¬ _ < _ := of_decide_eq_false hsp | have hsq : ¬ _ ≤ _ := of_decide_eq_false hsp)); rotate_left; ((fail_if_success (cases hsp; done)); simp only [hsp]; (try first | have hsq : _ < _ := of_decide_eq_true hsp | have hsq : _ ≤ _ := of_decide_eq_true hsp | have hsq : ¬ _ < _ := of_decide_eq_false hsp | have hsq : ¬ _ ≤ _ := of_decide_eq_false hsp))))); (all_goals (refine wpQuiet_nil ?_; intro x))))
          go_ret
          exact ⟨ret_bool (by simp), (((((Ext.refl w).ext x1).alloc _).trans hE).trans ((by repeat (first | with_reducible exact Ext.refl _ | with_reducible apply Ext.and | with_reducible apply Ext.drewx | with_reducible apply Ext.alloc | with_reducible apply Ext.ext | with_reducible apply Ext.drew | with_reducible refine Ext.setCell ?_ (by simp) _)) : Ext _ _)).below⟩

namespace rFnRangeMany
open Go.ChangeShapes Go.WideShapes Go.ChangeAt
set_option linter.unusedVariables false
theorem own : ownKnob Try.prog.godebug = none := by kernel_rfl
theorem laidOut : laidOutB Try.prog = true := by kernel_rfl
set_option maxRecDepth 100000 in
theorem lifted (os : Os) (started : os.Started) (H : Type) (enc : TypeId × Value → H) :
    ReturnsInHanded {} Try.checked os 4 .any (Rows.fnRangeManySpec.pre6 enc Try.prog Try.f4 Rows.fnRangeManyRow.domain false) (Rows.fnRangeManySpec.post enc Try.prog Try.f4 false true false false) := by
  refine returnsInHanded_of_change (C := Try.checked) own started (by kernel_rfl) Try.func4
    (ChangeSpec.witness6 (enc := enc) (C := Try.checked) false ⟨#[], #[.slice none 0 0], []⟩ 8 (by kernel_rfl) (by kernel_rfl) (by kernel_rfl) (by kernel_rfl)) ?_
  intro W base args ds gs before hval0 hW hcnd _
  have hval : ∀ (j : Nat) t v, Try.f4.params[j]? = some t → args[j]? = some v → Value.okWide Try.prog W .any base t v := hval0
  have hW' := hW
  obtain ⟨p, q, hA0, hV, rfl, hfz, hnd⟩ := hW
  have hA : DataW.TrodAll enc Try.prog W 0 (fun _ => true) true Try.f4.params.toList args.toList ds p := hA0
  rw [Try.params4] at hA hval
  obtain ⟨v0, vs0, d0, ds0, p0, q0, hargs, rfl, rfl, h0, r0⟩ := trodAll_cons hA
  obtain ⟨rfl, rfl, rfl⟩ := trodAll_nil r0
  obtain rfl : args = #[v0] := by cases args; simp_all
  obtain ⟨rfl, rfl⟩ := trodVars_none hV
  have k0 := h0
  have lt0 : ∀ x ∈ p0, x.block < W.heap.size := by obtain ⟨m, hm⟩ := k0; exact DataW.trod_lt m _ _ _ hm
  obtain ⟨a0, len0, cap0, rfl⟩ := okWide_slice Try.underlying22 (hval 0 22 v0 rfl rfl)
  obtain ⟨x0, a0', len0', cap0', e0, w0⟩ := open_cell opens_bytes rfl h0
  obtain ⟨rfl, rfl, rfl⟩ : a0 = a0' ∧ len0 = len0' ∧ cap0 = cap0' := by simpa using e0
  clear hA0 hval0
  refine (FnRangeMany_walk a0 len0 cap0 x0 W w0).mono fun e W' ⟨he, bel⟩ => ?_
  subst he
  exact ⟨_, rfl, _, _, _, [], _, [], hW', trodAll_mk1 (shut_bool Try.underlying4 _), (trodAll_cons_mk (Below.trod laidOut (by kernel_rfl) (of_decide_eq_true (by kernel_rfl)) k0 bel lt0) trodAll_mk0), rfl, bel.frame _, fun h => by cases h⟩
theorem over : Rows.fnRangeManyRow.holds Try.pinned (OpenSpec.ofChange Rows.fnRangeManySpec) :=
  OpenClaim.holds_of_wide 4 Try.f4 rfl rfl rfl rfl rfl rfl rfl ⟨rfl, rfl, rfl, rfl, rfl⟩ rfl rfl rfl rfl rfl (by kernel_rfl) Try.func4 (by kernel_rfl)
    (of_decide_eq_true (by kernel_rfl)) (by unfold Func.isWrapper; rw [if_neg (of_decide_eq_false (by kernel_rfl))]; exact ⟨rfl, rfl⟩)
    (fun os started H enc _ => lifted os started H enc)
end rFnRangeMany
/-- THE STATEMENT. -/
theorem FnRangeMany_holds : Rows.FnRangeManySaid := rFnRangeMany.over
end Go.Proofs.Ythkfgdclbjabeaa
