/- What the functions on ranges do, those of the program and those of the reference. No condition. -/
import Derived.Test.YtbjignakkkgpgaaRows
import Derived.Test.YtbjignakkkgpgaaExt
import Derived.Test.YtbjignakkkgpgaaRp
namespace Go.Proofs.Ytbjignakkkgpgaa
open Go Go.RowKit

set_option maxHeartbeats 400000 in
theorem l6In_any (n lo hi : Int) (w : World) :
    Calls Try.prog 12 #[.int .i64 n, .int .i64 lo, .int .i64 hi] w fun e w' => e = .returned (.bool (inB n lo hi)) ∧ Ext w w' := by
  go_enter Try.func12, Try.ntmps12
  go_wp2
  all_goals
    go_ret
    exact ⟨ret_bool (by simp [inB]; try omega), Ext.refl _⟩

set_option maxHeartbeats 400000 in
theorem isAddr_any (n : Int) (w : World) :
    Calls Try.prog 13 #[.int .i64 n] w fun e w' => e = .returned (.bool (inB n 0 255)) ∧ Ext w w' := by
  go_enter Try.func13, Try.ntmps13
  go_wp2
  all_goals
    go_ret
    exact ⟨ret_bool (by simp [inB]; try omega), Ext.refl _⟩

set_option maxHeartbeats 400000 in
theorem many_any (f b : Int) (w : World) (h0 : 0 ≤ b) (h1 : b ≤ 8) :
    Calls Try.prog 14 #[.agg #[.int .i64 f, .int .i64 b]] w fun e w' => e = .returned (.int .i64 (rsz b)) ∧ Ext w w' := by
  go_enter Try.func14, Try.ntmps14
  go_wp2
  go_ret
  exact ⟨ret_int (wrap_rsz h0 h1), (Ext.refl _).alloc _⟩

set_option maxHeartbeats 400000 in
theorem l1Size_any (b : Int) (w : World) (h0 : 0 ≤ b) (h1 : b ≤ 8) :
    Calls Try.prog 9 #[.int .i64 b] w fun e w' => e = .returned (.int .i64 (rsz b)) ∧ Ext w w' := by
  go_enter Try.func9, Try.ntmps9
  go_wp2
  go_loop [3, 4] (fun n i => ∃ k : Int, 0 ≤ k ∧ k ≤ b ∧ i = .int .i64 k ∧ n = .int .i64 (rsz k)) (fun _ i => (b - intOf i).toNat)
  case atStart => exact ⟨0, by omega, by omega, rfl, rfl⟩
  case round =>
    obtain ⟨k, hk0, hk, rfl, rfl⟩ := hrel
    have hz := rsz_bd hk0 (by omega)
    obtain ⟨z1, z2⟩ := hz
    by_cases hlt : k < b
    · go_wp2
      go_round
      case rel => exact ⟨k + 1, by omega, by omega, by go_num, by rw [rsz_half hk0 (by omega)]⟩
      case measure => simp [intOf]; omega
    · obtain rfl : k = b := by omega
      go_wp2
      go_ret
      exact ⟨rfl, Ext.refl _⟩

set_option maxHeartbeats 400000 in
theorem iRangeOk_any (f b : Int) (w : World) :
    Calls Try.prog 10 #[.agg #[.int .i64 f, .int .i64 b]] w fun e w' => e = .returned (.bool (rok f b)) ∧ Ext w w' := by
  by_cases h1 : 0 ≤ b
  · by_cases h2 : b ≤ 8
    · obtain ⟨z1, z2⟩ := rsz_bd h1 h2
      by_cases h3 : 0 ≤ f ∧ f ≤ 255
      · obtain ⟨f0, f1⟩ := h3
        have h3 := inB_t f0 f1
        go_enter Try.func10, Try.ntmps10
        go_wp2
        first | with_reducible refine wp_region_qe (by kernel_rfl) (by kernel_rfl) ?_ | with_reducible refine wp_region_q (by kernel_rfl) (by kernel_rfl) ?_
        (repeat (go_big_quiet_step ((first | (go_at_call 13; first | with_reducible exact Calls.qb (by assumption) (isAddr_any _ _) | with_reducible exact Calls.q (isAddr_any _ _)) | (go_at_call 14; first | with_reducible exact Calls.qb (by assumption) (many_any _ _ _ h1 h2) | with_reducible exact Calls.q (many_any _ _ _ h1 h2))))))
        refine wpQuiet_nil ?_
        intro x
        go_wp2
        go_ret
        exact ⟨ret_bool (rok_eq h1 h2 f0 f1), ((Ext.refl _).alloc _).ext _⟩
      · have h4 := inB_f h3
        go_enter Try.func10, Try.ntmps10
        go_wp2
        first | with_reducible refine wp_region_qe (by kernel_rfl) (by kernel_rfl) ?_ | with_reducible refine wp_region_q (by kernel_rfl) (by kernel_rfl) ?_
        (repeat (go_big_quiet_step ((first | (go_at_call 13; first | with_reducible exact Calls.qb (by assumption) (isAddr_any _ _) | with_reducible exact Calls.q (isAddr_any _ _)) | (go_at_call 14; first | with_reducible exact Calls.qb (by assumption) (many_any _ _ _ h1 h2) | with_reducible exact Calls.q (many_any _ _ _ h1 h2))))))
        refine wpQuiet_nil ?_
        intro x
        go_wp2
        go_ret
        exact ⟨ret_bool (rok_false.2 (fun h => h3 ⟨h.2.2.1, h.2.2.2.1⟩)).symm, ((Ext.refl _).alloc _).ext _⟩
    · have h4 := ge_false h2
      go_enter Try.func10, Try.ntmps10
      go_wp2
      first | with_reducible refine wp_region_qe (by kernel_rfl) (by kernel_rfl) ?_ | with_reducible refine wp_region_q (by kernel_rfl) (by kernel_rfl) ?_
      (repeat (go_big_quiet_step (fail)))
      refine wpQuiet_nil ?_
      intro x
      go_wp2
      go_ret
      exact ⟨ret_bool (rok_false.2 (by omega)).symm, ((Ext.refl _).alloc _).ext _⟩
  · have h4 := ge_false h1
    go_enter Try.func10, Try.ntmps10
    go_wp2
    first | with_reducible refine wp_region_qe (by kernel_rfl) (by kernel_rfl) ?_ | with_reducible refine wp_region_q (by kernel_rfl) (by kernel_rfl) ?_
    (repeat (go_big_quiet_step (fail)))
    refine wpQuiet_nil ?_
    intro x
    go_wp2
    go_ret
    exact ⟨ret_bool (rok_false.2 (by omega)).symm, ((Ext.refl _).alloc _).ext _⟩

set_option maxHeartbeats 400000 in
theorem sRangeOk_any (f b : Int) (w : World) :
    Calls Try.prog 8 #[.agg #[.int .i64 f, .int .i64 b]] w fun e w' => e = .returned (.bool (rok f b)) ∧ Ext w w' := by
  by_cases h1 : 0 ≤ b ∧ b ≤ 8
  · obtain ⟨z1, z2⟩ := rsz_bd h1.1 h1.2
    have h2 := inB_t h1.1 h1.2
    by_cases h3 : 0 ≤ f ∧ f ≤ 255
    · have h4 := inB_t h3.1 h3.2
      obtain ⟨f0, f1⟩ := h3
      obtain ⟨b0, b1⟩ := h1
      go_enter Try.func8, Try.ntmps8
      go_wp2
      first | with_reducible refine wp_region_qe (by kernel_rfl) (by kernel_rfl) ?_ | with_reducible refine wp_region_q (by kernel_rfl) (by kernel_rfl) ?_
      (repeat (go_big_quiet_step ((first | (go_at_call 12; first | with_reducible exact Calls.qb (by assumption) (l6In_any _ _ _ _) | with_reducible exact Calls.q (l6In_any _ _ _ _)) | (go_at_call 9; first | with_reducible exact Calls.qb (by assumption) (l1Size_any _ _ b0 b1) | with_reducible exact Calls.q (l1Size_any _ _ b0 b1))))))
      refine wpQuiet_nil ?_
      intro x
      go_wp2
      go_ret
      exact ⟨ret_bool (rok_eq b0 b1 f0 f1), ((Ext.refl _).alloc _).ext _⟩
    · have h4 := inB_f h3
      go_enter Try.func8, Try.ntmps8
      go_wp2
      first | with_reducible refine wp_region_qe (by kernel_rfl) (by kernel_rfl) ?_ | with_reducible refine wp_region_q (by kernel_rfl) (by kernel_rfl) ?_
      (repeat (go_big_quiet_step ((first | (go_at_call 12; first | with_reducible exact Calls.qb (by assumption) (l6In_any _ _ _ _) | with_reducible exact Calls.q (l6In_any _ _ _ _))))))
      refine wpQuiet_nil ?_
      intro x
      go_wp2
      go_ret
      exact ⟨ret_bool (rok_false.2 (fun h => h3 ⟨h.2.2.1, h.2.2.2.1⟩)).symm, ((Ext.refl _).alloc _).ext _⟩
  · have h4 := inB_f h1
    go_enter Try.func8, Try.ntmps8
    go_wp2
    first | with_reducible refine wp_region_qe (by kernel_rfl) (by kernel_rfl) ?_ | with_reducible refine wp_region_q (by kernel_rfl) (by kernel_rfl) ?_
    (repeat (go_big_quiet_step ((first | (go_at_call 12; first | with_reducible exact Calls.qb (by assumption) (l6In_any _ _ _ _) | with_reducible exact Calls.q (l6In_any _ _ _ _))))))
    refine wpQuiet_nil ?_
    intro x
    go_wp2
    go_ret
    exact ⟨ret_bool (rok_false.2 (fun h => h1 ⟨h.1, h.2.1⟩)).symm, ((Ext.refl _).alloc _).ext _⟩

set_option maxHeartbeats 400000 in
theorem toRange_any (f b : Int) (w : World) :
    Calls Try.prog 5 #[.agg #[.int .i64 f, .int .i64 b]] w fun e w' => e = .returned (.agg #[.int .i64 f, .int .i64 b]) ∧ Ext w w' := by
  go_enter Try.func5, Try.ntmps5
  go_wp2
  exact bodyPost_ret (v := .agg #[.int .i64 f, .int .i64 b]) (by simp [results, Try.results5, go_sem]) rfl ⟨rfl, (by repeat (first | with_reducible exact Ext.refl _ | with_reducible apply Ext.and | with_reducible apply Ext.drewx | with_reducible apply Ext.alloc | with_reducible apply Ext.ext | with_reducible apply Ext.drew | with_reducible refine Ext.setCell ?_ (by simp) _))⟩



end Go.Proofs.Ytbjignakkkgpgaa
