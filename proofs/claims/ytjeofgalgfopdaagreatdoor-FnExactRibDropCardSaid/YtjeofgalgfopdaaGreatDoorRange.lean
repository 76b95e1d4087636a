/- What the functions on ranges do, those of the program and those of the reference. No condition. -/
import Derived.Test.YtjeofgalgfopdaaGreatDoorRows
import Derived.Test.YtjeofgalgfopdaaGreatDoorExt
import Derived.Test.YtjeofgalgfopdaaGreatDoorRp
namespace Go.Proofs.YtjeofgalgfopdaaGreatDoor
open Go Go.RowKit

set_option maxHeartbeats 400000 in
theorem l6In_any (n lo hi : Int) (w : World) :
    Calls Tryz.prog 97 #[.int .i64 n, .int .i64 lo, .int .i64 hi] w fun e w' => e = .returned (.bool (inB n lo hi)) ∧ Ext w w' := by
  go_enter Tryz.func97, Tryz.ntmps97
  go_wp2
  all_goals
    go_ret
    exact ⟨ret_bool (by simp [inB]; try omega), Ext.refl _⟩

set_option maxHeartbeats 400000 in
theorem isAddr_any (n : Int) (w : World) :
    Calls Tryz.prog 128 #[.int .i64 n] w fun e w' => e = .returned (.bool (inB n 0 255)) ∧ Ext w w' := by
  go_enter Tryz.func128, Tryz.ntmps128
  go_wp2
  all_goals
    go_ret
    exact ⟨ret_bool (by simp [inB]; try omega), Ext.refl _⟩

set_option maxHeartbeats 400000 in
theorem many_any (f b : Int) (w : World) (h0 : 0 ≤ b) (h1 : b ≤ 8) :
    Calls Tryz.prog 129 #[.agg #[.int .i64 f, .int .i64 b]] w fun e w' => e = .returned (.int .i64 (rsz b)) ∧ Ext w w' := by
  go_enter Tryz.func129, Tryz.ntmps129
  go_wp2
  go_ret
  exact ⟨ret_int (wrap_rsz h0 h1), (Ext.refl _).alloc _⟩

set_option maxHeartbeats 400000 in
theorem l1Size_any (b : Int) (w : World) (h0 : 0 ≤ b) (h1 : b ≤ 8) :
    Calls Tryz.prog 127 #[.int .i64 b] w fun e w' => e = .returned (.int .i64 (rsz b)) ∧ Ext w w' := by
  go_enter Tryz.func127, Tryz.ntmps127
  go_wp2
  go_loop [3, 4] (fun n i => ∃ k : Int, 0 ≤ k ∧ k ≤ b ∧ i = .int .i64 k ∧ n = .int .i64 (rsz k)) (fun _ i => (b - intOf i).toNat)
  case atStart => exact ⟨0, by omega, by omega, rfl, rfl⟩
  case round =>
    obtain ⟨k, hk0, hk, rfl, rfl⟩ := hrel
    have hz := rsz_bd hk0 (by omega)
    obtain ⟨z1, z2⟩ := hz
    by_cases hlt : k < b
    · go_wp2
      go_round
      case rel => exact ⟨k + 1, by omega, by omega, by go_num, by rw [rsz_half hk0 (by omega)]⟩
      case measure => simp [intOf]; omega
    · obtain rfl : k = b := by omega
      go_wp2
      go_ret
      exact ⟨rfl, Ext.refl _⟩

set_option maxHeartbeats 400000 in
theorem iRangeOk_any (f b : Int) (w : World) :
    Calls Tryz.prog 93 #[.agg #[.int .i64 f, .int .i64 b]] w fun e w' => e = .returned (.bool (rok f b)) ∧ Ext w w' := by
  by_cases h1 : 0 ≤ b
  · by_cases h2 : b ≤ 8
    · obtain ⟨z1, z2⟩ := rsz_bd h1 h2
      by_cases h3 : 0 ≤ f ∧ f ≤ 255
      · obtain ⟨f0, f1⟩ := h3
        have h3 := inB_t f0 f1
        go_enter Tryz.func93, Tryz.ntmps93
        go_wp2
        first | with_reducible refine wp_region_qe (by kernel_rfl) (by kernel_rfl) ?_ | with_reducible refine wp_region_q (by kernel_rfl) (by kernel_rfl) ?_
        (repeat (go_big_quiet_step ((first | (go_at_call 128; first | with_reducible exact Calls.qb (by assumption) (isAddr_any _ _) | with_reducible exact Calls.q (isAddr_any _ _)) | (go_at_call 129; first | with_reducible exact Calls.qb (by assumption) (many_any _ _ _ h1 h2) | with_reducible exact Calls.q (many_any _ _ _ h1 h2))))))
        refine wpQuiet_nil ?_
        intro x
        go_wp2
        go_ret
        exact ⟨ret_bool (rok_eq h1 h2 f0 f1), ((Ext.refl _).alloc _).ext _⟩
      · have h4 := inB_f h3
        go_enter Tryz.func93, Tryz.ntmps93
        go_wp2
        first | with_reducible refine wp_region_qe (by kernel_rfl) (by kernel_rfl) ?_ | with_reducible refine wp_region_q (by kernel_rfl) (by kernel_rfl) ?_
        (repeat (go_big_quiet_step ((first | (go_at_call 128; first | with_reducible exact Calls.qb (by assumption) (isAddr_any _ _) | with_reducible exact Calls.q (isAddr_any _ _)) | (go_at_call 129; first | with_reducible exact Calls.qb (by assumption) (many_any _ _ _ h1 h2) | with_reducible exact Calls.q (many_any _ _ _ h1 h2))))))
        refine wpQuiet_nil ?_
        intro x
        go_wp2
        go_ret
        exact ⟨ret_bool (rok_false.2 (fun h => h3 ⟨h.2.2.1, h.2.2.2.1⟩)).symm, ((Ext.refl _).alloc _).ext _⟩
    · have h4 := ge_false h2
      go_enter Tryz.func93, Tryz.ntmps93
      go_wp2
      first | with_reducible refine wp_region_qe (by kernel_rfl) (by kernel_rfl) ?_ | with_reducible refine wp_region_q (by kernel_rfl) (by kernel_rfl) ?_
      (repeat (go_big_quiet_step (fail)))
      refine wpQuiet_nil ?_
      intro x
      go_wp2
      go_ret
      exact ⟨ret_bool (rok_false.2 (by omega)).symm, ((Ext.refl _).alloc _).ext _⟩
  · have h4 := ge_false h1
    go_enter Tryz.func93, Tryz.ntmps93
    go_wp2
    first | with_reducible refine wp_region_qe (by kernel_rfl) (by kernel_rfl) ?_ | with_reducible refine wp_region_q (by kernel_rfl) (by kernel_rfl) ?_
    (repeat (go_big_quiet_step (fail)))
    refine wpQuiet_nil ?_
    intro x
    go_wp2
    go_ret
    exact ⟨ret_bool (rok_false.2 (by omega)).symm, ((Ext.refl _).alloc _).ext _⟩

set_option maxHeartbeats 400000 in
theorem sRangeOk_any (f b : Int) (w : World) :
    Calls Tryz.prog 92 #[.agg #[.int .i64 f, .int .i64 b]] w fun e w' => e = .returned (.bool (rok f b)) ∧ Ext w w' := by
  by_cases h1 : 0 ≤ b ∧ b ≤ 8
  · obtain ⟨z1, z2⟩ := rsz_bd h1.1 h1.2
    have h2 := inB_t h1.1 h1.2
    by_cases h3 : 0 ≤ f ∧ f ≤ 255
    · have h4 := inB_t h3.1 h3.2
      obtain ⟨f0, f1⟩ := h3
      obtain ⟨b0, b1⟩ := h1
      go_enter Tryz.func92, Tryz.ntmps92
      go_wp2
      first | with_reducible refine wp_region_qe (by kernel_rfl) (by kernel_rfl) ?_ | with_reducible refine wp_region_q (by kernel_rfl) (by kernel_rfl) ?_
      (repeat (go_big_quiet_step ((first | (go_at_call 97; first | with_reducible exact Calls.qb (by assumption) (l6In_any _ _ _ _) | with_reducible exact Calls.q (l6In_any _ _ _ _)) | (go_at_call 127; first | with_reducible exact Calls.qb (by assumption) (l1Size_any _ _ b0 b1) | with_reducible exact Calls.q (l1Size_any _ _ b0 b1))))))
      refine wpQuiet_nil ?_
      intro x
      go_wp2
      go_ret
      exact ⟨ret_bool (rok_eq b0 b1 f0 f1), ((Ext.refl _).alloc _).ext _⟩
    · have h4 := inB_f h3
      go_enter Tryz.func92, Tryz.ntmps92
      go_wp2
      first | with_reducible refine wp_region_qe (by kernel_rfl) (by kernel_rfl) ?_ | with_reducible refine wp_region_q (by kernel_rfl) (by kernel_rfl) ?_
      (repeat (go_big_quiet_step ((first | (go_at_call 97; first | with_reducible exact Calls.qb (by assumption) (l6In_any _ _ _ _) | with_reducible exact Calls.q (l6In_any _ _ _ _))))))
      refine wpQuiet_nil ?_
      intro x
      go_wp2
      go_ret
      exact ⟨ret_bool (rok_false.2 (fun h => h3 ⟨h.2.2.1, h.2.2.2.1⟩)).symm, ((Ext.refl _).alloc _).ext _⟩
  · have h4 := inB_f h1
    go_enter Tryz.func92, Tryz.ntmps92
    go_wp2
    first | with_reducible refine wp_region_qe (by kernel_rfl) (by kernel_rfl) ?_ | with_reducible refine wp_region_q (by kernel_rfl) (by kernel_rfl) ?_
    (repeat (go_big_quiet_step ((first | (go_at_call 97; first | with_reducible exact Calls.qb (by assumption) (l6In_any _ _ _ _) | with_reducible exact Calls.q (l6In_any _ _ _ _))))))
    refine wpQuiet_nil ?_
    intro x
    go_wp2
    go_ret
    exact ⟨ret_bool (rok_false.2 (fun h => h1 ⟨h.1, h.2.1⟩)).symm, ((Ext.refl _).alloc _).ext _⟩

set_option maxHeartbeats 400000 in
theorem toRange_any (f b : Int) (w : World) :
    Calls Tryz.prog 40 #[.agg #[.int .i64 f, .int .i64 b]] w fun e w' => e = .returned (.agg #[.int .i64 f, .int .i64 b]) ∧ Ext w w' := by
  go_enter Tryz.func40, Tryz.ntmps40
  go_wp2
  exact bodyPost_ret (v := .agg #[.int .i64 f, .int .i64 b]) (by simp [results, Tryz.results40, go_sem]) rfl ⟨rfl, (by repeat (first | with_reducible exact Ext.refl _ | with_reducible apply Ext.and | with_reducible apply Ext.drewx | with_reducible apply Ext.alloc | with_reducible apply Ext.ext | with_reducible apply Ext.drew | with_reducible refine Ext.setCell ?_ (by simp) _))⟩

set_option maxHeartbeats 400000 in
theorem l1Has_any (f b addr : Int) (w : World) (h : rok f b = true) (h0 : 0 ≤ addr) (_h255 : addr ≤ 255) :
    Calls Tryz.prog 147 #[.agg #[.int .i64 f, .int .i64 b], .int .i64 addr] w fun e w' => e = .returned (.bool (covB f b addr)) ∧ Ext w w' := by
  obtain ⟨h1, h2, h3, h4⟩ := rok_bd h
  obtain ⟨z1, z2⟩ := rsz_bd h1 h2
  rw [← cov_div h h0]
  clear h
  go_enter Tryz.func147, Tryz.ntmps147
  go_wp2
  first | with_reducible refine wp_region_qe (by kernel_rfl) (by kernel_rfl) ?_ | with_reducible refine wp_region_q (by kernel_rfl) (by kernel_rfl) ?_
  (repeat (go_big_quiet_step ((first | (go_at_call 127; first | with_reducible exact Calls.qb (by assumption) (l1Size_any _ _ h1 h2) | with_reducible exact Calls.q (l1Size_any _ _ h1 h2))))))
  refine wpQuiet_nil ?_
  intro x
  go_wp2
  go_ret
  exact ⟨rfl, ((Ext.refl _).alloc _).ext _⟩

set_option maxHeartbeats 400000 in
theorem covers_any (f b addr : Int) (w : World) (h : rok f b = true) :
    Calls Tryz.prog 194 #[.agg #[.int .i64 f, .int .i64 b], .int .i64 addr] w fun e w' => e = .returned (.bool (covB f b addr)) ∧ Ext w w' := by
  obtain ⟨h1, h2, h3, h4⟩ := rok_bd h
  obtain ⟨z1, z2⟩ := rsz_bd h1 h2
  clear h
  by_cases h5 : f ≤ addr
  · have h6 := ge_true h5
    go_enter Tryz.func194, Tryz.ntmps194
    go_wp2
    first | with_reducible refine wp_region_qe (by kernel_rfl) (by kernel_rfl) ?_ | with_reducible refine wp_region_q (by kernel_rfl) (by kernel_rfl) ?_
    (repeat (go_big_quiet_step ((first | (go_at_call 129; first | with_reducible exact Calls.qb (by assumption) (many_any _ _ _ h1 h2) | with_reducible exact Calls.q (many_any _ _ _ h1 h2))))))
    refine wpQuiet_nil ?_
    intro x
    go_wp2
    go_ret
    exact ⟨ret_bool (by simp [covB, h5]), ((Ext.refl _).alloc _).ext _⟩
  · have h6 := ge_false h5
    go_enter Tryz.func194, Tryz.ntmps194
    go_wp2
    first | with_reducible refine wp_region_qe (by kernel_rfl) (by kernel_rfl) ?_ | with_reducible refine wp_region_q (by kernel_rfl) (by kernel_rfl) ?_
    (repeat (go_big_quiet_step ((first | (go_at_call 129; first | with_reducible exact Calls.qb (by assumption) (many_any _ _ _ h1 h2) | with_reducible exact Calls.q (many_any _ _ _ h1 h2))))))
    refine wpQuiet_nil ?_
    intro x
    go_wp2
    go_ret
    exact ⟨ret_bool (by simp [covB]; omega), ((Ext.refl _).alloc _).ext _⟩


set_option maxHeartbeats 400000 in
theorem l1In_any (f b f' b' : Int) (w : World) (h : rok f b = true) (h' : rok f' b' = true) :
    Calls Tryz.prog 131 #[.agg #[.int .i64 f, .int .i64 b], .agg #[.int .i64 f', .int .i64 b']] w fun e w' => e = .returned (.bool (decide (b' ≤ b) && covB f' b' f)) ∧ Ext w w' := by
  obtain ⟨h1, h2, h3, h4⟩ := rok_bd h
  go_enter Tryz.func131, Tryz.ntmps131
  go_wp2_with (first | (first | (go_at_call 147; (with_reducible refine (l1Has_any f' b' f _ h' h3 h4).mono ?_); rintro _ _ ⟨rfl, x, rfl⟩)) | ((first | with_reducible refine wp_region_qe (by kernel_rfl) (by kernel_rfl) ?_ | with_reducible refine wp_region_q (by kernel_rfl) (by kernel_rfl) ?_); (repeat (go_big_quiet_step ((first | (go_at_call 147; first | with_reducible exact Calls.qb (by assumption) (l1Has_any f' b' f _ h' h3 h4) | with_reducible exact Calls.q (l1Has_any f' b' f _ h' h3 h4)))))); refine wpQuiet_nil ?_; intro x))
  all_goals
    go_ret
    exact ⟨ret_bool (by simp [*]; try (intros; omega)), (by repeat (first | with_reducible exact Ext.refl _ | with_reducible apply Ext.and | with_reducible apply Ext.drewx | with_reducible apply Ext.alloc | with_reducible apply Ext.ext | with_reducible apply Ext.drew | with_reducible refine Ext.setCell ?_ (by simp) _))⟩

set_option maxHeartbeats 400000 in
theorem iRangeIn_any (f b f' b' : Int) (w : World) :
    Calls Tryz.prog 193 #[.agg #[.int .i64 f, .int .i64 b], .agg #[.int .i64 f', .int .i64 b']] w fun e w' => e = .returned (.bool (rin f b f' b')) ∧ Ext w w' := by
  go_enter Tryz.func193, Tryz.ntmps193
  go_wp2_with (first | (first | (go_at_call 93; (with_reducible refine (iRangeOk_any _ _ _).mono ?_); rintro _ _ ⟨rfl, x, rfl⟩) | (go_at_call 194; (with_reducible refine (covers_any _ _ _ _ (by assumption)).mono ?_); rintro _ _ ⟨rfl, x, rfl⟩)) | ((first | with_reducible refine wp_region_qe (by kernel_rfl) (by kernel_rfl) ?_ | with_reducible refine wp_region_q (by kernel_rfl) (by kernel_rfl) ?_); (repeat (go_big_quiet_step ((first | (go_at_call 93; first | with_reducible exact Calls.qb (by assumption) (iRangeOk_any _ _ _) | with_reducible exact Calls.q (iRangeOk_any _ _ _)) | (go_at_call 194; first | with_reducible exact Calls.qb (by assumption) (covers_any _ _ _ _ (by assumption)) | with_reducible exact Calls.q (covers_any _ _ _ _ (by assumption))))))); refine wpQuiet_nil ?_; intro x))
  all_goals
    go_ret
    exact ⟨ret_bool (by simp [rin, *]; try (intros; omega)), (by repeat (first | with_reducible exact Ext.refl _ | with_reducible apply Ext.and | with_reducible apply Ext.drewx | with_reducible apply Ext.alloc | with_reducible apply Ext.ext | with_reducible apply Ext.drew | with_reducible refine Ext.setCell ?_ (by simp) _))⟩



end Go.Proofs.YtjeofgalgfopdaaGreatDoor
