/- The comparison of numbers, the first that is not 0, and the order of ranges. No condition. -/
import Derived.Test.YtlehcnfmagjilaaDoorRange
import Derived.Test.YtlehcnfmagjilaaDoorOpen
namespace Go.Proofs.YtlehcnfmagjilaaDoor
open Go Go.RowKit

set_option maxHeartbeats 400000 in
theorem compare_any (a b : Int) (w : World) :
    Calls Tryd.prog 83 #[.int .i64 a, .int .i64 b] w fun e w' => e = .returned (.int .i64 (cmpI a b)) ∧ Ext w w' := by
  go_enter Tryd.func83, Tryd.ntmps83
  go_wp2
  all_goals
    go_ret
    exact ⟨ret_int (by first | rw [cmpI_lt (by assumption)] | rw [cmpI_gt (by assumption)] | (unfold cmpI; rw [if_neg (by omega), if_neg (by omega)])), Ext.refl _⟩

set_option maxHeartbeats 400000 in
theorem or_any (l : List Int) (b off cap : Nat) (w : World) (hl : l.length ≤ 100) (hc : ∀ i (h : i < l.length), w.cell? ⟨b, off + i, none⟩ = some (.int .i64 l[i])) :
    Calls Tryd.prog 82 #[.slice (some ⟨b, off, none⟩) l.length cap] w fun e w' => e = .returned (.int .i64 (orL l)) ∧ Ext w w' := by
  have HC : Hid (∀ i (h : i < l.length), w.cell? ⟨b, off + i, none⟩ = some (.int .i64 l[i])) := hc
  clear hc
  go_enter Tryd.func82, Tryd.ntmps82
  go_wp2
  go_loop [8] (fun i => ∃ k : Nat, k ≤ l.length ∧ i = .int .i64 k ∧ orL l = orL (l.drop k)) (fun i => l.length - (intOf i).toNat)
  case atStart => exact ⟨0, Nat.zero_le _, rfl, rfl⟩
  case round =>
    obtain ⟨k, hk, rfl, hr⟩ := hrel
    have HR : Hid (orL l = orL (l.drop k)) := hr
    clear hr
    by_cases hlt : k < l.length
    · have hcell := HC.out k hlt
      by_cases h0 : l[k] = 0
      · have hcell' : w.cell? ⟨b, off + k, none⟩ = some (.int .i64 0) := by rw [hcell, h0]
        clear hcell
        have h0' : Hid (l[k] = 0) := h0
        clear h0
        go_wp2
        go_round
        case rel => exact ⟨k + 1, by omega, by go_num, by rw [HR.out, orL_drop hlt, if_pos h0'.out]⟩
        case measure => simp [intOf]; omega
      · have hb : (l[k] != 0) = true := by simpa using h0
        go_wp2
        go_ret
        exact ⟨ret_int (by rw [HR.out, orL_drop hlt, if_neg h0]), Ext.refl _⟩
    · go_wp2
      go_ret
      exact ⟨ret_int (by rw [HR.out, List.drop_eq_nil_of_le (by omega)]; rfl), Ext.refl _⟩

theorem or2_any (a b : Int) (B cap : Nat) (w : World) (h0 : w.cell? ⟨B, 0, none⟩ = some (.int .i64 a)) (h1 : w.cell? ⟨B, 1, none⟩ = some (.int .i64 b)) :
    Calls Tryd.prog 82 #[.slice (some ⟨B, 0, none⟩) 2 cap] w fun e w' => e = .returned (.int .i64 (orL [a, b])) ∧ Ext w w' :=
  or_any [a, b] B 0 cap w (by simp) (fun i hi => by
    match i, hi with
    | 0, _ => simpa using h0
    | 1, _ => simpa using h1)

set_option maxHeartbeats 400000 in
theorem l1Cmp_any (f b f' b' : Int) (w : World) :
    Calls Tryd.prog 56 #[.agg #[.int .i64 f, .int .i64 b], .agg #[.int .i64 f', .int .i64 b']] w fun e w' => e = .returned (.int .i64 (orL [cmpI f f', cmpI b b'])) ∧ Ext w w' := by
  go_enter Tryd.func56, Tryd.ntmps56
  go_wp2
  all_goals
    go_ret
    exact ⟨ret_int (by simp only [orL, cmpI]; repeat' split; all_goals omega), (by repeat (first | with_reducible exact Ext.refl _ | with_reducible apply Ext.and | with_reducible apply Ext.drewx | with_reducible apply Ext.alloc | with_reducible apply Ext.ext | with_reducible apply Ext.drew | with_reducible refine Ext.setCell ?_ (by simp) _))⟩

set_option maxHeartbeats 1000000 in
theorem iRangeCmp_any (f b f' b' : Int) (w : World) :
    Calls Tryd.prog 60 #[.agg #[.int .i64 f, .int .i64 b], .agg #[.int .i64 f', .int .i64 b']] w fun e w' => e = .returned (.int .i64 (rcmp f b f' b')) ∧ Ext w w' := by
  cases h : rok f b <;> cases h' : rok f' b'
  case true.true =>
    have e : rcmp f b f' b' = orL [cmpI f f', cmpI b b'] := by unfold rcmp; rw [if_pos ⟨h, h'⟩]
    rw [e]
    go_enter Tryd.func60, Tryd.ntmps60
    go_wp2_with (first | (first | (go_at_call 45; (with_reducible refine (iRangeOk_any _ _ _).mono ?_); rintro _ _ ⟨rfl, x, rfl⟩)) | ((first | with_reducible refine wp_region_qe (by kernel_rfl) (by kernel_rfl) ?_ | with_reducible refine wp_region_q (by kernel_rfl) (by kernel_rfl) ?_); (repeat (go_big_quiet_step ((first | (go_at_call 45; first | with_reducible exact Calls.qb (by assumption) (iRangeOk_any _ _ _) | with_reducible exact Calls.q (iRangeOk_any _ _ _)))))); refine wpQuiet_nil ?_; intro x))
    go_region_held3 (fun w' => w'.cell? ⟨w.heap.size, 0, none⟩ = some (.int .i64 f) ∧ w'.cell? ⟨w.heap.size, 1, none⟩ = some (.int .i64 b) ∧ w'.cell? ⟨w.heap.size + 1, 0, none⟩ = some (.int .i64 f') ∧ w'.cell? ⟨w.heap.size + 1, 1, none⟩ = some (.int .i64 b')) (go_simp) (first | (go_at_call 83; refine (compare_any _ _ _).mono ?_; rintro _ _ ⟨rfl, x, rfl⟩) | (go_at_call 82; refine (or2_any (cmpI f f') (cmpI b b') _ _ _ ?_ ?_).mono ?_; (go_simp); (go_simp); rintro _ _ ⟨rfl, x, rfl⟩))
    all_goals
      go_wp2
      go_ret
      exact ⟨rfl, (by repeat (first | with_reducible exact Ext.refl _ | with_reducible apply Ext.and | with_reducible apply Ext.drewx | with_reducible apply Ext.alloc | with_reducible apply Ext.ext | with_reducible apply Ext.drew | with_reducible refine Ext.setCell ?_ (by simp) _))⟩
    all_goals
      go_wp2
      go_ret
      exact ⟨rfl, (by repeat (first | with_reducible exact Ext.refl _ | with_reducible apply Ext.and | with_reducible apply Ext.drewx | with_reducible apply Ext.alloc | with_reducible apply Ext.ext | with_reducible apply Ext.drew | with_reducible refine Ext.setCell ?_ (by simp) _))⟩
  all_goals
    go_enter Tryd.func60, Tryd.ntmps60
    go_wp2_with (first | (first | (go_at_call 45; (with_reducible refine (iRangeOk_any _ _ _).mono ?_); rintro _ _ ⟨rfl, x, rfl⟩)) | ((first | with_reducible refine wp_region_qe (by kernel_rfl) (by kernel_rfl) ?_ | with_reducible refine wp_region_q (by kernel_rfl) (by kernel_rfl) ?_); (repeat (go_big_quiet_step ((first | (go_at_call 45; first | with_reducible exact Calls.qb (by assumption) (iRangeOk_any _ _ _) | with_reducible exact Calls.q (iRangeOk_any _ _ _)))))); refine wpQuiet_nil ?_; intro x))
    go_ret
    exact ⟨ret_int (by simp [rcmp, *]), (by repeat (first | with_reducible exact Ext.refl _ | with_reducible apply Ext.and | with_reducible apply Ext.drewx | with_reducible apply Ext.alloc | with_reducible apply Ext.ext | with_reducible apply Ext.drew | with_reducible refine Ext.setCell ?_ (by simp) _))⟩


end Go.Proofs.YtlehcnfmagjilaaDoor
