/- Where a number stands in a slice; whether it does. No condition. -/
import Derived.Test.YtjeofgalgfopdaaGreatDoorHouse
import Derived.Test.YtjeofgalgfopdaaGreatDoorSeq
namespace Go.Proofs.YtjeofgalgfopdaaGreatDoor
open Go Go.RowKit

/-- Where a number stands. -/
theorem hasI_any (l : List Int) (n : Int) : l.any (fun d => n == d) = hasI l n := by
  unfold hasI
  rw [List.contains_eq_any_beq]
set_option maxHeartbeats 1000000 in
theorem indexI_any (a : Option Addr) (len cap : Nat) (l : List Int) (n : Int) (w : World) (h : SlRd w a len cap l) :
    Calls Tryz.prog 197 #[.slice a len cap, .int .i64 n] w fun e w' => e = .returned (.int .i64 (findI (fun d => n == d) l)) ∧ Ext w w' := by
  have hm := h.2.2.1
  have hlc := h.2.1
  have HL := hidden h.1
  unfold maxLen at hm
  go_enter Tryz.func197, Tryz.ntmps197
  go_wp2_with fail
  go_loopw [8] (fun i wr => ∃ k : Nat, k ≤ len ∧ i = .int .i64 k ∧ Ext w wr ∧ Hid ((l.take k).any (fun d => n == d) = false)) (fun i _ => len - (intOf i).toNat)
  case atStart => exact ⟨0, Nat.zero_le _, rfl, Ext.refl _, rfl⟩
  case round =>
    obtain ⟨k, hk, rfl, hE, HT⟩ := hrel
    by_cases hlt : k < len
    · obtain ⟨d, dhd, db, doff, dys, rfl, dhys, dhcell, dhrd⟩ := h.at hE hlt
      obtain ⟨rfl, dg0⟩ := dhrd
      have dc0 : wr.cell? ⟨db, doff + k, none⟩ = some (.int .i64 d) := by have := dhcell 0 _ rfl; simpa [Lay.n] using this
      have dlb := cell_lt dc0
      have dHD := hidden dhd
      clear dhcell dhys dhd
      cases hb : n == d
      · go_wp2_with (first | ((first | with_reducible refine wp_region_qe (by kernel_rfl) (by kernel_rfl) ?_ | with_reducible refine wp_region_q (by kernel_rfl) (by kernel_rfl) ?_); (repeat' (first | go_big_quiet_step (fail) | (refine wpQuiet_split rfl rfl rfl rfl (fun hsp => ?_) (fun hsp => ?_); ((fail_if_success (cases hsp; done)); simp only [hsp]; (try first | have hsq : _ < _ := of_decide_eq_true hsp | have hsq : _ ≤ _ := of_decide_eq_true hsp | have hsq : ¬ _ < _ := of_decide_eq_false hsp | have hsq : ¬ _ ≤ _ := of_decide_eq_false hsp)); rotate_left; ((fail_if_success (cases hsp; done)); simp only [hsp]; (try first | have hsq : _ < _ := of_decide_eq_true hsp | have hsq : _ ≤ _ := of_decide_eq_true hsp | have hsq : ¬ _ < _ := of_decide_eq_false hsp | have hsq : ¬ _ ≤ _ := of_decide_eq_false hsp))))); (all_goals (refine wpQuiet_nil ?_; intro x))))
        go_roundw
        case rel => exact ⟨k + 1, by omega, by go_num, (by first | exact hE | exact hE.ext _ | exact hE.trans (by repeat (first | with_reducible exact Ext.refl _ | with_reducible apply Ext.and | with_reducible apply Ext.drewx | with_reducible apply Ext.alloc | with_reducible apply Ext.ext | with_reducible apply Ext.drew | with_reducible refine Ext.setCell ?_ (by simp) _))), any_succ HT.out dHD.out hb⟩
        case measure => simp [intOf]; omega
      · go_wp2_with (first | ((first | with_reducible refine wp_region_qe (by kernel_rfl) (by kernel_rfl) ?_ | with_reducible refine wp_region_q (by kernel_rfl) (by kernel_rfl) ?_); (repeat' (first | go_big_quiet_step (fail) | (refine wpQuiet_split rfl rfl rfl rfl (fun hsp => ?_) (fun hsp => ?_); ((fail_if_success (cases hsp; done)); simp only [hsp]; (try first | have hsq : _ < _ := of_decide_eq_true hsp | have hsq : _ ≤ _ := of_decide_eq_true hsp | have hsq : ¬ _ < _ := of_decide_eq_false hsp | have hsq : ¬ _ ≤ _ := of_decide_eq_false hsp)); rotate_left; ((fail_if_success (cases hsp; done)); simp only [hsp]; (try first | have hsq : _ < _ := of_decide_eq_true hsp | have hsq : _ ≤ _ := of_decide_eq_true hsp | have hsq : ¬ _ < _ := of_decide_eq_false hsp | have hsq : ¬ _ ≤ _ := of_decide_eq_false hsp))))); (all_goals (refine wpQuiet_nil ?_; intro x))))
        go_ret
        exact ⟨ret_int (findI_at (p := fun d => n == d) HT.out dHD.out hb).symm, (by first | exact hE | exact hE.ext _ | exact hE.trans (by repeat (first | with_reducible exact Ext.refl _ | with_reducible apply Ext.and | with_reducible apply Ext.drewx | with_reducible apply Ext.alloc | with_reducible apply Ext.ext | with_reducible apply Ext.drew | with_reducible refine Ext.setCell ?_ (by simp) _)))⟩
    · obtain rfl : len = k := by omega
      have HN := hidden (show l.any (fun d => n == d) = false by have := HT.out; rwa [List.take_of_length_le (Nat.le_of_eq HL.out)] at this)
      go_wp2_with (first | ((first | with_reducible refine wp_region_qe (by kernel_rfl) (by kernel_rfl) ?_ | with_reducible refine wp_region_q (by kernel_rfl) (by kernel_rfl) ?_); (repeat' (first | go_big_quiet_step (fail) | (refine wpQuiet_split rfl rfl rfl rfl (fun hsp => ?_) (fun hsp => ?_); ((fail_if_success (cases hsp; done)); simp only [hsp]; (try first | have hsq : _ < _ := of_decide_eq_true hsp | have hsq : _ ≤ _ := of_decide_eq_true hsp | have hsq : ¬ _ < _ := of_decide_eq_false hsp | have hsq : ¬ _ ≤ _ := of_decide_eq_false hsp)); rotate_left; ((fail_if_success (cases hsp; done)); simp only [hsp]; (try first | have hsq : _ < _ := of_decide_eq_true hsp | have hsq : _ ≤ _ := of_decide_eq_true hsp | have hsq : ¬ _ < _ := of_decide_eq_false hsp | have hsq : ¬ _ ≤ _ := of_decide_eq_false hsp))))); (all_goals (refine wpQuiet_nil ?_; intro x))))
      go_ret
      exact ⟨ret_int (findI_no HN.out).symm, (by first | exact hE | exact hE.ext _ | exact hE.trans (by repeat (first | with_reducible exact Ext.refl _ | with_reducible apply Ext.and | with_reducible apply Ext.drewx | with_reducible apply Ext.alloc | with_reducible apply Ext.ext | with_reducible apply Ext.drew | with_reducible refine Ext.setCell ?_ (by simp) _)))⟩
set_option maxHeartbeats 400000 in
theorem containsI_any (a : Option Addr) (len cap : Nat) (l : List Int) (n : Int) (w : World) (h : SlRd w a len cap l) :
    Calls Tryz.prog 196 #[.slice a len cap, .int .i64 n] w fun e w' => e = .returned (.bool (hasI l n)) ∧ Ext w w' := by
  have e := findI_ge (fun d => n == d) l
  rw [hasI_any] at e
  rw [← e]
  clear e
  go_enter Tryz.func196, Tryz.ntmps196
  go_wp2_with (first | (first | (go_at_call 197; (with_reducible refine (indexI_any _ _ _ l _ _ (h.stays ((by repeat (first | with_reducible exact Ext.refl _ | with_reducible apply Ext.and | with_reducible apply Ext.drewx | with_reducible apply Ext.alloc | with_reducible apply Ext.ext | with_reducible apply Ext.drew | with_reducible refine Ext.setCell ?_ (by simp) _)) : Ext _ _).below)).mono ?_); rintro _ _ ⟨rfl, x, rfl⟩)) | ((first | with_reducible refine wp_region_qe (by kernel_rfl) (by kernel_rfl) ?_ | with_reducible refine wp_region_q (by kernel_rfl) (by kernel_rfl) ?_); (repeat' (first | go_big_quiet_step ((first | (go_at_call 197; first | with_reducible exact Calls.qb (by assumption) (indexI_any _ _ _ l _ _ (h.stays ((by repeat (first | with_reducible exact Ext.refl _ | with_reducible apply Ext.and | with_reducible apply Ext.drewx | with_reducible apply Ext.alloc | with_reducible apply Ext.ext | with_reducible apply Ext.drew | with_reducible refine Ext.setCell ?_ (by simp) _)) : Ext _ _).below)) | with_reducible exact Calls.q (indexI_any _ _ _ l _ _ (h.stays ((by repeat (first | with_reducible exact Ext.refl _ | with_reducible apply Ext.and | with_reducible apply Ext.drewx | with_reducible apply Ext.alloc | with_reducible apply Ext.ext | with_reducible apply Ext.drew | with_reducible refine Ext.setCell ?_ (by simp) _)) : Ext _ _).below))))) | (refine wpQuiet_split rfl rfl rfl rfl (fun hsp => ?_) (fun hsp => ?_); ((fail_if_success (cases hsp; done)); simp only [hsp]; (try first | have hsq : _ < _ := of_decide_eq_true hsp | have hsq : _ ≤ _ := of_decide_eq_true hsp | have hsq : ¬ _ < _ := of_decide_eq_false hsp | have hsq : ¬ _ ≤ _ := of_decide_eq_false hsp)); rotate_left; ((fail_if_success (cases hsp; done)); simp only [hsp]; (try first | have hsq : _ < _ := of_decide_eq_true hsp | have hsq : _ ≤ _ := of_decide_eq_true hsp | have hsq : ¬ _ < _ := of_decide_eq_false hsp | have hsq : ¬ _ ≤ _ := of_decide_eq_false hsp))))); (all_goals (refine wpQuiet_nil ?_; intro x))))
  go_ret
  exact ⟨rfl, (by repeat (first | with_reducible exact Ext.refl _ | with_reducible apply Ext.and | with_reducible apply Ext.drewx | with_reducible apply Ext.alloc | with_reducible apply Ext.ext | with_reducible apply Ext.drew | with_reducible refine Ext.setCell ?_ (by simp) _))⟩

end Go.Proofs.YtjeofgalgfopdaaGreatDoor
