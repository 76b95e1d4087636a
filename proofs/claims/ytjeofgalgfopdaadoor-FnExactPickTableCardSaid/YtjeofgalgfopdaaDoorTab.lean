/- Tables: which are valid. No condition. -/
import Derived.Test.YtjeofgalgfopdaaDoorCopy
import Derived.Test.YtjeofgalgfopdaaDoorRc
import Derived.Test.YtjeofgalgfopdaaDoorAsc
namespace Go.Proofs.YtjeofgalgfopdaaDoor
open Go Go.RowKit

set_option maxHeartbeats 400000 in
theorem l2Entry_any (e : En) (w : World) : Calls Tryd.prog 79 #[.agg #[.int .i64 e.r.f, .int .i64 e.r.b, .int .i64 e.via]] w fun x w' => x = .returned (.bool (enOk e)) ∧ Ext w w' := by
  go_enter Tryd.func79, Tryd.ntmps79
  go_wp2_with (first | (first | (go_at_call 57; (with_reducible refine (sRangeOk_any _ _ _).mono ?_); rintro _ _ ⟨rfl, x, rfl⟩) | (go_at_call 77; (with_reducible refine (l6In_any _ _ _ _).mono ?_); rintro _ _ ⟨rfl, x, rfl⟩)) | ((first | with_reducible refine wp_region_qe (by kernel_rfl) (by kernel_rfl) ?_ | with_reducible refine wp_region_q (by kernel_rfl) (by kernel_rfl) ?_); (repeat' (first | go_big_quiet_step ((first | (go_at_call 57; first | with_reducible exact Calls.qb (by assumption) (sRangeOk_any _ _ _) | with_reducible exact Calls.q (sRangeOk_any _ _ _)) | (go_at_call 77; first | with_reducible exact Calls.qb (by assumption) (l6In_any _ _ _ _) | with_reducible exact Calls.q (l6In_any _ _ _ _)))) | (refine wpQuiet_split rfl rfl rfl rfl (fun hsp => ?_) (fun hsp => ?_); ((fail_if_success (cases hsp; done)); simp only [hsp]; (try first | have hsq : _ < _ := of_decide_eq_true hsp | have hsq : _ ≤ _ := of_decide_eq_true hsp | have hsq : ¬ _ < _ := of_decide_eq_false hsp | have hsq : ¬ _ ≤ _ := of_decide_eq_false hsp)); rotate_left; ((fail_if_success (cases hsp; done)); simp only [hsp]; (try first | have hsq : _ < _ := of_decide_eq_true hsp | have hsq : _ ≤ _ := of_decide_eq_true hsp | have hsq : ¬ _ < _ := of_decide_eq_false hsp | have hsq : ¬ _ ≤ _ := of_decide_eq_false hsp))))); (all_goals (refine wpQuiet_nil ?_; intro x))))
  all_goals
    go_ret
    exact ⟨ret_bool (by simp [enOk, *]), (by repeat (first | with_reducible exact Ext.refl _ | with_reducible apply Ext.and | with_reducible apply Ext.drewx | with_reducible apply Ext.alloc | with_reducible apply Ext.ext | with_reducible apply Ext.drew | with_reducible refine Ext.setCell ?_ (by simp) _))⟩

set_option maxHeartbeats 400000 in
theorem entryOk_any (e : En) (w : World) : Calls Tryd.prog 82 #[.agg #[.int .i64 e.r.f, .int .i64 e.r.b, .int .i64 e.via]] w fun x w' => x = .returned (.bool (enOk e)) ∧ Ext w w' := by
  go_enter Tryd.func82, Tryd.ntmps82
  go_wp2_with (first | (first | (go_at_call 59; (with_reducible refine (iRangeOk_any _ _ _).mono ?_); rintro _ _ ⟨rfl, x, rfl⟩)) | ((first | with_reducible refine wp_region_qe (by kernel_rfl) (by kernel_rfl) ?_ | with_reducible refine wp_region_q (by kernel_rfl) (by kernel_rfl) ?_); (repeat' (first | go_big_quiet_step ((first | (go_at_call 59; first | with_reducible exact Calls.qb (by assumption) (iRangeOk_any _ _ _) | with_reducible exact Calls.q (iRangeOk_any _ _ _)))) | (refine wpQuiet_split rfl rfl rfl rfl (fun hsp => ?_) (fun hsp => ?_); ((fail_if_success (cases hsp; done)); simp only [hsp]; (try first | have hsq : _ < _ := of_decide_eq_true hsp | have hsq : _ ≤ _ := of_decide_eq_true hsp | have hsq : ¬ _ < _ := of_decide_eq_false hsp | have hsq : ¬ _ ≤ _ := of_decide_eq_false hsp)); rotate_left; ((fail_if_success (cases hsp; done)); simp only [hsp]; (try first | have hsq : _ < _ := of_decide_eq_true hsp | have hsq : _ ≤ _ := of_decide_eq_true hsp | have hsq : ¬ _ < _ := of_decide_eq_false hsp | have hsq : ¬ _ ≤ _ := of_decide_eq_false hsp))))); (all_goals (refine wpQuiet_nil ?_; intro x))))
  all_goals
    go_ret
    exact ⟨ret_bool (by simp [enOk, inB, *] <;> (intros; omega)), (by repeat (first | with_reducible exact Ext.refl _ | with_reducible apply Ext.and | with_reducible apply Ext.drewx | with_reducible apply Ext.alloc | with_reducible apply Ext.ext | with_reducible apply Ext.drew | with_reducible refine Ext.setCell ?_ (by simp) _))⟩


theorem enOk_rok {e : En} (h : enOk e = true) : rok e.r.f e.r.b = true := by simp only [enOk, Bool.and_eq_true] at h; exact h.1
abbrev elt (a b : En) : Bool := rlt a.r b.r
theorem tbl_ok {t : List En} {k : Nat} {d : En} (hd : t[k]? = some d) (h : enOk d = false) : tbl t = false := by
  unfold tbl; rw [ascB_ok hd h]; rfl
theorem tbl_lt {t : List En} {k : Nat} {d p : En} (hp : t[k]? = some p) (hd : t[k + 1]? = some d) (h : 0 ≤ rc p.r d.r) : tbl t = false := by
  unfold tbl; rw [ascB_lt hp hd (show rlt p.r d.r = false from decide_eq_false (by omega))]; rfl
theorem tbl_end {t : List En} {k : Nat} (h : AscK enOk elt t k) (hk : t.length = k) : tbl t = decide (t.length ≤ 12) := by
  unfold tbl; rw [ascB_all h hk]; rfl
theorem tbl_many {t : List En} (h : 12 < t.length) : tbl t = false := by
  unfold tbl; rw [decide_eq_false (by omega : ¬ t.length ≤ 12), Bool.and_false]

set_option maxHeartbeats 1000000 in
theorem sTableOk_any (a : Option Addr) (len cap : Nat) (t : List En) (w : World) (h : SlRd w a len cap t) :
    Calls Tryd.prog 42 #[.slice a len cap] w fun e w' => e = .returned (.bool (tbl t)) ∧ Ext w w' := by
  have hm := h.2.2.1
  have hlc := h.2.1
  have HL := hidden h.1
  unfold maxLen at hm
  go_enter Tryd.func42, Tryd.ntmps42
  go_wp2_with fail
  go_loopw [3] (fun i wr => ∃ k : Nat, k ≤ len ∧ i = .int .i64 k ∧ Ext w wr ∧ Hid (AscK enOk elt t k)) (fun i _ => len - (intOf i).toNat)
  case atStart => exact ⟨0, Nat.zero_le _, rfl, Ext.refl _, AscK.zero⟩
  case round =>
    obtain ⟨k, hk, rfl, hE, HT⟩ := hrel
    by_cases hlt : k < len
    · obtain ⟨d, dhd, db, doff, dys, rfl, dhys, dhcell, dhrd⟩ := h.at hE hlt
      obtain ⟨rfl, dg0, dg1, dg2⟩ := dhrd
      have dc0 : wr.cell? ⟨db, doff + k * 3, none⟩ = some _ := dhcell 0 _ rfl
      have dc1 : wr.cell? ⟨db, doff + k * 3 + 1, none⟩ = some _ := dhcell 1 _ rfl
      have dc2 : wr.cell? ⟨db, doff + k * 3 + 2, none⟩ = some _ := dhcell 2 _ rfl
      have dlb := cell_lt dc0
      have dHD := hidden dhd
      clear dhcell dhys dhd
      by_cases hk0 : k = 0
      · subst hk0
        simp only [Nat.zero_mul, Nat.add_zero] at dc0 dc1 dc2 dlb
        go_wp2_with (first | (first | (go_at_call 79; (with_reducible refine (l2Entry_any d _).mono ?_); rintro _ _ ⟨rfl, x, rfl⟩) | (go_at_call 80; (with_reducible refine (l1Cmp_rc _ _ _).mono ?_); rintro _ _ ⟨rfl, x, rfl⟩)) | ((first | with_reducible refine wp_region_qe (by kernel_rfl) (by kernel_rfl) ?_ | with_reducible refine wp_region_q (by kernel_rfl) (by kernel_rfl) ?_); (repeat' (first | go_big_quiet_step ((first | (go_at_call 79; first | with_reducible exact Calls.qb (by assumption) (l2Entry_any d _) | with_reducible exact Calls.q (l2Entry_any d _)) | (go_at_call 80; first | with_reducible exact Calls.qb (by assumption) (l1Cmp_rc _ _ _) | with_reducible exact Calls.q (l1Cmp_rc _ _ _)))) | (refine wpQuiet_split rfl rfl rfl rfl (fun hsp => ?_) (fun hsp => ?_); ((fail_if_success (cases hsp; done)); simp only [hsp]; (try first | have hsq : _ < _ := of_decide_eq_true hsp | have hsq : _ ≤ _ := of_decide_eq_true hsp | have hsq : ¬ _ < _ := of_decide_eq_false hsp | have hsq : ¬ _ ≤ _ := of_decide_eq_false hsp)); rotate_left; ((fail_if_success (cases hsp; done)); simp only [hsp]; (try first | have hsq : _ < _ := of_decide_eq_true hsp | have hsq : _ ≤ _ := of_decide_eq_true hsp | have hsq : ¬ _ < _ := of_decide_eq_false hsp | have hsq : ¬ _ ≤ _ := of_decide_eq_false hsp))))); (all_goals (refine wpQuiet_nil ?_; intro x))))
        all_goals first
          | (go_ret; exact ⟨ret_bool (tbl_ok dHD.out (by simpa using hsp)).symm, (by first | exact hE | exact hE.ext _ | exact hE.trans (by repeat (first | with_reducible exact Ext.refl _ | with_reducible apply Ext.and | with_reducible apply Ext.drewx | with_reducible apply Ext.alloc | with_reducible apply Ext.ext | with_reducible apply Ext.drew | with_reducible refine Ext.setCell ?_ (by simp) _)))⟩)
          | (go_roundw; (case rel => exact ⟨1, by omega, by go_num, (by first | exact hE | exact hE.ext _ | exact hE.trans (by repeat (first | with_reducible exact Ext.refl _ | with_reducible apply Ext.and | with_reducible apply Ext.drewx | with_reducible apply Ext.alloc | with_reducible apply Ext.ext | with_reducible apply Ext.drew | with_reducible refine Ext.setCell ?_ (by simp) _))), AscK.one dHD.out (by simpa using hsp)⟩); (case measure => simp [intOf]; omega))
      · obtain ⟨j, rfl⟩ : ∃ j, k = j + 1 := ⟨k - 1, by omega⟩
        obtain ⟨p, phd, pb, poff, pys, phbb, phys, phcell, phrd⟩ := h.at hE (show j < len by omega)
        obtain ⟨rfl, rfl⟩ : db = pb ∧ doff = poff := by simpa using phbb
        obtain ⟨rfl, pg0, pg1, pg2⟩ := phrd
        have pc0 : wr.cell? ⟨db, doff + j * 3, none⟩ = some _ := phcell 0 _ rfl
        have pc1 : wr.cell? ⟨db, doff + j * 3 + 1, none⟩ = some _ := phcell 1 _ rfl
        have pc2 : wr.cell? ⟨db, doff + j * 3 + 2, none⟩ = some _ := phcell 2 _ rfl
        have plb := cell_lt pc0
        have pHD := hidden phd
        clear phcell phys phd
        go_wp2_with (first | (first | (go_at_call 79; (with_reducible refine (l2Entry_any d _).mono ?_); rintro _ _ ⟨rfl, x, rfl⟩) | (go_at_call 80; (with_reducible refine (l1Cmp_rc p.r d.r _).mono ?_); rintro _ _ ⟨rfl, x, rfl⟩)) | ((first | with_reducible refine wp_region_qe (by kernel_rfl) (by kernel_rfl) ?_ | with_reducible refine wp_region_q (by kernel_rfl) (by kernel_rfl) ?_); (repeat' (first | go_big_quiet_step ((first | (go_at_call 79; first | with_reducible exact Calls.qb (by assumption) (l2Entry_any d _) | with_reducible exact Calls.q (l2Entry_any d _)) | (go_at_call 80; first | with_reducible exact Calls.qb (by assumption) (l1Cmp_rc p.r d.r _) | with_reducible exact Calls.q (l1Cmp_rc p.r d.r _)))) | (refine wpQuiet_split rfl rfl rfl rfl (fun hsp => ?_) (fun hsp => ?_); ((fail_if_success (cases hsp; done)); simp only [hsp]; (try first | have hsq : _ < _ := of_decide_eq_true hsp | have hsq : _ ≤ _ := of_decide_eq_true hsp | have hsq : ¬ _ < _ := of_decide_eq_false hsp | have hsq : ¬ _ ≤ _ := of_decide_eq_false hsp)); rotate_left; ((fail_if_success (cases hsp; done)); simp only [hsp]; (try first | have hsq : _ < _ := of_decide_eq_true hsp | have hsq : _ ≤ _ := of_decide_eq_true hsp | have hsq : ¬ _ < _ := of_decide_eq_false hsp | have hsq : ¬ _ ≤ _ := of_decide_eq_false hsp))))); (all_goals (refine wpQuiet_nil ?_; intro x))))
        all_goals first
          | (go_ret; exact ⟨ret_bool (tbl_ok dHD.out (by simpa using hsp)).symm, (by first | exact hE | exact hE.ext _ | exact hE.trans (by repeat (first | with_reducible exact Ext.refl _ | with_reducible apply Ext.and | with_reducible apply Ext.drewx | with_reducible apply Ext.alloc | with_reducible apply Ext.ext | with_reducible apply Ext.drew | with_reducible refine Ext.setCell ?_ (by simp) _)))⟩)
          | (go_ret; exact ⟨ret_bool (tbl_lt pHD.out dHD.out (by assumption)).symm, (by first | exact hE | exact hE.ext _ | exact hE.trans (by repeat (first | with_reducible exact Ext.refl _ | with_reducible apply Ext.and | with_reducible apply Ext.drewx | with_reducible apply Ext.alloc | with_reducible apply Ext.ext | with_reducible apply Ext.drew | with_reducible refine Ext.setCell ?_ (by simp) _)))⟩)
          | (go_roundw; (case rel => exact ⟨j + 1 + 1, by omega, by go_num, (by first | exact hE | exact hE.ext _ | exact hE.trans (by repeat (first | with_reducible exact Ext.refl _ | with_reducible apply Ext.and | with_reducible apply Ext.drewx | with_reducible apply Ext.alloc | with_reducible apply Ext.ext | with_reducible apply Ext.drew | with_reducible refine Ext.setCell ?_ (by simp) _))), HT.out.succ pHD.out dHD.out (by simpa using hsp) (decide_eq_true (by omega))⟩); (case measure => simp [intOf]; omega))
    · obtain rfl : len = k := by omega
      go_wp2_with (first | ((first | with_reducible refine wp_region_qe (by kernel_rfl) (by kernel_rfl) ?_ | with_reducible refine wp_region_q (by kernel_rfl) (by kernel_rfl) ?_); (repeat' (first | go_big_quiet_step (fail) | (refine wpQuiet_split rfl rfl rfl rfl (fun hsp => ?_) (fun hsp => ?_); ((fail_if_success (cases hsp; done)); simp only [hsp]; (try first | have hsq : _ < _ := of_decide_eq_true hsp | have hsq : _ ≤ _ := of_decide_eq_true hsp | have hsq : ¬ _ < _ := of_decide_eq_false hsp | have hsq : ¬ _ ≤ _ := of_decide_eq_false hsp)); rotate_left; ((fail_if_success (cases hsp; done)); simp only [hsp]; (try first | have hsq : _ < _ := of_decide_eq_true hsp | have hsq : _ ≤ _ := of_decide_eq_true hsp | have hsq : ¬ _ < _ := of_decide_eq_false hsp | have hsq : ¬ _ ≤ _ := of_decide_eq_false hsp))))); (all_goals (refine wpQuiet_nil ?_; intro x))))
      go_ret
      exact ⟨ret_bool (by rw [tbl_end HT.out HL.out, HL.out]; exact decide_eq_decide.2 (by omega)), (by first | exact hE | exact hE.ext _ | exact hE.trans (by repeat (first | with_reducible exact Ext.refl _ | with_reducible apply Ext.and | with_reducible apply Ext.drewx | with_reducible apply Ext.alloc | with_reducible apply Ext.ext | with_reducible apply Ext.drew | with_reducible refine Ext.setCell ?_ (by simp) _)))⟩


set_option maxHeartbeats 1000000 in
theorem iTableOk_any (a : Option Addr) (len cap : Nat) (t : List En) (w : World) (h : SlRd w a len cap t) :
    Calls Tryd.prog 44 #[.slice a len cap] w fun e w' => e = .returned (.bool (tbl t)) ∧ Ext w w' := by
  have hm := h.2.2.1
  have hlc := h.2.1
  have HL := hidden h.1
  unfold maxLen at hm
  by_cases hmany : 12 < len
  · go_enter Tryd.func44, Tryd.ntmps44
    go_wp2_with (first | ((first | with_reducible refine wp_region_qe (by kernel_rfl) (by kernel_rfl) ?_ | with_reducible refine wp_region_q (by kernel_rfl) (by kernel_rfl) ?_); (repeat' (first | go_big_quiet_step (fail) | (refine wpQuiet_split rfl rfl rfl rfl (fun hsp => ?_) (fun hsp => ?_); ((fail_if_success (cases hsp; done)); simp only [hsp]; (try first | have hsq : _ < _ := of_decide_eq_true hsp | have hsq : _ ≤ _ := of_decide_eq_true hsp | have hsq : ¬ _ < _ := of_decide_eq_false hsp | have hsq : ¬ _ ≤ _ := of_decide_eq_false hsp)); rotate_left; ((fail_if_success (cases hsp; done)); simp only [hsp]; (try first | have hsq : _ < _ := of_decide_eq_true hsp | have hsq : _ ≤ _ := of_decide_eq_true hsp | have hsq : ¬ _ < _ := of_decide_eq_false hsp | have hsq : ¬ _ ≤ _ := of_decide_eq_false hsp))))); (all_goals (refine wpQuiet_nil ?_; intro x))))
    go_ret
    exact ⟨ret_bool (tbl_many (by rw [HL.out]; exact hmany)).symm, Ext.refl _⟩
  go_enter Tryd.func44, Tryd.ntmps44
  go_wp2_with fail
  go_loopw [10] (fun i wr => ∃ k : Nat, k ≤ len ∧ i = .int .i64 k ∧ Ext w wr ∧ Hid (AscK enOk elt t k)) (fun i _ => len - (intOf i).toNat)
  case atStart => exact ⟨0, Nat.zero_le _, rfl, Ext.refl _, AscK.zero⟩
  case round =>
    obtain ⟨k, hk, rfl, hE, HT⟩ := hrel
    by_cases hlt : k < len
    · obtain ⟨d, dhd, db, doff, dys, rfl, dhys, dhcell, dhrd⟩ := h.at hE hlt
      obtain ⟨rfl, dg0, dg1, dg2⟩ := dhrd
      have dc0 : wr.cell? ⟨db, doff + k * 3, none⟩ = some _ := dhcell 0 _ rfl
      have dc1 : wr.cell? ⟨db, doff + k * 3 + 1, none⟩ = some _ := dhcell 1 _ rfl
      have dc2 : wr.cell? ⟨db, doff + k * 3 + 2, none⟩ = some _ := dhcell 2 _ rfl
      have dlb := cell_lt dc0
      have dHD := hidden dhd
      clear dhcell dhys dhd
      by_cases hk0 : k = 0
      · subst hk0
        simp only [Nat.zero_mul, Nat.add_zero] at dc0 dc1 dc2 dlb
        go_wp2_with (first | (first | (go_at_call 82; (with_reducible refine (entryOk_any d _).mono ?_); rintro _ _ ⟨rfl, x, rfl⟩)) | ((first | with_reducible refine wp_region_qe (by kernel_rfl) (by kernel_rfl) ?_ | with_reducible refine wp_region_q (by kernel_rfl) (by kernel_rfl) ?_); (repeat' (first | go_big_quiet_step ((first | (go_at_call 82; first | with_reducible exact Calls.qb (by assumption) (entryOk_any d _) | with_reducible exact Calls.q (entryOk_any d _)))) | (refine wpQuiet_split rfl rfl rfl rfl (fun hsp => ?_) (fun hsp => ?_); ((fail_if_success (cases hsp; done)); simp only [hsp]; (try first | have hsq : _ < _ := of_decide_eq_true hsp | have hsq : _ ≤ _ := of_decide_eq_true hsp | have hsq : ¬ _ < _ := of_decide_eq_false hsp | have hsq : ¬ _ ≤ _ := of_decide_eq_false hsp)); rotate_left; ((fail_if_success (cases hsp; done)); simp only [hsp]; (try first | have hsq : _ < _ := of_decide_eq_true hsp | have hsq : _ ≤ _ := of_decide_eq_true hsp | have hsq : ¬ _ < _ := of_decide_eq_false hsp | have hsq : ¬ _ ≤ _ := of_decide_eq_false hsp))))); (all_goals (refine wpQuiet_nil ?_; intro x))))
        all_goals first
          | (go_ret; exact ⟨ret_bool (tbl_ok dHD.out (by simpa using hsp)).symm, (by first | exact hE | exact hE.ext _ | exact hE.trans (by repeat (first | with_reducible exact Ext.refl _ | with_reducible apply Ext.and | with_reducible apply Ext.drewx | with_reducible apply Ext.alloc | with_reducible apply Ext.ext | with_reducible apply Ext.drew | with_reducible refine Ext.setCell ?_ (by simp) _)))⟩)
          | (go_roundw; (case rel => exact ⟨1, by omega, by go_num, (by first | exact hE | exact hE.ext _ | exact hE.trans (by repeat (first | with_reducible exact Ext.refl _ | with_reducible apply Ext.and | with_reducible apply Ext.drewx | with_reducible apply Ext.alloc | with_reducible apply Ext.ext | with_reducible apply Ext.drew | with_reducible refine Ext.setCell ?_ (by simp) _))), AscK.one dHD.out (by simpa using hsp)⟩); (case measure => simp [intOf]; omega))
      · obtain ⟨j, rfl⟩ : ∃ j, k = j + 1 := ⟨k - 1, by omega⟩
        obtain ⟨p, phd, pb, poff, pys, phbb, phys, phcell, phrd⟩ := h.at hE (show j < len by omega)
        obtain ⟨rfl, rfl⟩ : db = pb ∧ doff = poff := by simpa using phbb
        obtain ⟨rfl, pg0, pg1, pg2⟩ := phrd
        have pc0 : wr.cell? ⟨db, doff + j * 3, none⟩ = some _ := phcell 0 _ rfl
        have pc1 : wr.cell? ⟨db, doff + j * 3 + 1, none⟩ = some _ := phcell 1 _ rfl
        have pc2 : wr.cell? ⟨db, doff + j * 3 + 2, none⟩ = some _ := phcell 2 _ rfl
        have plb := cell_lt pc0
        have pHD := hidden phd
        clear phcell phys phd
        have hpr : rok p.r.f p.r.b = true := enOk_rok (HT.out.1 j p (by omega) pHD.out)
        go_wp2_with (first | (first | (go_at_call 82; (with_reducible refine (entryOk_any d _).mono ?_); rintro _ _ ⟨rfl, x, rfl⟩) | (go_at_call 83; (with_reducible refine (iRangeCmp_rc p.r d.r _ hpr (enOk_rok (by simpa using hsp))).mono ?_); rintro _ _ ⟨rfl, x, rfl⟩)) | ((first | with_reducible refine wp_region_qe (by kernel_rfl) (by kernel_rfl) ?_ | with_reducible refine wp_region_q (by kernel_rfl) (by kernel_rfl) ?_); (repeat' (first | go_big_quiet_step ((first | (go_at_call 82; first | with_reducible exact Calls.qb (by assumption) (entryOk_any d _) | with_reducible exact Calls.q (entryOk_any d _)) | (go_at_call 83; first | with_reducible exact Calls.qb (by assumption) (iRangeCmp_rc p.r d.r _ hpr (enOk_rok (by simpa using hsp))) | with_reducible exact Calls.q (iRangeCmp_rc p.r d.r _ hpr (enOk_rok (by simpa using hsp)))))) | (refine wpQuiet_split rfl rfl rfl rfl (fun hsp => ?_) (fun hsp => ?_); ((fail_if_success (cases hsp; done)); simp only [hsp]; (try first | have hsq : _ < _ := of_decide_eq_true hsp | have hsq : _ ≤ _ := of_decide_eq_true hsp | have hsq : ¬ _ < _ := of_decide_eq_false hsp | have hsq : ¬ _ ≤ _ := of_decide_eq_false hsp)); rotate_left; ((fail_if_success (cases hsp; done)); simp only [hsp]; (try first | have hsq : _ < _ := of_decide_eq_true hsp | have hsq : _ ≤ _ := of_decide_eq_true hsp | have hsq : ¬ _ < _ := of_decide_eq_false hsp | have hsq : ¬ _ ≤ _ := of_decide_eq_false hsp))))); (all_goals (refine wpQuiet_nil ?_; intro x))))
        all_goals first
          | (go_ret; exact ⟨ret_bool (tbl_ok dHD.out (by simpa using hsp)).symm, (by first | exact hE | exact hE.ext _ | exact hE.trans (by repeat (first | with_reducible exact Ext.refl _ | with_reducible apply Ext.and | with_reducible apply Ext.drewx | with_reducible apply Ext.alloc | with_reducible apply Ext.ext | with_reducible apply Ext.drew | with_reducible refine Ext.setCell ?_ (by simp) _)))⟩)
          | (go_ret; exact ⟨ret_bool (tbl_lt pHD.out dHD.out (by assumption)).symm, (by first | exact hE | exact hE.ext _ | exact hE.trans (by repeat (first | with_reducible exact Ext.refl _ | with_reducible apply Ext.and | with_reducible apply Ext.drewx | with_reducible apply Ext.alloc | with_reducible apply Ext.ext | with_reducible apply Ext.drew | with_reducible refine Ext.setCell ?_ (by simp) _)))⟩)
          | (go_roundw; (case rel => exact ⟨j + 1 + 1, by omega, by go_num, (by first | exact hE | exact hE.ext _ | exact hE.trans (by repeat (first | with_reducible exact Ext.refl _ | with_reducible apply Ext.and | with_reducible apply Ext.drewx | with_reducible apply Ext.alloc | with_reducible apply Ext.ext | with_reducible apply Ext.drew | with_reducible refine Ext.setCell ?_ (by simp) _))), HT.out.succ pHD.out dHD.out (by simpa using hsp) (decide_eq_true (by omega))⟩); (case measure => simp [intOf]; omega))
    · obtain rfl : len = k := by omega
      go_wp2_with (first | ((first | with_reducible refine wp_region_qe (by kernel_rfl) (by kernel_rfl) ?_ | with_reducible refine wp_region_q (by kernel_rfl) (by kernel_rfl) ?_); (repeat' (first | go_big_quiet_step (fail) | (refine wpQuiet_split rfl rfl rfl rfl (fun hsp => ?_) (fun hsp => ?_); ((fail_if_success (cases hsp; done)); simp only [hsp]; (try first | have hsq : _ < _ := of_decide_eq_true hsp | have hsq : _ ≤ _ := of_decide_eq_true hsp | have hsq : ¬ _ < _ := of_decide_eq_false hsp | have hsq : ¬ _ ≤ _ := of_decide_eq_false hsp)); rotate_left; ((fail_if_success (cases hsp; done)); simp only [hsp]; (try first | have hsq : _ < _ := of_decide_eq_true hsp | have hsq : _ ≤ _ := of_decide_eq_true hsp | have hsq : ¬ _ < _ := of_decide_eq_false hsp | have hsq : ¬ _ ≤ _ := of_decide_eq_false hsp))))); (all_goals (refine wpQuiet_nil ?_; intro x))))
      go_ret
      exact ⟨ret_bool (by rw [tbl_end HT.out HL.out, HL.out]; first | exact decide_eq_decide.2 (by omega) | exact (decide_eq_true (by omega)).symm), (by first | exact hE | exact hE.ext _ | exact hE.trans (by repeat (first | with_reducible exact Ext.refl _ | with_reducible apply Ext.and | with_reducible apply Ext.drewx | with_reducible apply Ext.alloc | with_reducible apply Ext.ext | with_reducible apply Ext.drew | with_reducible refine Ext.setCell ?_ (by simp) _)))⟩

end Go.Proofs.YtjeofgalgfopdaaDoor
