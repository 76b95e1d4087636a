/- Routes: which are valid; route lists. No condition. -/
import Derived.Test.YtlinngelibpihaaDoorPathI
import Derived.Test.YtlinngelibpihaaDoorRc
namespace Go.Proofs.YtlinngelibpihaaDoor
open Go Go.RowKit

def markB (n : Int) : Bool := inB n 1 9
def markLt (a b : Int) : Bool := decide (a < b)
noncomputable def marksB (l : List Int) : Bool := ascB markB markLt l

set_option maxHeartbeats 1000000 in
theorem l4Marks_any (a : Option Addr) (len cap : Nat) (l : List Int) (w : World) (h : SlRd w a len cap l) :
    Calls Tryd.prog 64 #[.slice a len cap] w fun e w' => e = .returned (.bool (marksB l)) ∧ Ext w w' := by
  have hm := h.2.2.1
  have hlc := h.2.1
  have HL := hidden h.1
  unfold maxLen at hm
  go_enter Tryd.func64, Tryd.ntmps64
  go_wp2_with fail
  go_loopw [3] (fun i wr => ∃ k : Nat, k ≤ len ∧ i = .int .i64 k ∧ Ext w wr ∧ Hid (AscK markB markLt l k)) (fun i _ => len - (intOf i).toNat)
  case atStart => exact ⟨0, Nat.zero_le _, rfl, Ext.refl _, AscK.zero⟩
  case round =>
    obtain ⟨k, hk, rfl, hE, HT⟩ := hrel
    by_cases hlt : k < len
    · obtain ⟨d, dhd, db, doff, dys, rfl, dhys, dhcell, dhrd⟩ := h.at hE hlt
      obtain ⟨rfl, dg0⟩ := dhrd
      have dc0 : wr.cell? ⟨db, doff + k, none⟩ = some (.int .i64 d) := by have := dhcell 0 _ rfl; simpa [Lay.n] using this
      have dlb := cell_lt dc0
      have dHD := hidden dhd
      clear dhcell dhys dhd
      by_cases hk0 : k = 0
      · subst hk0
        simp only [Nat.add_zero] at dc0 dlb
        go_wp2_with (first | (first | (go_at_call 63; (with_reducible refine (l6In_any _ _ _ _).mono ?_); rintro _ _ ⟨rfl, x, rfl⟩)) | ((first | with_reducible refine wp_region_qe (by kernel_rfl) (by kernel_rfl) ?_ | with_reducible refine wp_region_q (by kernel_rfl) (by kernel_rfl) ?_); (repeat' (first | go_big_quiet_step ((first | (go_at_call 63; first | with_reducible exact Calls.qb (by assumption) (l6In_any _ _ _ _) | with_reducible exact Calls.q (l6In_any _ _ _ _)))) | (refine wpQuiet_split rfl rfl rfl rfl (fun hsp => ?_) (fun hsp => ?_); ((fail_if_success (cases hsp; done)); simp only [hsp]; (try first | have hsq : _ < _ := of_decide_eq_true hsp | have hsq : _ ≤ _ := of_decide_eq_true hsp | have hsq : ¬ _ < _ := of_decide_eq_false hsp | have hsq : ¬ _ ≤ _ := of_decide_eq_false hsp)); rotate_left; ((fail_if_success (cases hsp; done)); simp only [hsp]; (try first | have hsq : _ < _ := of_decide_eq_true hsp | have hsq : _ ≤ _ := of_decide_eq_true hsp | have hsq : ¬ _ < _ := of_decide_eq_false hsp | have hsq : ¬ _ ≤ _ := of_decide_eq_false hsp))))); (all_goals (refine wpQuiet_nil ?_; intro x))))
        all_goals first
          | (go_ret; exact ⟨ret_bool (ascB_ok dHD.out (by simpa [markB] using hsp)).symm, (by first | exact hE | exact hE.ext _ | exact hE.trans (by repeat (first | with_reducible exact Ext.refl _ | with_reducible apply Ext.and | with_reducible apply Ext.drewx | with_reducible apply Ext.alloc | with_reducible apply Ext.ext | with_reducible apply Ext.drew | with_reducible refine Ext.setCell ?_ (by simp) _)))⟩)
          | (go_roundw; (case rel => exact ⟨1, by omega, by go_num, (by first | exact hE | exact hE.ext _ | exact hE.trans (by repeat (first | with_reducible exact Ext.refl _ | with_reducible apply Ext.and | with_reducible apply Ext.drewx | with_reducible apply Ext.alloc | with_reducible apply Ext.ext | with_reducible apply Ext.drew | with_reducible refine Ext.setCell ?_ (by simp) _))), AscK.one dHD.out (by simpa [markB] using hsp)⟩); (case measure => simp [intOf]; omega))
      · obtain ⟨j, rfl⟩ : ∃ j, k = j + 1 := ⟨k - 1, by omega⟩
        obtain ⟨p, phd, pb, poff, pys, phbb, phys, phcell, phrd⟩ := h.at hE (show j < len by omega)
        obtain ⟨rfl, rfl⟩ : db = pb ∧ doff = poff := by simpa using phbb
        obtain ⟨rfl, pg0⟩ := phrd
        have pc0 : wr.cell? ⟨db, doff + j, none⟩ = some (.int .i64 p) := by have := phcell 0 _ rfl; simpa [Lay.n] using this
        have plb := cell_lt pc0
        have pHD := hidden phd
        clear phcell phys phd
        go_wp2_with (first | (first | (go_at_call 63; (with_reducible refine (l6In_any _ _ _ _).mono ?_); rintro _ _ ⟨rfl, x, rfl⟩)) | ((first | with_reducible refine wp_region_qe (by kernel_rfl) (by kernel_rfl) ?_ | with_reducible refine wp_region_q (by kernel_rfl) (by kernel_rfl) ?_); (repeat' (first | go_big_quiet_step ((first | (go_at_call 63; first | with_reducible exact Calls.qb (by assumption) (l6In_any _ _ _ _) | with_reducible exact Calls.q (l6In_any _ _ _ _)))) | (refine wpQuiet_split rfl rfl rfl rfl (fun hsp => ?_) (fun hsp => ?_); ((fail_if_success (cases hsp; done)); simp only [hsp]; (try first | have hsq : _ < _ := of_decide_eq_true hsp | have hsq : _ ≤ _ := of_decide_eq_true hsp | have hsq : ¬ _ < _ := of_decide_eq_false hsp | have hsq : ¬ _ ≤ _ := of_decide_eq_false hsp)); rotate_left; ((fail_if_success (cases hsp; done)); simp only [hsp]; (try first | have hsq : _ < _ := of_decide_eq_true hsp | have hsq : _ ≤ _ := of_decide_eq_true hsp | have hsq : ¬ _ < _ := of_decide_eq_false hsp | have hsq : ¬ _ ≤ _ := of_decide_eq_false hsp))))); (all_goals (refine wpQuiet_nil ?_; intro x))))
        all_goals first
          | (go_ret; exact ⟨ret_bool (ascB_ok dHD.out (by simpa [markB] using hsp)).symm, (by first | exact hE | exact hE.ext _ | exact hE.trans (by repeat (first | with_reducible exact Ext.refl _ | with_reducible apply Ext.and | with_reducible apply Ext.drewx | with_reducible apply Ext.alloc | with_reducible apply Ext.ext | with_reducible apply Ext.drew | with_reducible refine Ext.setCell ?_ (by simp) _)))⟩)
          | (go_ret; exact ⟨ret_bool (ascB_lt pHD.out dHD.out (decide_eq_false (by omega))).symm, (by first | exact hE | exact hE.ext _ | exact hE.trans (by repeat (first | with_reducible exact Ext.refl _ | with_reducible apply Ext.and | with_reducible apply Ext.drewx | with_reducible apply Ext.alloc | with_reducible apply Ext.ext | with_reducible apply Ext.drew | with_reducible refine Ext.setCell ?_ (by simp) _)))⟩)
          | (go_roundw; (case rel => exact ⟨j + 1 + 1, by omega, by go_num, (by first | exact hE | exact hE.ext _ | exact hE.trans (by repeat (first | with_reducible exact Ext.refl _ | with_reducible apply Ext.and | with_reducible apply Ext.drewx | with_reducible apply Ext.alloc | with_reducible apply Ext.ext | with_reducible apply Ext.drew | with_reducible refine Ext.setCell ?_ (by simp) _))), HT.out.succ pHD.out dHD.out (by simpa [markB] using hsp) (decide_eq_true (by omega))⟩); (case measure => simp [intOf]; omega))
    · obtain rfl : len = k := by omega
      go_wp2_with (first | ((first | with_reducible refine wp_region_qe (by kernel_rfl) (by kernel_rfl) ?_ | with_reducible refine wp_region_q (by kernel_rfl) (by kernel_rfl) ?_); (repeat' (first | go_big_quiet_step (fail) | (refine wpQuiet_split rfl rfl rfl rfl (fun hsp => ?_) (fun hsp => ?_); ((fail_if_success (cases hsp; done)); simp only [hsp]; (try first | have hsq : _ < _ := of_decide_eq_true hsp | have hsq : _ ≤ _ := of_decide_eq_true hsp | have hsq : ¬ _ < _ := of_decide_eq_false hsp | have hsq : ¬ _ ≤ _ := of_decide_eq_false hsp)); rotate_left; ((fail_if_success (cases hsp; done)); simp only [hsp]; (try first | have hsq : _ < _ := of_decide_eq_true hsp | have hsq : _ ≤ _ := of_decide_eq_true hsp | have hsq : ¬ _ < _ := of_decide_eq_false hsp | have hsq : ¬ _ ≤ _ := of_decide_eq_false hsp))))); (all_goals (refine wpQuiet_nil ?_; intro x))))
      go_ret
      exact ⟨ret_bool (ascB_all HT.out HL.out).symm, (by first | exact hE | exact hE.ext _ | exact hE.trans (by repeat (first | with_reducible exact Ext.refl _ | with_reducible apply Ext.and | with_reducible apply Ext.drewx | with_reducible apply Ext.alloc | with_reducible apply Ext.ext | with_reducible apply Ext.drew | with_reducible refine Ext.setCell ?_ (by simp) _)))⟩

set_option maxHeartbeats 1000000 in
theorem marksOk_any (a : Option Addr) (len cap : Nat) (l : List Int) (w : World) (h : SlRd w a len cap l) :
    Calls Tryd.prog 85 #[.slice a len cap] w fun e w' => e = .returned (.bool (marksB l)) ∧ Ext w w' := by
  have hm := h.2.2.1
  have hlc := h.2.1
  have HL := hidden h.1
  unfold maxLen at hm
  go_enter Tryd.func85, Tryd.ntmps85
  go_wp2_with fail
  go_loopw [7] (fun i wr => ∃ k : Nat, k ≤ len ∧ i = .int .i64 k ∧ Ext w wr ∧ Hid (AscK markB markLt l k)) (fun i _ => len - (intOf i).toNat)
  case atStart => exact ⟨0, Nat.zero_le _, rfl, Ext.refl _, AscK.zero⟩
  case round =>
    obtain ⟨k, hk, rfl, hE, HT⟩ := hrel
    by_cases hlt : k < len
    · obtain ⟨d, dhd, db, doff, dys, rfl, dhys, dhcell, dhrd⟩ := h.at hE hlt
      obtain ⟨rfl, dg0⟩ := dhrd
      have dc0 : wr.cell? ⟨db, doff + k, none⟩ = some (.int .i64 d) := by have := dhcell 0 _ rfl; simpa [Lay.n] using this
      have dlb := cell_lt dc0
      have dHD := hidden dhd
      clear dhcell dhys dhd
      cases hb : inB d 1 9
      · go_wp2_with (first | (first | (go_at_call 101; (with_reducible refine (isMark_any _ _).mono ?_); rintro _ _ ⟨rfl, x, rfl⟩)) | ((first | with_reducible refine wp_region_qe (by kernel_rfl) (by kernel_rfl) ?_ | with_reducible refine wp_region_q (by kernel_rfl) (by kernel_rfl) ?_); (repeat' (first | go_big_quiet_step ((first | (go_at_call 101; first | with_reducible exact Calls.qb (by assumption) (isMark_any _ _) | with_reducible exact Calls.q (isMark_any _ _)))) | (refine wpQuiet_split rfl rfl rfl rfl (fun hsp => ?_) (fun hsp => ?_); ((fail_if_success (cases hsp; done)); simp only [hsp]; (try first | have hsq : _ < _ := of_decide_eq_true hsp | have hsq : _ ≤ _ := of_decide_eq_true hsp | have hsq : ¬ _ < _ := of_decide_eq_false hsp | have hsq : ¬ _ ≤ _ := of_decide_eq_false hsp)); rotate_left; ((fail_if_success (cases hsp; done)); simp only [hsp]; (try first | have hsq : _ < _ := of_decide_eq_true hsp | have hsq : _ ≤ _ := of_decide_eq_true hsp | have hsq : ¬ _ < _ := of_decide_eq_false hsp | have hsq : ¬ _ ≤ _ := of_decide_eq_false hsp))))); (all_goals (refine wpQuiet_nil ?_; intro x))))
        go_ret
        exact ⟨ret_bool (ascB_ok dHD.out hb).symm, (by first | exact hE | exact hE.ext _ | exact hE.trans (by repeat (first | with_reducible exact Ext.refl _ | with_reducible apply Ext.and | with_reducible apply Ext.drewx | with_reducible apply Ext.alloc | with_reducible apply Ext.ext | with_reducible apply Ext.drew | with_reducible refine Ext.setCell ?_ (by simp) _)))⟩
      by_cases hk0 : k = 0
      · subst hk0
        simp only [Nat.add_zero] at dc0 dlb
        go_wp2_with (first | (first | (go_at_call 101; (with_reducible refine (isMark_any _ _).mono ?_); rintro _ _ ⟨rfl, x, rfl⟩)) | ((first | with_reducible refine wp_region_qe (by kernel_rfl) (by kernel_rfl) ?_ | with_reducible refine wp_region_q (by kernel_rfl) (by kernel_rfl) ?_); (repeat' (first | go_big_quiet_step ((first | (go_at_call 101; first | with_reducible exact Calls.qb (by assumption) (isMark_any _ _) | with_reducible exact Calls.q (isMark_any _ _)))) | (refine wpQuiet_split rfl rfl rfl rfl (fun hsp => ?_) (fun hsp => ?_); ((fail_if_success (cases hsp; done)); simp only [hsp]; (try first | have hsq : _ < _ := of_decide_eq_true hsp | have hsq : _ ≤ _ := of_decide_eq_true hsp | have hsq : ¬ _ < _ := of_decide_eq_false hsp | have hsq : ¬ _ ≤ _ := of_decide_eq_false hsp)); rotate_left; ((fail_if_success (cases hsp; done)); simp only [hsp]; (try first | have hsq : _ < _ := of_decide_eq_true hsp | have hsq : _ ≤ _ := of_decide_eq_true hsp | have hsq : ¬ _ < _ := of_decide_eq_false hsp | have hsq : ¬ _ ≤ _ := of_decide_eq_false hsp))))); (all_goals (refine wpQuiet_nil ?_; intro x))))
        go_roundw
        case rel => exact ⟨1, by omega, by go_num, (by first | exact hE | exact hE.ext _ | exact hE.trans (by repeat (first | with_reducible exact Ext.refl _ | with_reducible apply Ext.and | with_reducible apply Ext.drewx | with_reducible apply Ext.alloc | with_reducible apply Ext.ext | with_reducible apply Ext.drew | with_reducible refine Ext.setCell ?_ (by simp) _))), AscK.one dHD.out hb⟩
        case measure => simp [intOf]; omega
      · obtain ⟨j, rfl⟩ : ∃ j, k = j + 1 := ⟨k - 1, by omega⟩
        obtain ⟨p, phd, pb, poff, pys, phbb, phys, phcell, phrd⟩ := h.at hE (show j < len by omega)
        obtain ⟨rfl, rfl⟩ : db = pb ∧ doff = poff := by simpa using phbb
        obtain ⟨rfl, pg0⟩ := phrd
        have pc0 : wr.cell? ⟨db, doff + j, none⟩ = some (.int .i64 p) := by have := phcell 0 _ rfl; simpa [Lay.n] using this
        have plb := cell_lt pc0
        have pHD := hidden phd
        clear phcell phys phd
        by_cases hq : d ≤ p
        · go_wp2_with (first | (first | (go_at_call 101; (with_reducible refine (isMark_any _ _).mono ?_); rintro _ _ ⟨rfl, x, rfl⟩)) | ((first | with_reducible refine wp_region_qe (by kernel_rfl) (by kernel_rfl) ?_ | with_reducible refine wp_region_q (by kernel_rfl) (by kernel_rfl) ?_); (repeat' (first | go_big_quiet_step ((first | (go_at_call 101; first | with_reducible exact Calls.qb (by assumption) (isMark_any _ _) | with_reducible exact Calls.q (isMark_any _ _)))) | (refine wpQuiet_split rfl rfl rfl rfl (fun hsp => ?_) (fun hsp => ?_); ((fail_if_success (cases hsp; done)); simp only [hsp]; (try first | have hsq : _ < _ := of_decide_eq_true hsp | have hsq : _ ≤ _ := of_decide_eq_true hsp | have hsq : ¬ _ < _ := of_decide_eq_false hsp | have hsq : ¬ _ ≤ _ := of_decide_eq_false hsp)); rotate_left; ((fail_if_success (cases hsp; done)); simp only [hsp]; (try first | have hsq : _ < _ := of_decide_eq_true hsp | have hsq : _ ≤ _ := of_decide_eq_true hsp | have hsq : ¬ _ < _ := of_decide_eq_false hsp | have hsq : ¬ _ ≤ _ := of_decide_eq_false hsp))))); (all_goals (refine wpQuiet_nil ?_; intro x))))
          go_ret
          exact ⟨ret_bool (ascB_lt pHD.out dHD.out (decide_eq_false (by omega))).symm, (by first | exact hE | exact hE.ext _ | exact hE.trans (by repeat (first | with_reducible exact Ext.refl _ | with_reducible apply Ext.and | with_reducible apply Ext.drewx | with_reducible apply Ext.alloc | with_reducible apply Ext.ext | with_reducible apply Ext.drew | with_reducible refine Ext.setCell ?_ (by simp) _)))⟩
        · go_wp2_with (first | (first | (go_at_call 101; (with_reducible refine (isMark_any _ _).mono ?_); rintro _ _ ⟨rfl, x, rfl⟩)) | ((first | with_reducible refine wp_region_qe (by kernel_rfl) (by kernel_rfl) ?_ | with_reducible refine wp_region_q (by kernel_rfl) (by kernel_rfl) ?_); (repeat' (first | go_big_quiet_step ((first | (go_at_call 101; first | with_reducible exact Calls.qb (by assumption) (isMark_any _ _) | with_reducible exact Calls.q (isMark_any _ _)))) | (refine wpQuiet_split rfl rfl rfl rfl (fun hsp => ?_) (fun hsp => ?_); ((fail_if_success (cases hsp; done)); simp only [hsp]; (try first | have hsq : _ < _ := of_decide_eq_true hsp | have hsq : _ ≤ _ := of_decide_eq_true hsp | have hsq : ¬ _ < _ := of_decide_eq_false hsp | have hsq : ¬ _ ≤ _ := of_decide_eq_false hsp)); rotate_left; ((fail_if_success (cases hsp; done)); simp only [hsp]; (try first | have hsq : _ < _ := of_decide_eq_true hsp | have hsq : _ ≤ _ := of_decide_eq_true hsp | have hsq : ¬ _ < _ := of_decide_eq_false hsp | have hsq : ¬ _ ≤ _ := of_decide_eq_false hsp))))); (all_goals (refine wpQuiet_nil ?_; intro x))))
          go_roundw
          case rel => exact ⟨j + 1 + 1, by omega, by go_num, (by first | exact hE | exact hE.ext _ | exact hE.trans (by repeat (first | with_reducible exact Ext.refl _ | with_reducible apply Ext.and | with_reducible apply Ext.drewx | with_reducible apply Ext.alloc | with_reducible apply Ext.ext | with_reducible apply Ext.drew | with_reducible refine Ext.setCell ?_ (by simp) _))), HT.out.succ pHD.out dHD.out hb (decide_eq_true (by omega))⟩
          case measure => simp [intOf]; omega
    · obtain rfl : len = k := by omega
      go_wp2_with (first | ((first | with_reducible refine wp_region_qe (by kernel_rfl) (by kernel_rfl) ?_ | with_reducible refine wp_region_q (by kernel_rfl) (by kernel_rfl) ?_); (repeat' (first | go_big_quiet_step (fail) | (refine wpQuiet_split rfl rfl rfl rfl (fun hsp => ?_) (fun hsp => ?_); ((fail_if_success (cases hsp; done)); simp only [hsp]; (try first | have hsq : _ < _ := of_decide_eq_true hsp | have hsq : _ ≤ _ := of_decide_eq_true hsp | have hsq : ¬ _ < _ := of_decide_eq_false hsp | have hsq : ¬ _ ≤ _ := of_decide_eq_false hsp)); rotate_left; ((fail_if_success (cases hsp; done)); simp only [hsp]; (try first | have hsq : _ < _ := of_decide_eq_true hsp | have hsq : _ ≤ _ := of_decide_eq_true hsp | have hsq : ¬ _ < _ := of_decide_eq_false hsp | have hsq : ¬ _ ≤ _ := of_decide_eq_false hsp))))); (all_goals (refine wpQuiet_nil ?_; intro x))))
      go_ret
      exact ⟨ret_bool (ascB_all HT.out HL.out).symm, (by first | exact hE | exact hE.ext _ | exact hE.trans (by repeat (first | with_reducible exact Ext.refl _ | with_reducible apply Ext.and | with_reducible apply Ext.drewx | with_reducible apply Ext.alloc | with_reducible apply Ext.ext | with_reducible apply Ext.drew | with_reducible refine Ext.setCell ?_ (by simp) _)))⟩

/-- A valid route. -/
noncomputable def rtOk (d : Rt) : Bool := rok d.r.f d.r.b && (pathB d.path && (decide (0 < d.path.length) && (inB d.like 0 9 && marksB d.marks)))

set_option maxHeartbeats 1000000 in
theorem sRouteOk_any (d : Rt) (a1 : Option Addr) (n1 c1 : Nat) (a2 : Option Addr) (n2 c2 : Nat) (w : World) (h1 : SlRd w a1 n1 c1 d.path) (h2 : SlRd w a2 n2 c2 d.marks) :
    Calls Tryd.prog 41 #[.agg #[.int .i64 d.r.f, .int .i64 d.r.b, .slice a1 n1 c1, .int .i64 d.like, .slice a2 n2 c2]] w fun e w' => e = .returned (.bool (rtOk d)) ∧ Ext w w' := by
  have e : rtOk d = (rok d.r.f d.r.b && (pathB d.path && (decide (0 < (n1 : Int)) && (inB d.like 0 9 && marksB d.marks)))) := by
    unfold rtOk; rw [h1.1]; simp
  rw [e]
  clear e
  go_enter Tryd.func41, Tryd.ntmps41
  go_wp2_with (first | (first | (go_at_call 61; (with_reducible refine (sRangeOk_any _ _ _).mono ?_); rintro _ _ ⟨rfl, x, rfl⟩) | (go_at_call 62; (with_reducible refine (sPathOk_any _ _ _ d.path _ (h1.stays ((by repeat (first | with_reducible exact Ext.refl _ | with_reducible apply Ext.and | with_reducible apply Ext.drewx | with_reducible apply Ext.alloc | with_reducible apply Ext.ext | with_reducible apply Ext.drew | with_reducible refine Ext.setCell ?_ (by simp) _)) : Ext _ _).below)).mono ?_); rintro _ _ ⟨rfl, x, rfl⟩) | (go_at_call 63; (with_reducible refine (l6In_any _ _ _ _).mono ?_); rintro _ _ ⟨rfl, x, rfl⟩) | (go_at_call 64; (with_reducible refine (l4Marks_any _ _ _ d.marks _ (h2.stays ((by repeat (first | with_reducible exact Ext.refl _ | with_reducible apply Ext.and | with_reducible apply Ext.drewx | with_reducible apply Ext.alloc | with_reducible apply Ext.ext | with_reducible apply Ext.drew | with_reducible refine Ext.setCell ?_ (by simp) _)) : Ext _ _).below)).mono ?_); rintro _ _ ⟨rfl, x, rfl⟩)) | ((first | with_reducible refine wp_region_qe (by kernel_rfl) (by kernel_rfl) ?_ | with_reducible refine wp_region_q (by kernel_rfl) (by kernel_rfl) ?_); (repeat' (first | go_big_quiet_step ((first | (go_at_call 61; first | with_reducible exact Calls.qb (by assumption) (sRangeOk_any _ _ _) | with_reducible exact Calls.q (sRangeOk_any _ _ _)) | (go_at_call 62; first | with_reducible exact Calls.qb (by assumption) (sPathOk_any _ _ _ d.path _ (h1.stays ((by repeat (first | with_reducible exact Ext.refl _ | with_reducible apply Ext.and | with_reducible apply Ext.drewx | with_reducible apply Ext.alloc | with_reducible apply Ext.ext | with_reducible apply Ext.drew | with_reducible refine Ext.setCell ?_ (by simp) _)) : Ext _ _).below)) | with_reducible exact Calls.q (sPathOk_any _ _ _ d.path _ (h1.stays ((by repeat (first | with_reducible exact Ext.refl _ | with_reducible apply Ext.and | with_reducible apply Ext.drewx | with_reducible apply Ext.alloc | with_reducible apply Ext.ext | with_reducible apply Ext.drew | with_reducible refine Ext.setCell ?_ (by simp) _)) : Ext _ _).below))) | (go_at_call 63; first | with_reducible exact Calls.qb (by assumption) (l6In_any _ _ _ _) | with_reducible exact Calls.q (l6In_any _ _ _ _)) | (go_at_call 64; first | with_reducible exact Calls.qb (by assumption) (l4Marks_any _ _ _ d.marks _ (h2.stays ((by repeat (first | with_reducible exact Ext.refl _ | with_reducible apply Ext.and | with_reducible apply Ext.drewx | with_reducible apply Ext.alloc | with_reducible apply Ext.ext | with_reducible apply Ext.drew | with_reducible refine Ext.setCell ?_ (by simp) _)) : Ext _ _).below)) | with_reducible exact Calls.q (l4Marks_any _ _ _ d.marks _ (h2.stays ((by repeat (first | with_reducible exact Ext.refl _ | with_reducible apply Ext.and | with_reducible apply Ext.drewx | with_reducible apply Ext.alloc | with_reducible apply Ext.ext | with_reducible apply Ext.drew | with_reducible refine Ext.setCell ?_ (by simp) _)) : Ext _ _).below))))) | (refine wpQuiet_split rfl rfl rfl rfl (fun hsp => ?_) (fun hsp => ?_); ((fail_if_success (cases hsp; done)); simp only [hsp]; (try first | have hsq : _ < _ := of_decide_eq_true hsp | have hsq : _ ≤ _ := of_decide_eq_true hsp | have hsq : ¬ _ < _ := of_decide_eq_false hsp | have hsq : ¬ _ ≤ _ := of_decide_eq_false hsp)); rotate_left; ((fail_if_success (cases hsp; done)); simp only [hsp]; (try first | have hsq : _ < _ := of_decide_eq_true hsp | have hsq : _ ≤ _ := of_decide_eq_true hsp | have hsq : ¬ _ < _ := of_decide_eq_false hsp | have hsq : ¬ _ ≤ _ := of_decide_eq_false hsp))))); (all_goals (refine wpQuiet_nil ?_; intro x))))
  all_goals
    go_ret
    exact ⟨ret_bool (by simp [*]), (by repeat (first | with_reducible exact Ext.refl _ | with_reducible apply Ext.and | with_reducible apply Ext.drewx | with_reducible apply Ext.alloc | with_reducible apply Ext.ext | with_reducible apply Ext.drew | with_reducible refine Ext.setCell ?_ (by simp) _))⟩

set_option maxHeartbeats 1000000 in
theorem iRouteOk_any (ea : Addr) (d : Rt) (a1 : Option Addr) (n1 c1 : Nat) (a2 : Option Addr) (n2 c2 : Nat) (w : World) (h1 : SlRd w a1 n1 c1 d.path) (h2 : SlRd w a2 n2 c2 d.marks) (hp : EP w ea) :
    Calls Tryd.prog 66 #[.agg #[.int .i64 d.r.f, .int .i64 d.r.b, .slice a1 n1 c1, .int .i64 d.like, .slice a2 n2 c2]] w fun e w' => e = .returned (.bool (rtOk d)) ∧ Ext w w' := by
  have e : rtOk d = (rok d.r.f d.r.b && (decide (0 < (n1 : Int)) && (pathB d.path && ((decide (0 ≤ d.like) && decide (d.like ≤ 9)) && marksB d.marks)))) := by
    have e1 : inB d.like 0 9 = (decide (0 ≤ d.like) && decide (d.like ≤ 9)) := by rw [Bool.eq_iff_iff]; simp [inB]
    have e2 : decide (0 < d.path.length) = decide (0 < (n1 : Int)) := by rw [h1.1, decide_eq_decide]; omega
    unfold rtOk; rw [e1, e2]
    cases rok d.r.f d.r.b <;> cases pathB d.path <;> cases decide (0 < (n1 : Int)) <;> simp
  rw [e]
  clear e
  go_enter Tryd.func66, Tryd.ntmps66
  go_wp2_with (first | (first | (go_at_call 54; (with_reducible refine (iRangeOk_any _ _ _).mono ?_); rintro _ _ ⟨rfl, x, rfl⟩) | (go_at_call 57; (with_reducible refine (iPathOk_any ea _ _ _ d.path _ (h1.stays ((by repeat (first | with_reducible exact Ext.refl _ | with_reducible apply Ext.and | with_reducible apply Ext.drewx | with_reducible apply Ext.alloc | with_reducible apply Ext.ext | with_reducible apply Ext.drew | with_reducible refine Ext.setCell ?_ (by simp) _)) : Ext _ _).below) (hp.later (by repeat (first | with_reducible exact Ext.refl _ | with_reducible apply Ext.and | with_reducible apply Ext.drewx | with_reducible apply Ext.alloc | with_reducible apply Ext.ext | with_reducible apply Ext.drew | with_reducible refine Ext.setCell ?_ (by simp) _)))).mono ?_); rintro _ _ ⟨rfl, x, rfl⟩) | (go_at_call 85; (with_reducible refine (marksOk_any _ _ _ d.marks _ (h2.stays ((by repeat (first | with_reducible exact Ext.refl _ | with_reducible apply Ext.and | with_reducible apply Ext.drewx | with_reducible apply Ext.alloc | with_reducible apply Ext.ext | with_reducible apply Ext.drew | with_reducible refine Ext.setCell ?_ (by simp) _)) : Ext _ _).below)).mono ?_); rintro _ _ ⟨rfl, x, rfl⟩)) | ((first | with_reducible refine wp_region_qe (by kernel_rfl) (by kernel_rfl) ?_ | with_reducible refine wp_region_q (by kernel_rfl) (by kernel_rfl) ?_); (repeat' (first | go_big_quiet_step ((first | (go_at_call 54; first | with_reducible exact Calls.qb (by assumption) (iRangeOk_any _ _ _) | with_reducible exact Calls.q (iRangeOk_any _ _ _)) | (go_at_call 57; first | with_reducible exact Calls.qb (by assumption) (iPathOk_any ea _ _ _ d.path _ (h1.stays ((by repeat (first | with_reducible exact Ext.refl _ | with_reducible apply Ext.and | with_reducible apply Ext.drewx | with_reducible apply Ext.alloc | with_reducible apply Ext.ext | with_reducible apply Ext.drew | with_reducible refine Ext.setCell ?_ (by simp) _)) : Ext _ _).below) (hp.later (by repeat (first | with_reducible exact Ext.refl _ | with_reducible apply Ext.and | with_reducible apply Ext.drewx | with_reducible apply Ext.alloc | with_reducible apply Ext.ext | with_reducible apply Ext.drew | with_reducible refine Ext.setCell ?_ (by simp) _)))) | with_reducible exact Calls.q (iPathOk_any ea _ _ _ d.path _ (h1.stays ((by repeat (first | with_reducible exact Ext.refl _ | with_reducible apply Ext.and | with_reducible apply Ext.drewx | with_reducible apply Ext.alloc | with_reducible apply Ext.ext | with_reducible apply Ext.drew | with_reducible refine Ext.setCell ?_ (by simp) _)) : Ext _ _).below) (hp.later (by repeat (first | with_reducible exact Ext.refl _ | with_reducible apply Ext.and | with_reducible apply Ext.drewx | with_reducible apply Ext.alloc | with_reducible apply Ext.ext | with_reducible apply Ext.drew | with_reducible refine Ext.setCell ?_ (by simp) _))))) | (go_at_call 85; first | with_reducible exact Calls.qb (by assumption) (marksOk_any _ _ _ d.marks _ (h2.stays ((by repeat (first | with_reducible exact Ext.refl _ | with_reducible apply Ext.and | with_reducible apply Ext.drewx | with_reducible apply Ext.alloc | with_reducible apply Ext.ext | with_reducible apply Ext.drew | with_reducible refine Ext.setCell ?_ (by simp) _)) : Ext _ _).below)) | with_reducible exact Calls.q (marksOk_any _ _ _ d.marks _ (h2.stays ((by repeat (first | with_reducible exact Ext.refl _ | with_reducible apply Ext.and | with_reducible apply Ext.drewx | with_reducible apply Ext.alloc | with_reducible apply Ext.ext | with_reducible apply Ext.drew | with_reducible refine Ext.setCell ?_ (by simp) _)) : Ext _ _).below))))) | (refine wpQuiet_split rfl rfl rfl rfl (fun hsp => ?_) (fun hsp => ?_); ((fail_if_success (cases hsp; done)); simp only [hsp]; (try first | have hsq : _ < _ := of_decide_eq_true hsp | have hsq : _ ≤ _ := of_decide_eq_true hsp | have hsq : ¬ _ < _ := of_decide_eq_false hsp | have hsq : ¬ _ ≤ _ := of_decide_eq_false hsp)); rotate_left; ((fail_if_success (cases hsp; done)); simp only [hsp]; (try first | have hsq : _ < _ := of_decide_eq_true hsp | have hsq : _ ≤ _ := of_decide_eq_true hsp | have hsq : ¬ _ < _ := of_decide_eq_false hsp | have hsq : ¬ _ ≤ _ := of_decide_eq_false hsp))))); (all_goals (refine wpQuiet_nil ?_; intro x))))
  all_goals
    go_ret
    exact ⟨ret_bool (by simp [*] <;> (intros; omega)), (by repeat (first | with_reducible exact Ext.refl _ | with_reducible apply Ext.and | with_reducible apply Ext.drewx | with_reducible apply Ext.alloc | with_reducible apply Ext.ext | with_reducible apply Ext.drew | with_reducible refine Ext.setCell ?_ (by simp) _))⟩

/-- A valid list of routes. -/
def rtLt (a b : Rt) : Bool := rlt a.r b.r
noncomputable def rtsOk (l : List Rt) : Bool := ascB rtOk rtLt l && decide (l.length ≤ 12)
theorem rtOk_rok {d : Rt} (h : rtOk d = true) : rok d.r.f d.r.b = true := by simp only [rtOk, Bool.and_eq_true] at h; exact h.1
theorem rts_ok {t : List Rt} {k : Nat} {d : Rt} (hd : t[k]? = some d) (h : rtOk d = false) : rtsOk t = false := by
  unfold rtsOk; rw [ascB_ok hd h]; rfl
theorem rts_lt {t : List Rt} {k : Nat} {d p : Rt} (hp : t[k]? = some p) (hd : t[k + 1]? = some d) (h : 0 ≤ rc p.r d.r) : rtsOk t = false := by
  unfold rtsOk; rw [ascB_lt hp hd (show rlt p.r d.r = false from decide_eq_false (by omega))]; rfl
theorem rts_end {t : List Rt} {k : Nat} (h : AscK rtOk rtLt t k) (hk : t.length = k) : rtsOk t = decide (t.length ≤ 12) := by
  unfold rtsOk; rw [ascB_all h hk]; rfl
theorem rts_many {t : List Rt} (h : 12 < t.length) : rtsOk t = false := by
  unfold rtsOk; rw [decide_eq_false (by omega : ¬ t.length ≤ 12), Bool.and_false]

end Go.Proofs.YtlinngelibpihaaDoor
