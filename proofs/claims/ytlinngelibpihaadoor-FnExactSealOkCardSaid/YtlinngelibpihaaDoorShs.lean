/- Whether a seal is among others: what the reference does. No condition. -/
import Derived.Test.YtlinngelibpihaaDoorSmk
import Derived.Test.YtlinngelibpihaaDoorCmpP
import Derived.Test.YtlinngelibpihaaDoorTdropE
namespace Go.Proofs.YtlinngelibpihaaDoor
open Go Go.RowKit

def seIs (s x : Se) : Bool := decide (x.sby = s.sby) && (decide (x.to = s.to) && (decide (x.r = s.r) && decide (x.path = s.path)))
def seHas (l : List Se) (s : Se) : Bool := l.any (seIs s)
theorem lexC_zero : ∀ {l m : List Int}, lexC l m = 0 → l = m
  | [], [], _ => rfl
  | [], _ :: _, h => by simp [lexC] at h
  | _ :: _, [], h => by simp [lexC] at h
  | x :: a, y :: b, h => by
    rw [lexC] at h
    split at h
    · omega
    · split at h
      · omega
      · rw [lexC_zero h, show x = y by omega]
theorem lexC_self : ∀ (l : List Int), lexC l l = 0
  | [] => rfl
  | x :: a => by rw [lexC, if_neg (by omega), if_neg (by omega), lexC_self a]
theorem pcmp_zero {l m : List Int} : pcmp l m = 0 ↔ l = m := by
  constructor
  · intro h
    unfold pcmp at h
    simp only [orL] at h
    split at h
    · split at h
      · exact lexC_zero (by assumption)
      · exact absurd h (by assumption)
    · exact absurd h (by assumption)
  · rintro rfl
    unfold pcmp
    rw [cmpI_eq]
    simp [orL, lexC_self]
theorem seIs_at {s x : Se} : seIs s x = (decide (x.sby = s.sby) && (decide (x.to = s.to) && (decide (x.r = s.r) && (pcmp x.path s.path == 0)))) := by
  unfold seIs
  congr 3
  rw [Bool.eq_iff_iff]
  simp only [decide_eq_true_eq, beq_iff_eq]
  exact pcmp_zero.symm

set_option maxRecDepth 20000 in
set_option maxHeartbeats 4000000 in
theorem l13Has_any (l : List Se) (s : Se) (a : Option Addr) (len cap : Nat) (a1 : Option Addr) (n1 c1 : Nat) (w : World) (h : SlRd w a len cap l) (h1 : SlRd w a1 n1 c1 s.path) :
    Calls Tryd.prog 35 #[.slice a len cap, .agg #[.int .i64 s.sby, .int .i64 s.to, .int .i64 s.r.f, .int .i64 s.r.b, .slice a1 n1 c1]] w fun e w' => e = .returned (.bool (seHas l s)) ∧ Ext w w' := by
  have hm := h.2.2.1
  have hlc := h.2.1
  have HL := hidden h.1
  have H1 := hidden h1
  unfold maxLen at hm
  go_enter Tryd.func35, Tryd.ntmps35
  go_upto_region 1 with fail
  refine wp_name (fun W hW => ?_)
  have hE0 : Ext w W := by rw [hW]; exact (by repeat (first | with_reducible exact Ext.refl _ | with_reducible apply Ext.and | with_reducible apply Ext.drewx | with_reducible apply Ext.alloc | with_reducible apply Ext.ext | with_reducible apply Ext.drew | with_reducible refine Ext.setCell ?_ (by simp) _))
  have BX := hidden (show Blk W w.heap.size 35 [.int .i64 s.sby, .int .i64 s.to, .int .i64 s.r.f, .int .i64 s.r.b, .slice a1 n1 c1] by rw [hW]; exact (Blk.newAt w #[_, _, _, _, _] _ (by simp)).extends (by repeat (first | with_reducible exact Ext.refl _ | with_reducible apply Ext.and | with_reducible apply Ext.drewx | with_reducible apply Ext.alloc | with_reducible apply Ext.ext | with_reducible apply Ext.drew | with_reducible refine Ext.setCell ?_ (by simp) _)))
  clear hW
  go_wp2_with fail
  go_loopw [5] (fun i wr => ∃ k : Nat, k ≤ len ∧ i = .int .i64 k ∧ Ext W wr ∧ Hid ((l.take k).any (seIs s) = false)) (fun i _ => len - (intOf i).toNat)
  case atStart => exact ⟨0, Nat.zero_le _, rfl, (by repeat (first | with_reducible exact Ext.refl _ | with_reducible apply Ext.and | with_reducible apply Ext.drewx | with_reducible apply Ext.alloc | with_reducible apply Ext.ext | with_reducible apply Ext.drew | with_reducible refine Ext.setCell ?_ (by simp) _)), rfl⟩
  case round =>
    obtain ⟨k, hk, rfl, hE1, HT⟩ := hrel
    have hE := hE0.trans hE1
    have BY := hidden (BX.out.extends hE1)
    have x0 := BY.out.cell (j := 0) rfl
    have x1 := BY.out.cell (j := 1) rfl
    have x2 := BY.out.cell (j := 2) rfl
    have x3 := BY.out.cell (j := 3) rfl
    have x4 := BY.out.cell (j := 4) rfl
    have xl := BY.out.lt
    by_cases hlt : k < len
    · obtain ⟨d, dhd, db, doff, dys, rfl, dhys, dhcell, dhrd⟩ := h.at hE hlt
      obtain ⟨da_path, dn_path, dc_path, rfl, dg0, dg1, dg2, dg3, dg4⟩ := dhrd
      have dc0 : wr.cell? ⟨db, doff + k * 5, none⟩ = some _ := dhcell 0 _ rfl
      have dc1 : wr.cell? ⟨db, doff + k * 5 + 1, none⟩ = some _ := dhcell 1 _ rfl
      have dc2 : wr.cell? ⟨db, doff + k * 5 + 2, none⟩ = some _ := dhcell 2 _ rfl
      have dc3 : wr.cell? ⟨db, doff + k * 5 + 3, none⟩ = some _ := dhcell 3 _ rfl
      have dc4 : wr.cell? ⟨db, doff + k * 5 + 4, none⟩ = some _ := dhcell 4 _ rfl
      have dlb := cell_lt dc0
      have dHD := hidden dhd
      clear dhcell dhys dhd
      have HQ := hidden (seIs_at (s := s) (x := d))
      have hne := eqS_Rg d.r s.r
      go_wp2_with (first | (first | (go_at_call 58; (with_reducible refine (l3Cmp_any _ _ _ d.path _ _ _ s.path _ (dg4.stays ((by repeat (first | with_reducible exact Ext.refl _ | with_reducible apply Ext.and | with_reducible apply Ext.drewx | with_reducible apply Ext.alloc | with_reducible apply Ext.ext | with_reducible apply Ext.drew | with_reducible refine Ext.setCell ?_ (by simp) _)) : Ext _ _).below) (H1.out.stays (hE.trans ((by repeat (first | with_reducible exact Ext.refl _ | with_reducible apply Ext.and | with_reducible apply Ext.drewx | with_reducible apply Ext.alloc | with_reducible apply Ext.ext | with_reducible apply Ext.drew | with_reducible refine Ext.setCell ?_ (by simp) _)) : Ext wr _)).below)).mono ?_); rintro _ _ ⟨rfl, x, rfl⟩)) | ((first | with_reducible refine wp_region_qe (by kernel_rfl) (by kernel_rfl) ?_ | with_reducible refine wp_region_q (by kernel_rfl) (by kernel_rfl) ?_); (repeat' (first | go_big_quiet_step ((first | (go_at_call 58; first | with_reducible exact Calls.qb (by assumption) (l3Cmp_any _ _ _ d.path _ _ _ s.path _ (dg4.stays ((by repeat (first | with_reducible exact Ext.refl _ | with_reducible apply Ext.and | with_reducible apply Ext.drewx | with_reducible apply Ext.alloc | with_reducible apply Ext.ext | with_reducible apply Ext.drew | with_reducible refine Ext.setCell ?_ (by simp) _)) : Ext _ _).below) (H1.out.stays (hE.trans ((by repeat (first | with_reducible exact Ext.refl _ | with_reducible apply Ext.and | with_reducible apply Ext.drewx | with_reducible apply Ext.alloc | with_reducible apply Ext.ext | with_reducible apply Ext.drew | with_reducible refine Ext.setCell ?_ (by simp) _)) : Ext wr _)).below)) | with_reducible exact Calls.q (l3Cmp_any _ _ _ d.path _ _ _ s.path _ (dg4.stays ((by repeat (first | with_reducible exact Ext.refl _ | with_reducible apply Ext.and | with_reducible apply Ext.drewx | with_reducible apply Ext.alloc | with_reducible apply Ext.ext | with_reducible apply Ext.drew | with_reducible refine Ext.setCell ?_ (by simp) _)) : Ext _ _).below) (H1.out.stays (hE.trans ((by repeat (first | with_reducible exact Ext.refl _ | with_reducible apply Ext.and | with_reducible apply Ext.drewx | with_reducible apply Ext.alloc | with_reducible apply Ext.ext | with_reducible apply Ext.drew | with_reducible refine Ext.setCell ?_ (by simp) _)) : Ext wr _)).below))))) | (refine wpQuiet_split rfl rfl rfl rfl (fun hsp => ?_) (fun hsp => ?_); ((fail_if_success (cases hsp; done)); simp only [hsp]; (try first | have hsq : _ < _ := of_decide_eq_true hsp | have hsq : _ ≤ _ := of_decide_eq_true hsp | have hsq : ¬ _ < _ := of_decide_eq_false hsp | have hsq : ¬ _ ≤ _ := of_decide_eq_false hsp)); rotate_left; ((fail_if_success (cases hsp; done)); simp only [hsp]; (try first | have hsq : _ < _ := of_decide_eq_true hsp | have hsq : _ ≤ _ := of_decide_eq_true hsp | have hsq : ¬ _ < _ := of_decide_eq_false hsp | have hsq : ¬ _ ≤ _ := of_decide_eq_false hsp))))); (all_goals (refine wpQuiet_nil ?_; intro x))))
      all_goals first
        | (go_ret; exact ⟨ret_bool (any_at dHD.out (by rw [HQ.out]; simp_all)).symm, (by first | exact hE | exact hE.ext _ | exact hE.trans (by repeat (first | with_reducible exact Ext.refl _ | with_reducible apply Ext.and | with_reducible apply Ext.drewx | with_reducible apply Ext.alloc | with_reducible apply Ext.ext | with_reducible apply Ext.drew | with_reducible refine Ext.setCell ?_ (by simp) _)))⟩)
        | (go_roundw; (case rel => exact ⟨k + 1, by omega, by go_num, hE1.trans (by repeat (first | with_reducible exact Ext.refl _ | with_reducible apply Ext.and | with_reducible apply Ext.drewx | with_reducible apply Ext.alloc | with_reducible apply Ext.ext | with_reducible apply Ext.drew | with_reducible refine Ext.setCell ?_ (by simp) _)), any_succ HT.out dHD.out (by rw [HQ.out]; simp_all)⟩); (case measure => simp [intOf]; omega))
        | trace_state
    · obtain rfl : k = len := by omega
      go_wp2_with (first | ((first | with_reducible refine wp_region_qe (by kernel_rfl) (by kernel_rfl) ?_ | with_reducible refine wp_region_q (by kernel_rfl) (by kernel_rfl) ?_); (repeat' (first | go_big_quiet_step (fail) | (refine wpQuiet_split rfl rfl rfl rfl (fun hsp => ?_) (fun hsp => ?_); ((fail_if_success (cases hsp; done)); simp only [hsp]; (try first | have hsq : _ < _ := of_decide_eq_true hsp | have hsq : _ ≤ _ := of_decide_eq_true hsp | have hsq : ¬ _ < _ := of_decide_eq_false hsp | have hsq : ¬ _ ≤ _ := of_decide_eq_false hsp)); rotate_left; ((fail_if_success (cases hsp; done)); simp only [hsp]; (try first | have hsq : _ < _ := of_decide_eq_true hsp | have hsq : _ ≤ _ := of_decide_eq_true hsp | have hsq : ¬ _ < _ := of_decide_eq_false hsp | have hsq : ¬ _ ≤ _ := of_decide_eq_false hsp))))); (all_goals (refine wpQuiet_nil ?_; intro x))))
      go_ret
      exact ⟨ret_bool (by have := HT.out; rw [List.take_of_length_le (Nat.le_of_eq HL.out)] at this; exact this.symm), (by first | exact hE | exact hE.ext _ | exact hE.trans (by repeat (first | with_reducible exact Ext.refl _ | with_reducible apply Ext.and | with_reducible apply Ext.drewx | with_reducible apply Ext.alloc | with_reducible apply Ext.ext | with_reducible apply Ext.drew | with_reducible refine Ext.setCell ?_ (by simp) _)))⟩

end Go.Proofs.YtlinngelibpihaaDoor
