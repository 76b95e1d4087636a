/- The route that a routing table has for a range. No condition. -/
import Derived.Test.YtlehcnfmagjilaaGreatDoorRib
import Derived.Test.YtlehcnfmagjilaaGreatDoorRmk
import Derived.Test.YtlehcnfmagjilaaGreatDoorTdropE
namespace Go.Proofs.YtlehcnfmagjilaaGreatDoor
open Go Go.RowKit

/-- Whether a told route is of a range. -/
def gotR (r : Rg) (g : Gt) : Bool := decide (g.route.r = r)
theorem findI_some {α : Type} {p : α → Bool} {l : List α} (h : l.any p = true) : ∃ (i : Nat) (g : α), findI p l = (i : Int) ∧ l[i]? = some g ∧ p g = true := by
  have hlt : l.findIdx p < l.length := List.findIdx_lt_length.2 (List.any_eq_true.1 h)
  exact ⟨l.findIdx p, l[l.findIdx p], by unfold findI; rw [if_pos h], List.getElem?_eq_getElem hlt, List.findIdx_getElem⟩
noncomputable def ribFind (d : Rb) (r : Rg) : Rt × Bool :=
  if (ribOk d && d.all.any (gotR r)) = true then (match d.all[(findI (gotR r) d.all).toNat]? with | some g => (g.route, true) | none => (rt0, false)) else (rt0, false)
theorem ribFind_no {d : Rb} {r : Rg} (h : (ribOk d && d.all.any (gotR r)) = false) : ribFind d r = (rt0, false) := by unfold ribFind; rw [h]; rfl
theorem ribFind_yes {d : Rb} {r : Rg} {i : Nat} {g : Gt} (h : ribOk d = true) (h' : d.all.any (gotR r) = true) (hi : findI (gotR r) d.all = (i : Int)) (hg : d.all[i]? = some g) : ribFind d r = (g.route, true) := by
  unfold ribFind; rw [h, h', hi, Int.toNat_natCast, hg]; rfl
theorem ribOk_len {d : Rb} (h : ribOk d = true) : d.all.length ≤ 6 := by simp only [ribOk, Bool.and_eq_true, decide_eq_true_eq] at h; exact h.2.1
theorem ribOk_got {d : Rb} (h : ribOk d = true) {i : Nat} {g : Gt} (hg : d.all[i]? = some g) : rtOk g.route = true := by
  simp only [ribOk, Bool.and_eq_true] at h
  exact gok_rt (ascB_oks h.2.2 (List.mem_of_getElem? hg))

set_option maxHeartbeats 2000000 in
theorem l21At_any (d : Rb) (r : Rg) (a : Option Addr) (len cap : Nat) (w : World) (h : SlRd w a len cap d.all) :
    Calls Tryz.prog 32 #[.agg #[.int .i64 d.house, .bool d.up, .slice a len cap], .agg #[.int .i64 r.f, .int .i64 r.b]] w fun e w' => e = .returned (.int .i64 (findI (gotR r) d.all)) ∧ Ext w w' := by
  obtain ⟨hs, up, t⟩ := d
  have hm := h.2.2.1
  have hlc := h.2.1
  have HL := hidden h.1
  unfold maxLen at hm
  go_enter Tryz.func32, Tryz.ntmps32
  go_wp2_with fail
  obtain ⟨W, hW⟩ : ∃ W, W = (w.alloc (.cells #[.int .i64 hs, .bool up, .slice a len cap] 34)).alloc (.cells #[.int .i64 r.f, .int .i64 r.b] 38) := ⟨_, rfl⟩
  have hE0 : Ext w W := by rw [hW]; exact (by repeat (first | with_reducible exact Ext.refl _ | with_reducible apply Ext.and | with_reducible apply Ext.drewx | with_reducible apply Ext.alloc | with_reducible apply Ext.ext | with_reducible apply Ext.drew | with_reducible refine Ext.setCell ?_ (by simp) _))
  have b0 : W.cell? ⟨w.heap.size, 0, none⟩ = some (.int .i64 hs) := by rw [hW]; go_simp
  have b1 : W.cell? ⟨w.heap.size, 1, none⟩ = some (.bool up) := by rw [hW]; go_simp
  have b2 : W.cell? ⟨w.heap.size, 2, none⟩ = some (.slice a len cap) := by rw [hW]; go_simp
  have x0 : W.cell? ⟨w.heap.size + 1, 0, none⟩ = some (.int .i64 r.f) := by rw [hW]; go_simp
  have x1 : W.cell? ⟨w.heap.size + 1, 1, none⟩ = some (.int .i64 r.b) := by rw [hW]; go_simp
  rw [← hW]
  clear hW
  go_loopw [5] (fun i wr => ∃ k : Nat, k ≤ len ∧ i = .int .i64 k ∧ Ext W wr ∧ Hid ((t.take k).any (gotR r) = false)) (fun i _ => len - (intOf i).toNat)
  case atStart => exact ⟨0, Nat.zero_le _, rfl, Ext.refl _, rfl⟩
  case round =>
    obtain ⟨k, hk, rfl, hE1, HT⟩ := hrel
    have hE := hE0.trans hE1
    have c0 := (hE1.below.cell (p := ⟨w.heap.size, 0, none⟩) (cell_lt b0)).trans b0
    have c1 := (hE1.below.cell (p := ⟨w.heap.size, 1, none⟩) (cell_lt b1)).trans b1
    have c2 := (hE1.below.cell (p := ⟨w.heap.size, 2, none⟩) (cell_lt b2)).trans b2
    have y0 := (hE1.below.cell (p := ⟨w.heap.size + 1, 0, none⟩) (cell_lt x0)).trans x0
    have y1 := (hE1.below.cell (p := ⟨w.heap.size + 1, 1, none⟩) (cell_lt x1)).trans x1
    have lc := cell_lt c0
    have ly := cell_lt y0
    clear b0 b1 b2 x0 x1
    by_cases hlt : k < len
    · obtain ⟨d, dhd, db, doff, dys, rfl, dhys, dhcell, dhrd⟩ := h.at hE hlt
      obtain ⟨da_route_path, dn_route_path, dc_route_path, da_route_marks, dn_route_marks, dc_route_marks, rfl, dg0, dg1, dg2, dg3, dg4⟩ := dhrd
      have dc0 : wr.cell? ⟨db, doff + k * 6, none⟩ = some _ := dhcell 0 _ rfl
      have dc1 : wr.cell? ⟨db, doff + k * 6 + 1, none⟩ = some _ := dhcell 1 _ rfl
      have dc2 : wr.cell? ⟨db, doff + k * 6 + 2, none⟩ = some _ := dhcell 2 _ rfl
      have dc3 : wr.cell? ⟨db, doff + k * 6 + 3, none⟩ = some _ := dhcell 3 _ rfl
      have dc4 : wr.cell? ⟨db, doff + k * 6 + 4, none⟩ = some _ := dhcell 4 _ rfl
      have dc5 : wr.cell? ⟨db, doff + k * 6 + 5, none⟩ = some _ := dhcell 5 _ rfl
      have dlb := cell_lt dc0
      have dHD := hidden dhd
      clear dhcell dhys dhd
      by_cases hq : d.route.r = r
      · have HQ := hidden hq
        have hne : ∀ w', (binOp .eql 38 (.agg #[.int .i64 d.route.r.f, .int .i64 d.route.r.b]) (.agg #[.int .i64 r.f, .int .i64 r.b])).run Tryz.prog w' = .ok (.bool true) w' := fun w' => (eqS_Rg d.route.r r w').trans (by rw [HQ.out]; simp)
        clear hq
        go_wp2_with (first | ((first | with_reducible refine wp_region_qe (by kernel_rfl) (by kernel_rfl) ?_ | with_reducible refine wp_region_q (by kernel_rfl) (by kernel_rfl) ?_); (repeat' (first | go_big_quiet_step (fail) | (refine wpQuiet_split rfl rfl rfl rfl (fun hsp => ?_) (fun hsp => ?_); ((fail_if_success (cases hsp; done)); simp only [hsp]; (try first | have hsq : _ < _ := of_decide_eq_true hsp | have hsq : _ ≤ _ := of_decide_eq_true hsp | have hsq : ¬ _ < _ := of_decide_eq_false hsp | have hsq : ¬ _ ≤ _ := of_decide_eq_false hsp)); rotate_left; ((fail_if_success (cases hsp; done)); simp only [hsp]; (try first | have hsq : _ < _ := of_decide_eq_true hsp | have hsq : _ ≤ _ := of_decide_eq_true hsp | have hsq : ¬ _ < _ := of_decide_eq_false hsp | have hsq : ¬ _ ≤ _ := of_decide_eq_false hsp))))); (all_goals (refine wpQuiet_nil ?_; intro x))))
        go_ret
        exact ⟨ret_int (findI_at HT.out dHD.out (by simp [gotR, HQ.out])).symm, (by first | exact hE | exact hE.ext _ | exact hE.trans (by repeat (first | with_reducible exact Ext.refl _ | with_reducible apply Ext.and | with_reducible apply Ext.drewx | with_reducible apply Ext.alloc | with_reducible apply Ext.ext | with_reducible apply Ext.drew | with_reducible refine Ext.setCell ?_ (by simp) _)))⟩
      · have HQ := hidden hq
        have hne : ∀ w', (binOp .eql 38 (.agg #[.int .i64 d.route.r.f, .int .i64 d.route.r.b]) (.agg #[.int .i64 r.f, .int .i64 r.b])).run Tryz.prog w' = .ok (.bool false) w' := fun w' => (eqS_Rg d.route.r r w').trans (by simp [HQ.out])
        clear hq
        go_wp2_with (first | ((first | with_reducible refine wp_region_qe (by kernel_rfl) (by kernel_rfl) ?_ | with_reducible refine wp_region_q (by kernel_rfl) (by kernel_rfl) ?_); (repeat' (first | go_big_quiet_step (fail) | (refine wpQuiet_split rfl rfl rfl rfl (fun hsp => ?_) (fun hsp => ?_); ((fail_if_success (cases hsp; done)); simp only [hsp]; (try first | have hsq : _ < _ := of_decide_eq_true hsp | have hsq : _ ≤ _ := of_decide_eq_true hsp | have hsq : ¬ _ < _ := of_decide_eq_false hsp | have hsq : ¬ _ ≤ _ := of_decide_eq_false hsp)); rotate_left; ((fail_if_success (cases hsp; done)); simp only [hsp]; (try first | have hsq : _ < _ := of_decide_eq_true hsp | have hsq : _ ≤ _ := of_decide_eq_true hsp | have hsq : ¬ _ < _ := of_decide_eq_false hsp | have hsq : ¬ _ ≤ _ := of_decide_eq_false hsp))))); (all_goals (refine wpQuiet_nil ?_; intro x))))
        go_roundw
        case rel => exact ⟨k + 1, by omega, by go_num, hE1.trans (by repeat (first | with_reducible exact Ext.refl _ | with_reducible apply Ext.and | with_reducible apply Ext.drewx | with_reducible apply Ext.alloc | with_reducible apply Ext.ext | with_reducible apply Ext.drew | with_reducible refine Ext.setCell ?_ (by simp) _)), any_succ HT.out dHD.out (by simp [gotR, HQ.out])⟩
        case measure => simp [intOf]; omega
    · obtain rfl : k = len := by omega
      go_wp2_with (first | ((first | with_reducible refine wp_region_qe (by kernel_rfl) (by kernel_rfl) ?_ | with_reducible refine wp_region_q (by kernel_rfl) (by kernel_rfl) ?_); (repeat' (first | go_big_quiet_step (fail) | (refine wpQuiet_split rfl rfl rfl rfl (fun hsp => ?_) (fun hsp => ?_); ((fail_if_success (cases hsp; done)); simp only [hsp]; (try first | have hsq : _ < _ := of_decide_eq_true hsp | have hsq : _ ≤ _ := of_decide_eq_true hsp | have hsq : ¬ _ < _ := of_decide_eq_false hsp | have hsq : ¬ _ ≤ _ := of_decide_eq_false hsp)); rotate_left; ((fail_if_success (cases hsp; done)); simp only [hsp]; (try first | have hsq : _ < _ := of_decide_eq_true hsp | have hsq : _ ≤ _ := of_decide_eq_true hsp | have hsq : ¬ _ < _ := of_decide_eq_false hsp | have hsq : ¬ _ ≤ _ := of_decide_eq_false hsp))))); (all_goals (refine wpQuiet_nil ?_; intro x))))
      go_ret
      exact ⟨ret_int (by have := HT.out; rw [List.take_of_length_le (Nat.le_of_eq HL.out)] at this; exact (findI_no this).symm), (by first | exact hE | exact hE.ext _ | exact hE.trans (by repeat (first | with_reducible exact Ext.refl _ | with_reducible apply Ext.and | with_reducible apply Ext.drewx | with_reducible apply Ext.alloc | with_reducible apply Ext.ext | with_reducible apply Ext.drew | with_reducible refine Ext.setCell ?_ (by simp) _)))⟩

end Go.Proofs.YtlehcnfmagjilaaGreatDoor
