/- Holdings: copying, comparing, looking. No condition. -/
import Derived.Test.YtlinngelibpihaaDoorRange
import Derived.Test.YtlinngelibpihaaDoorCopy
namespace Go.Proofs.YtlinngelibpihaaDoor
open Go Go.RowKit

def hfit (house : Int) (r : Rg) (h : Hd) : Bool := decide (h.house = house) && rin r.f r.b h.r.f h.r.b

set_option maxHeartbeats 1000000 in
theorem l13Holds_any (a : Option Addr) (len cap : Nat) (l : List Hd) (house : Int) (r : Rg) (w : World) (h : SlRd w a len cap l) :
    Calls Tryd.prog 44 #[.slice a len cap, .int .i64 house, .agg #[.int .i64 r.f, .int .i64 r.b]] w fun e w' => e = .returned (.bool (l.any (hfit house r))) ∧ Ext w w' := by
  have hm := h.2.2.1
  have hlc := h.2.1
  have HL : Hid (l.length = len) := h.1
  unfold maxLen at hm
  go_enter Tryd.func44, Tryd.ntmps44
  go_wp2_with fail
  obtain ⟨W, hW⟩ : ∃ W, W = w.alloc (Obj.cells #[Value.int IntKind.i64 r.f, Value.int IntKind.i64 r.b] 33) := ⟨_, rfl⟩
  have hE0 : Ext w W := by rw [hW]; exact (by repeat (first | with_reducible exact Ext.refl _ | with_reducible apply Ext.and | with_reducible apply Ext.drewx | with_reducible apply Ext.alloc | with_reducible apply Ext.ext | with_reducible apply Ext.drew | with_reducible refine Ext.setCell ?_ (by simp) _))
  have b0 : W.cell? ⟨w.heap.size, 0, none⟩ = some (.int .i64 r.f) := by rw [hW]; go_simp
  have b1 : W.cell? ⟨w.heap.size, 1, none⟩ = some (.int .i64 r.b) := by rw [hW]; go_simp
  rw [← hW]
  clear hW
  go_loopw [7] (fun i wr => ∃ k : Nat, k ≤ len ∧ i = .int .i64 k ∧ Ext W wr ∧ Hid ((l.take k).any (hfit house r) = false)) (fun i _ => len - (intOf i).toNat)
  case atStart => exact ⟨0, Nat.zero_le _, rfl, Ext.refl _, rfl⟩
  case round =>
    obtain ⟨k, hk, rfl, hE, HT⟩ := hrel
    have hE' := hE0.trans hE
    by_cases hlt : k < len
    · obtain ⟨d, hd, b, off, ys, rfl, hys, hcell, hrd⟩ := h.at hE' hlt
      obtain ⟨rfl, g0, g1, g2⟩ := hrd
      have c0 : wr.cell? ⟨b, off + k * 3, none⟩ = some _ := hcell 0 _ rfl
      have c1 : wr.cell? ⟨b, off + k * 3 + 1, none⟩ = some _ := hcell 1 _ rfl
      have c2 : wr.cell? ⟨b, off + k * 3 + 2, none⟩ = some _ := hcell 2 _ rfl
      have b0' := (hE.below.cell (p := ⟨w.heap.size, 0, none⟩) (cell_lt b0)).trans b0
      have b1' := (hE.below.cell (p := ⟨w.heap.size, 1, none⟩) (cell_lt b1)).trans b1
      have lb := cell_lt c0
      have lb' := cell_lt b0'
      have HD : Hid (l[k]? = some d) := hd
      clear hcell hys hd b0 b1
      by_cases hh : d.house = house
      · have hh1 : (d.house == house) = true := by simpa using hh
        have HH : Hid (d.house = house) := hh
        clear hh
        cases hr : rin r.f r.b d.r.f d.r.b
        · go_wp2_with (first | (first | (go_at_call 65; (with_reducible refine (sRangeIn_any _ _ _ _ _).mono ?_); rintro _ _ ⟨rfl, x, rfl⟩)) | ((first | with_reducible refine wp_region_qe (by kernel_rfl) (by kernel_rfl) ?_ | with_reducible refine wp_region_q (by kernel_rfl) (by kernel_rfl) ?_); (repeat (go_big_quiet_step ((first | (go_at_call 65; first | with_reducible exact Calls.qb (by assumption) (sRangeIn_any _ _ _ _ _) | with_reducible exact Calls.q (sRangeIn_any _ _ _ _ _)))))); refine wpQuiet_nil ?_; intro x))
          go_roundw
          case rel => exact ⟨k + 1, by omega, by go_num, (by first | exact hE | exact hE.ext _ | exact hE.trans (by repeat (first | with_reducible exact Ext.refl _ | with_reducible apply Ext.and | with_reducible apply Ext.drewx | with_reducible apply Ext.alloc | with_reducible apply Ext.ext | with_reducible apply Ext.drew | with_reducible refine Ext.setCell ?_ (by simp) _))), any_succ HT.out HD.out (by simp [hfit, hr])⟩
          case measure => simp [intOf]; omega
        · go_wp2_with (first | (first | (go_at_call 65; (with_reducible refine (sRangeIn_any _ _ _ _ _).mono ?_); rintro _ _ ⟨rfl, x, rfl⟩)) | ((first | with_reducible refine wp_region_qe (by kernel_rfl) (by kernel_rfl) ?_ | with_reducible refine wp_region_q (by kernel_rfl) (by kernel_rfl) ?_); (repeat (go_big_quiet_step ((first | (go_at_call 65; first | with_reducible exact Calls.qb (by assumption) (sRangeIn_any _ _ _ _ _) | with_reducible exact Calls.q (sRangeIn_any _ _ _ _ _)))))); refine wpQuiet_nil ?_; intro x))
          go_ret
          exact ⟨ret_bool (any_at HD.out (by simp [hfit, hr, HH.out])).symm, hE0.trans (by first | exact hE | exact hE.ext _ | exact hE.trans (by repeat (first | with_reducible exact Ext.refl _ | with_reducible apply Ext.and | with_reducible apply Ext.drewx | with_reducible apply Ext.alloc | with_reducible apply Ext.ext | with_reducible apply Ext.drew | with_reducible refine Ext.setCell ?_ (by simp) _)))⟩
      · have hh1 : (d.house == house) = false := by simpa using hh
        have HH : Hid (¬ d.house = house) := hh
        clear hh
        go_wp2_with (first | (first | (go_at_call 65; (with_reducible refine (sRangeIn_any _ _ _ _ _).mono ?_); rintro _ _ ⟨rfl, x, rfl⟩)) | ((first | with_reducible refine wp_region_qe (by kernel_rfl) (by kernel_rfl) ?_ | with_reducible refine wp_region_q (by kernel_rfl) (by kernel_rfl) ?_); (repeat (go_big_quiet_step ((first | (go_at_call 65; first | with_reducible exact Calls.qb (by assumption) (sRangeIn_any _ _ _ _ _) | with_reducible exact Calls.q (sRangeIn_any _ _ _ _ _)))))); refine wpQuiet_nil ?_; intro x))
        go_roundw
        case rel => exact ⟨k + 1, by omega, by go_num, (by first | exact hE | exact hE.ext _ | exact hE.trans (by repeat (first | with_reducible exact Ext.refl _ | with_reducible apply Ext.and | with_reducible apply Ext.drewx | with_reducible apply Ext.alloc | with_reducible apply Ext.ext | with_reducible apply Ext.drew | with_reducible refine Ext.setCell ?_ (by simp) _))), any_succ HT.out HD.out (by simp [hfit, HH.out])⟩
        case measure => simp [intOf]; omega
    · obtain rfl : k = len := by omega
      go_wp2_with (first | ((first | with_reducible refine wp_region_qe (by kernel_rfl) (by kernel_rfl) ?_ | with_reducible refine wp_region_q (by kernel_rfl) (by kernel_rfl) ?_); (repeat (go_big_quiet_step (fail))); refine wpQuiet_nil ?_; intro x))
      go_ret
      exact ⟨ret_bool (by have := HT.out; rwa [List.take_of_length_le (Nat.le_of_eq HL.out), eq_comm] at this), hE0.trans (by first | exact hE | exact hE.ext _ | exact hE.trans (by repeat (first | with_reducible exact Ext.refl _ | with_reducible apply Ext.and | with_reducible apply Ext.drewx | with_reducible apply Ext.alloc | with_reducible apply Ext.ext | with_reducible apply Ext.drew | with_reducible refine Ext.setCell ?_ (by simp) _)))⟩

set_option maxHeartbeats 1000000 in
theorem holdFn_any (house : Int) (r : Rg) (d : Hd) (b1 b2 : Nat) (w : World) (h1 : w.cell? ⟨b1, 0, none⟩ = some (.int .i64 house)) (h2 : w.cell? ⟨b2, 0, none⟩ = some (.int .i64 r.f)) (h3 : w.cell? ⟨b2, 1, none⟩ = some (.int .i64 r.b)) :
    Calls Tryd.prog 71 #[.agg #[.int .i64 d.house, .int .i64 d.r.f, .int .i64 d.r.b], .pointer (some ⟨b1, 0, none⟩), .pointer (some ⟨b2, 0, none⟩)] w fun e w' => e = .returned (.bool (hfit house r d)) ∧ Ext w w' := by
  have l1 := cell_lt h1
  have l2 := cell_lt h2
  by_cases hh : d.house = house
  · have hh1 : (d.house == house) = true := by simpa using hh
    go_enter Tryd.func71, Tryd.ntmps71
    go_wp2_with (first | (first | (go_at_call 72; (with_reducible refine (iRangeIn_any _ _ _ _ _).mono ?_); rintro _ _ ⟨rfl, x, rfl⟩)) | ((first | with_reducible refine wp_region_qe (by kernel_rfl) (by kernel_rfl) ?_ | with_reducible refine wp_region_q (by kernel_rfl) (by kernel_rfl) ?_); (repeat (go_big_quiet_step ((first | (go_at_call 72; first | with_reducible exact Calls.qb (by assumption) (iRangeIn_any _ _ _ _ _) | with_reducible exact Calls.q (iRangeIn_any _ _ _ _ _)))))); refine wpQuiet_nil ?_; intro x))
    go_ret
    exact ⟨ret_bool (by simp [hfit, hh]), (by repeat (first | with_reducible exact Ext.refl _ | with_reducible apply Ext.and | with_reducible apply Ext.drewx | with_reducible apply Ext.alloc | with_reducible apply Ext.ext | with_reducible apply Ext.drew | with_reducible refine Ext.setCell ?_ (by simp) _))⟩
  · have hh1 : (d.house == house) = false := by simpa using hh
    go_enter Tryd.func71, Tryd.ntmps71
    go_wp2_with (first | (first | (go_at_call 72; (with_reducible refine (iRangeIn_any _ _ _ _ _).mono ?_); rintro _ _ ⟨rfl, x, rfl⟩)) | ((first | with_reducible refine wp_region_qe (by kernel_rfl) (by kernel_rfl) ?_ | with_reducible refine wp_region_q (by kernel_rfl) (by kernel_rfl) ?_); (repeat (go_big_quiet_step ((first | (go_at_call 72; first | with_reducible exact Calls.qb (by assumption) (iRangeIn_any _ _ _ _ _) | with_reducible exact Calls.q (iRangeIn_any _ _ _ _ _)))))); refine wpQuiet_nil ?_; intro x))
    go_ret
    exact ⟨ret_bool (by simp [hfit, hh]), (by repeat (first | with_reducible exact Ext.refl _ | with_reducible apply Ext.and | with_reducible apply Ext.drewx | with_reducible apply Ext.alloc | with_reducible apply Ext.ext | with_reducible apply Ext.drew | with_reducible refine Ext.setCell ?_ (by simp) _))⟩

set_option maxHeartbeats 1000000 in
theorem indexHd_any (a : Option Addr) (len cap : Nat) (l : List Hd) (p : Hd → Bool) (g : FuncId) (cs : Array Value) (w : World) (hg : ∀ args w, (callFunc g args).run Tryd.prog w = .ok (.enter g args) w) (h : SlRd w a len cap l)
    (hf : ∀ (w' : World) (d : Hd), Ext w w' → Calls Tryd.prog g (#[.agg #[.int .i64 d.house, .int .i64 d.r.f, .int .i64 d.r.b]] ++ cs) w' fun e w2 => e = .returned (.bool (p d)) ∧ Ext w' w2) :
    Calls Tryd.prog 87 #[.slice a len cap, .func (.func g) #[] cs] w fun e w' => e = .returned (.int .i64 (findI p l)) ∧ Ext w w' := by
  have hm := h.2.2.1
  have hlc := h.2.1
  have HL := hidden h.1
  have HF := hidden hf
  clear hf
  unfold maxLen at hm
  go_enter Tryd.func87, Tryd.ntmps87
  go_wp2_with fail
  go_loopw [8] (fun i wr => ∃ k : Nat, k ≤ len ∧ i = .int .i64 k ∧ Ext w wr ∧ Hid ((l.take k).any p = false)) (fun i _ => len - (intOf i).toNat)
  case atStart => exact ⟨0, Nat.zero_le _, rfl, Ext.refl _, rfl⟩
  case round =>
    obtain ⟨k, hk, rfl, hE, HT⟩ := hrel
    by_cases hlt : k < len
    · obtain ⟨d, hd, b, off, ys, rfl, hys, hcell, hrd⟩ := h.at hE hlt
      obtain ⟨rfl, g0, g1, g2⟩ := hrd
      have c0 : wr.cell? ⟨b, off + k * 3, none⟩ = some _ := hcell 0 _ rfl
      have c1 : wr.cell? ⟨b, off + k * 3 + 1, none⟩ = some _ := hcell 1 _ rfl
      have c2 : wr.cell? ⟨b, off + k * 3 + 2, none⟩ = some _ := hcell 2 _ rfl
      have lb := cell_lt c0
      have HD := hidden hd
      clear hcell hys hd
      cases hp : p d
      · go_wp2_with (first | ((with_reducible refine (HF.out _ d (by first | exact hE | exact hE.ext _ | exact hE.trans (by repeat (first | with_reducible exact Ext.refl _ | with_reducible apply Ext.and | with_reducible apply Ext.drewx | with_reducible apply Ext.alloc | with_reducible apply Ext.ext | with_reducible apply Ext.drew | with_reducible refine Ext.setCell ?_ (by simp) _)))).mono ?_); rintro _ _ ⟨rfl, x, rfl⟩))
        go_roundw
        case rel => exact ⟨k + 1, by omega, by go_num, (by first | exact hE | exact hE.ext _ | exact hE.trans (by repeat (first | with_reducible exact Ext.refl _ | with_reducible apply Ext.and | with_reducible apply Ext.drewx | with_reducible apply Ext.alloc | with_reducible apply Ext.ext | with_reducible apply Ext.drew | with_reducible refine Ext.setCell ?_ (by simp) _))), any_succ HT.out HD.out hp⟩
        case measure => simp [intOf]; omega
      · go_wp2_with (first | ((with_reducible refine (HF.out _ d (by first | exact hE | exact hE.ext _ | exact hE.trans (by repeat (first | with_reducible exact Ext.refl _ | with_reducible apply Ext.and | with_reducible apply Ext.drewx | with_reducible apply Ext.alloc | with_reducible apply Ext.ext | with_reducible apply Ext.drew | with_reducible refine Ext.setCell ?_ (by simp) _)))).mono ?_); rintro _ _ ⟨rfl, x, rfl⟩))
        go_ret
        exact ⟨ret_int (findI_at HT.out HD.out hp).symm, (by first | exact hE | exact hE.ext _ | exact hE.trans (by repeat (first | with_reducible exact Ext.refl _ | with_reducible apply Ext.and | with_reducible apply Ext.drewx | with_reducible apply Ext.alloc | with_reducible apply Ext.ext | with_reducible apply Ext.drew | with_reducible refine Ext.setCell ?_ (by simp) _)))⟩
    · obtain rfl : k = len := by omega
      go_wp2_with (first | ((first | with_reducible refine wp_region_qe (by kernel_rfl) (by kernel_rfl) ?_ | with_reducible refine wp_region_q (by kernel_rfl) (by kernel_rfl) ?_); (repeat (go_big_quiet_step (fail))); refine wpQuiet_nil ?_; intro x))
      go_ret
      exact ⟨ret_int (by have := HT.out; rw [List.take_of_length_le (Nat.le_of_eq HL.out)] at this; exact (findI_no this).symm), (by first | exact hE | exact hE.ext _ | exact hE.trans (by repeat (first | with_reducible exact Ext.refl _ | with_reducible apply Ext.and | with_reducible apply Ext.drewx | with_reducible apply Ext.alloc | with_reducible apply Ext.ext | with_reducible apply Ext.drew | with_reducible refine Ext.setCell ?_ (by simp) _)))⟩
set_option maxHeartbeats 1000000 in
theorem containsHd_any (a : Option Addr) (len cap : Nat) (l : List Hd) (p : Hd → Bool) (g : FuncId) (cs : Array Value) (w : World) (hg : ∀ args w, (callFunc g args).run Tryd.prog w = .ok (.enter g args) w) (h : SlRd w a len cap l)
    (hf : ∀ (w' : World) (d : Hd), Ext w w' → Calls Tryd.prog g (#[.agg #[.int .i64 d.house, .int .i64 d.r.f, .int .i64 d.r.b]] ++ cs) w' fun e w2 => e = .returned (.bool (p d)) ∧ Ext w' w2) :
    Calls Tryd.prog 70 #[.slice a len cap, .func (.func g) #[] cs] w fun e w' => e = .returned (.bool (l.any p)) ∧ Ext w w' := by
  have H := hidden (indexHd_any a len cap l p g cs w hg h hf)
  clear hg hf
  rw [← findI_ge]
  go_enter Tryd.func70, Tryd.ntmps70
  go_wp2_with (first | (go_at_call 87; (with_reducible refine H.out.mono ?_); rintro _ _ ⟨rfl, x, rfl⟩))
  all_goals
    go_ret
    exact ⟨ret_bool (by simp [*]), (by repeat (first | with_reducible exact Ext.refl _ | with_reducible apply Ext.and | with_reducible apply Ext.drewx | with_reducible apply Ext.alloc | with_reducible apply Ext.ext | with_reducible apply Ext.drew | with_reducible refine Ext.setCell ?_ (by simp) _))⟩

set_option maxHeartbeats 1000000 in
theorem iHoldHas_any (a : Option Addr) (len cap : Nat) (l : List Hd) (house : Int) (r : Rg) (w : World) (h : SlRd w a len cap l) :
    Calls Tryd.prog 48 #[.slice a len cap, .int .i64 house, .agg #[.int .i64 r.f, .int .i64 r.b]] w fun e w' => e = .returned (.bool (l.any (hfit house r))) ∧ Ext w w' := by
  go_enter Tryd.func48, Tryd.ntmps48
  go_wp2_with (first | (go_at_call 70; refine (containsHd_any _ _ _ l (hfit house r) 71 _ _ (callBody Tryd.func71 (by kernel_rfl) (by kernel_rfl)) (h.stays ((by repeat (first | with_reducible exact Ext.refl _ | with_reducible apply Ext.and | with_reducible apply Ext.drewx | with_reducible apply Ext.alloc | with_reducible apply Ext.ext | with_reducible apply Ext.drew | with_reducible refine Ext.setCell ?_ (by simp) _)) : Ext _ _).below) ?_).mono ?_; rotate_left; rintro _ _ ⟨rfl, x, rfl⟩))
  · go_ret
    exact ⟨rfl, (by repeat (first | with_reducible exact Ext.refl _ | with_reducible apply Ext.and | with_reducible apply Ext.drewx | with_reducible apply Ext.alloc | with_reducible apply Ext.ext | with_reducible apply Ext.drew | with_reducible refine Ext.setCell ?_ (by simp) _))⟩
  · intro w' d hE
    exact holdFn_any house r d _ _ w' ((hE.below.cell (p := ⟨_, 0, none⟩) (by simp)).trans (by go_simp)) ((hE.below.cell (p := ⟨_, 0, none⟩) (by simp)).trans (by go_simp)) ((hE.below.cell (p := ⟨_, 1, none⟩) (by simp)).trans (by go_simp))

end Go.Proofs.YtlinngelibpihaaDoor
