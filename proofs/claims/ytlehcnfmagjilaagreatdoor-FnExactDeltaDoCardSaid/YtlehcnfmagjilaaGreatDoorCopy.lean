/- The laws' own helpers: sizing, copying, comparing. No condition. -/
import Derived.Test.YtlehcnfmagjilaaGreatDoorRange
import Derived.Test.YtlehcnfmagjilaaGreatDoorSz
namespace Go.Proofs.YtlehcnfmagjilaaGreatDoor
open Go Go.RowKit


set_option maxHeartbeats 1000000 in
theorem to_Rg (d : Rg) (w : World) :
    Calls Tryz.prog 36 #[.agg #[.int .i64 d.f, .int .i64 d.b]] w fun e w' => e = .returned (.agg #[.int .i64 d.f, .int .i64 d.b]) ∧ Ext w w' := by
  go_enter Tryz.func36, Tryz.ntmps36
  go_wp2_with (first | ((first | with_reducible refine wp_region_qe (by kernel_rfl) (by kernel_rfl) ?_ | with_reducible refine wp_region_q (by kernel_rfl) (by kernel_rfl) ?_); (repeat (go_big_quiet_step (fail))); refine wpQuiet_nil ?_; intro x))
  exact bodyPost_ret (v := .agg #[.int .i64 d.f, .int .i64 d.b]) (by simp [results, Tryz.results36, go_sem]) rfl ⟨rfl, (by repeat (first | with_reducible exact Ext.refl _ | with_reducible apply Ext.and | with_reducible apply Ext.drewx | with_reducible apply Ext.alloc | with_reducible apply Ext.ext | with_reducible apply Ext.drew | with_reducible refine Ext.setCell ?_ (by simp) _))⟩

set_option maxHeartbeats 1000000 in
theorem eq_Rg (d d' : Rg)   (w : World)  :
    Calls Tryz.prog 45 #[.agg #[.int .i64 d.f, .int .i64 d.b], .agg #[.int .i64 (d'.f), .int .i64 (d'.b)]] w fun e w' => e = .returned (.bool (decide (d = d'))) ∧ Ext w w' := by
  go_enter Tryz.func45, Tryz.ntmps45
  go_wp2_with (first | ((first | with_reducible refine wp_region_qe (by kernel_rfl) (by kernel_rfl) ?_ | with_reducible refine wp_region_q (by kernel_rfl) (by kernel_rfl) ?_); (repeat (go_big_quiet_step (fail))); refine wpQuiet_nil ?_; intro x))
  all_goals
    go_ret
    exact ⟨ret_bool (by simp_all [Rg_eq]), (by repeat (first | with_reducible exact Ext.refl _ | with_reducible apply Ext.and | with_reducible apply Ext.drewx | with_reducible apply Ext.alloc | with_reducible apply Ext.ext | with_reducible apply Ext.drew | with_reducible refine Ext.setCell ?_ (by simp) _))⟩













set_option maxHeartbeats 1000000 in
theorem sz_Lint (a : Option Addr) (len cap : Nat) (l : (List Int)) (left : Int) (w : World) (h : SlRd w a len cap l) (h0 : 0 ≤ left) (h1 : left ≤ 1048576) :
    Calls Tryz.prog 28 #[.slice a len cap, .int .i64 left] w fun e w' => e = .returned (.int .i64 (szR (Sz.sz l) left)) ∧ Ext w w' := by
  have hm := h.2.2.1
  have hlc := h.2.1
  have hlen := h.1
  unfold maxLen at hm
  have e : Sz.sz l = len := by rw [← hlen]; exact szL_flat l (fun _ => rfl)
  rw [e]
  clear e hlen
  by_cases hle : (len : Int) ≤ left
  all_goals
    go_enter Tryz.func28, Tryz.ntmps28
    go_wp2
    go_ret
    exact ⟨ret_int (by first | rw [szR_le hle] | rw [szR_gt (by omega)]), Ext.refl _⟩

theorem info_impl_int : (Tryz.prog.info? 3).map (fun i => (i.zero, i.size, i.bytes)) = some (some (.int .i64 0), 1, 8) := by kernel_rfl
set_option maxHeartbeats 1000000 in
theorem to_Lint (a : Option Addr) (len cap : Nat) (l : (List Int)) (w : World) (h : SlRd w a len cap l) (hn : Sz.sz l ≤ 1048576) :
    Calls Tryz.prog 37 #[.slice a len cap] w fun e w' => ∃ B, e = .returned (.slice (some ⟨B, 0, none⟩) len len) ∧ ∃ x, w' = ext w x ∧ Hid (Fresh w (ext w x) [.slice (some ⟨B, 0, none⟩) len len] l) := by
  have hlen := h.1
  have hn' : len ≤ 1048576 := by have : Sz.sz l = l.length + (l.map Sz.sz).sum := rfl; omega
  obtain ⟨i0, hi, hz0, hz1, hz2⟩ := info_parts info_impl_int
  have hmk := mkSlice Tryz.underlying27 hi hz0 len (by rw [hz2]; omega) (by unfold maxLen; omega)
  have HZ : Hid (l.length = len) := hlen
  have HN : Hid (Sz.sz l ≤ 1048576) := hn
  clear hlen hn
  go_enter Tryz.func37, Tryz.ntmps37
  go_wp2_with fail
  have hF : Fill (w.alloc (Obj.cells (madeCells #[.int .i64 0] (len)) 3)) w.heap.size 3 len l 0 := Fill.start (Blk.new w _ _) (by simp [madeCells]; first | rfl | exact (Nat.mul_one len).symm)
  have hE : Ext w (w.alloc (Obj.cells (madeCells #[.int .i64 0] (len)) 3)) := (by repeat (first | with_reducible exact Ext.refl _ | with_reducible apply Ext.and | with_reducible apply Ext.drewx | with_reducible apply Ext.alloc | with_reducible apply Ext.ext | with_reducible apply Ext.drew | with_reducible refine Ext.setCell ?_ (by simp) _))
  generalize (w.alloc (Obj.cells (madeCells #[.int .i64 0] (len)) 3)) = w1 at *
  clear hmk
  go_loopw [4] (fun i wr => ∃ k : Nat, k ≤ len ∧ i = .int .i64 k ∧ Ext w wr ∧ Fill wr w.heap.size 3 len l k) (fun i _ => len - (intOf i).toNat)
  case atStart => exact ⟨0, Nat.zero_le _, rfl, hE, hF⟩
  case round =>
    obtain ⟨k, hk, rfl, hE, hF⟩ := hrel
    by_cases hlt : k < len
    · obtain ⟨d, hd, b, off, ys, rfl, hys, hcell, hrd⟩ := h.at hE hlt
      obtain ⟨rfl, g0⟩ := hrd
      have c0 : wr.cell? ⟨b, off + k, none⟩ = some (.int .i64 d) := by have := hcell 0 _ rfl; simpa [Lay.n] using this
      have lb := cell_lt c0
      obtain ⟨cs, hB, hL⟩ := hF.blk
      have lB := hB.lt
      have hL' : cs.length = len * 1 := hL
      obtain ⟨z0, s0⟩ := hB.get (j := k) (by omega)
      have f0 := hB.frozen (k)
      have HL : Hid (cs.length = len * 1) := hL
      have HD : Hid (l[k]? = some d) := hd
      have HF : Hid (Fill wr w.heap.size 3 len l k) := hF
      clear hcell hys hL hL' hd hF
      go_wp2_with (first | ((first | with_reducible refine wp_region_qe (by kernel_rfl) (by kernel_rfl) ?_ | with_reducible refine wp_region_q (by kernel_rfl) (by kernel_rfl) ?_); (repeat (go_big_quiet_step (fail))); refine wpQuiet_nil ?_; intro x))
      go_roundw
      case rel => exact ⟨k + 1, by omega, by go_num, by simpa [setW] using (Ext.setW (Nat.le_refl _) [.int .i64 d] k hE), by have := HF.out.step (ys := [.int .i64 d]) HD.out hlt rfl ⟨Ext.refl wr, [], ⟨⟨rfl, g0⟩, rfl⟩, by simp, by simp⟩; simpa [setW, Lay.n] using this⟩
      case measure => simp [intOf]; omega
    · obtain rfl : k = len := by omega
      have hres := Fill.done hE (Nat.le_refl _) HZ.out (by unfold maxLen; omega) hF
      obtain ⟨x, rfl⟩ := hE
      clear hF
      go_wp2
      go_ret
      exact ⟨_, rfl, x, rfl, hres⟩

set_option maxHeartbeats 1000000 in
theorem eq_Lint (a : Option Addr) (len cap : Nat) (l : (List Int)) (a' : Option Addr) (len' cap' : Nat) (l' : (List Int)) (w : World) (h : SlRd w a len cap l) (h' : SlRd w a' len' cap' l') :
    Calls Tryz.prog 46 #[.slice a len cap, .slice a' len' cap'] w fun e w' => e = .returned (.bool (decide (l = l'))) ∧ Ext w w' := by
  have hm := h.2.2.1
  have hlc := h.2.1
  have hlen := h.1
  have hlen' := h'.1
  unfold maxLen at hm
  by_cases hne : len = len'
  · subst hne
    have HL : Hid (l.length = len) := hlen
    have HL' : Hid (l'.length = len) := hlen'
    clear hlen hlen'
    go_enter Tryz.func46, Tryz.ntmps46
    go_wp2_with fail
    go_loopw [5] (fun i wr => ∃ k : Nat, k ≤ len ∧ i = .int .i64 k ∧ Ext w wr ∧ Hid (l.take k = l'.take k)) (fun i _ => len - (intOf i).toNat)
    case atStart => exact ⟨0, Nat.zero_le _, rfl, Ext.refl _, rfl⟩
    case round =>
      obtain ⟨k, hk, rfl, hE, HT⟩ := hrel
      by_cases hlt : k < len
      · obtain ⟨d, hd, b, off, ys, rfl, hys, hcell, hrd⟩ := h.at hE hlt
        obtain ⟨d', hd', b', off', ys', rfl, hys', hcell', hrd'⟩ := h'.at hE hlt
        have HD : Hid (l[k]? = some d) := hd
        have HD' : Hid (l'[k]? = some d') := hd'
        clear hd hd'
        obtain ⟨rfl, g0⟩ := hrd
        obtain ⟨rfl, g0'⟩ := hrd'
        have c0 : wr.cell? ⟨b, off + k, none⟩ = some (.int .i64 d) := by have := hcell 0 _ rfl; simpa [Lay.n] using this
        have c0' : wr.cell? ⟨b', off' + k, none⟩ = some (.int .i64 d') := by have := hcell' 0 _ rfl; simpa [Lay.n] using this
        have lb := cell_lt c0
        have lb' := cell_lt c0'
        clear hcell hys hcell' hys'
        by_cases hdd : d = d'
        · subst hdd
          go_wp2_with (first | ((first | with_reducible refine wp_region_qe (by kernel_rfl) (by kernel_rfl) ?_ | with_reducible refine wp_region_q (by kernel_rfl) (by kernel_rfl) ?_); (repeat (go_big_quiet_step (fail))); refine wpQuiet_nil ?_; intro x))
          go_roundw
          case rel => exact ⟨k + 1, by omega, by go_num, (by first | exact hE | exact hE.ext _ | exact hE.trans (by repeat (first | with_reducible exact Ext.refl _ | with_reducible apply Ext.and | with_reducible apply Ext.drewx | with_reducible apply Ext.alloc | with_reducible apply Ext.ext | with_reducible apply Ext.drew | with_reducible refine Ext.setCell ?_ (by simp) _))), take_succ_eq HT.out HD.out HD'.out⟩
          case measure => simp [intOf]; omega
        · have hb : (d != d') = true := by simpa using hdd
          go_wp2_with (first | ((first | with_reducible refine wp_region_qe (by kernel_rfl) (by kernel_rfl) ?_ | with_reducible refine wp_region_q (by kernel_rfl) (by kernel_rfl) ?_); (repeat (go_big_quiet_step (fail))); refine wpQuiet_nil ?_; intro x))
          go_ret
          exact ⟨ret_bool (by simpa using ne_at HD.out HD'.out hdd), (by first | exact hE | exact hE.ext _ | exact hE.trans (by repeat (first | with_reducible exact Ext.refl _ | with_reducible apply Ext.and | with_reducible apply Ext.drewx | with_reducible apply Ext.alloc | with_reducible apply Ext.ext | with_reducible apply Ext.drew | with_reducible refine Ext.setCell ?_ (by simp) _)))⟩
      · obtain rfl : k = len := by omega
        go_wp2_with (first | ((first | with_reducible refine wp_region_qe (by kernel_rfl) (by kernel_rfl) ?_ | with_reducible refine wp_region_q (by kernel_rfl) (by kernel_rfl) ?_); (repeat (go_big_quiet_step (fail))); refine wpQuiet_nil ?_; intro x))
        go_ret
        exact ⟨ret_bool (by simpa using eq_take HT.out HL.out HL'.out), (by first | exact hE | exact hE.ext _ | exact hE.trans (by repeat (first | with_reducible exact Ext.refl _ | with_reducible apply Ext.and | with_reducible apply Ext.drewx | with_reducible apply Ext.alloc | with_reducible apply Ext.ext | with_reducible apply Ext.drew | with_reducible refine Ext.setCell ?_ (by simp) _)))⟩
  · have hb : ((len : Int) != (len' : Int)) = true := by simpa using (by omega : ¬ (len : Int) = len')
    go_enter Tryz.func46, Tryz.ntmps46
    go_wp2_with (first | ((first | with_reducible refine wp_region_qe (by kernel_rfl) (by kernel_rfl) ?_ | with_reducible refine wp_region_q (by kernel_rfl) (by kernel_rfl) ?_); (repeat (go_big_quiet_step (fail))); refine wpQuiet_nil ?_; intro x))
    go_ret
    exact ⟨ret_bool (by simpa using (fun e : l = l' => hne (by rw [← hlen, ← hlen', e]))), Ext.refl _⟩







set_option maxHeartbeats 1000000 in
theorem sz_LRg (a : Option Addr) (len cap : Nat) (l : (List Rg)) (left : Int) (w : World) (h : SlRd w a len cap l) (h0 : 0 ≤ left) (h1 : left ≤ 1048576) :
    Calls Tryz.prog 50 #[.slice a len cap, .int .i64 left] w fun e w' => e = .returned (.int .i64 (szR (Sz.sz l) left)) ∧ Ext w w' := by
  have hm := h.2.2.1
  have hlc := h.2.1
  have hlen := h.1
  unfold maxLen at hm
  have e : Sz.sz l = len := by rw [← hlen]; exact szL_flat l (fun _ => rfl)
  rw [e]
  clear e hlen
  by_cases hle : (len : Int) ≤ left
  all_goals
    go_enter Tryz.func50, Tryz.ntmps50
    go_wp2
    go_ret
    exact ⟨ret_int (by first | rw [szR_le hle] | rw [szR_gt (by omega)]), Ext.refl _⟩

theorem info_impl_Rg : (Tryz.prog.info? 38).map (fun i => (i.zero, i.size, i.bytes)) = some (some (.agg #[.int .i64 0, .int .i64 0]), 2, 16) := by kernel_rfl
set_option maxHeartbeats 1000000 in
theorem to_LRg (a : Option Addr) (len cap : Nat) (l : (List Rg)) (w : World) (h : SlRd w a len cap l) (hn : Sz.sz l ≤ 1048576) :
    Calls Tryz.prog 54 #[.slice a len cap] w fun e w' => ∃ B, e = .returned (.slice (some ⟨B, 0, none⟩) len len) ∧ ∃ x, w' = ext w x ∧ Hid (Fresh w (ext w x) [.slice (some ⟨B, 0, none⟩) len len] l) := by
  have hlen := h.1
  have hn' : len ≤ 1048576 := by have : Sz.sz l = l.length + (l.map Sz.sz).sum := rfl; omega
  obtain ⟨i0, hi, hz0, hz1, hz2⟩ := info_parts info_impl_Rg
  have hmk := mkSlice Tryz.underlying57 hi hz0 len (by rw [hz2]; omega) (by unfold maxLen; omega)
  have HZ : Hid (l.length = len) := hlen
  have HN : Hid (Sz.sz l ≤ 1048576) := hn
  clear hlen hn
  go_enter Tryz.func54, Tryz.ntmps54
  go_wp2_with fail
  have hF : Fill (w.alloc (Obj.cells (madeCells #[.int .i64 0, .int .i64 0] (len * 2)) 38)) w.heap.size 38 len l 0 := Fill.start (Blk.new w _ _) (by simp [madeCells]; first | rfl | exact (Nat.mul_one len).symm)
  have hE : Ext w (w.alloc (Obj.cells (madeCells #[.int .i64 0, .int .i64 0] (len * 2)) 38)) := (by repeat (first | with_reducible exact Ext.refl _ | with_reducible apply Ext.and | with_reducible apply Ext.drewx | with_reducible apply Ext.alloc | with_reducible apply Ext.ext | with_reducible apply Ext.drew | with_reducible refine Ext.setCell ?_ (by simp) _))
  generalize (w.alloc (Obj.cells (madeCells #[.int .i64 0, .int .i64 0] (len * 2)) 38)) = w1 at *
  clear hmk
  go_loopw [4] (fun i wr => ∃ k : Nat, k ≤ len ∧ i = .int .i64 k ∧ Ext w wr ∧ Fill wr w.heap.size 38 len l k) (fun i _ => len - (intOf i).toNat)
  case atStart => exact ⟨0, Nat.zero_le _, rfl, hE, hF⟩
  case round =>
    obtain ⟨k, hk, rfl, hE, hF⟩ := hrel
    by_cases hlt : k < len
    · obtain ⟨d, hd, b, off, ys, rfl, hys, hcell, hrd⟩ := h.at hE hlt
      obtain ⟨rfl, g0, g1⟩ := hrd
      have c0 : wr.cell? ⟨b, off + k * 2, none⟩ = some (_) := hcell 0 _ rfl
      have c1 : wr.cell? ⟨b, off + k * 2 + 1, none⟩ = some (_) := hcell 1 _ rfl
      have lb := cell_lt c0
      obtain ⟨cs, hB, hL⟩ := hF.blk
      have lB := hB.lt
      have hL' : cs.length = len * 2 := hL
      obtain ⟨z0, s0⟩ := hB.get (j := k * 2) (by omega)
      have f0 := hB.frozen (k * 2)
      obtain ⟨z1, s1⟩ := hB.get (j := k * 2 + 1) (by omega)
      have f1 := hB.frozen (k * 2 + 1)
      have HL : Hid (cs.length = len * 2) := hL
      have HD : Hid (l[k]? = some d) := hd
      have HF : Hid (Fill wr w.heap.size 38 len l k) := hF
      clear hcell hys hL hL' hd hF
      go_wp2_with (first | (first | (go_at_call 36; (with_reducible refine (to_Rg d _).mono ?_); rintro _ _ ⟨rfl, x, rfl⟩)) | ((first | with_reducible refine wp_region_qe (by kernel_rfl) (by kernel_rfl) ?_ | with_reducible refine wp_region_q (by kernel_rfl) (by kernel_rfl) ?_); (repeat (go_big_quiet_step ((first | (go_at_call 36; first | with_reducible exact Calls.qb (by assumption) (to_Rg d _) | with_reducible exact Calls.q (to_Rg d _)))))); refine wpQuiet_nil ?_; intro x))
      go_roundw
      case rel => exact ⟨k + 1, by omega, by go_num, Ext.setW (Nat.le_refl _) [.int .i64 d.f, .int .i64 d.b] (k * 2) (hE.ext x), HF.out.step (w1 := ext wr x) (ys := [.int .i64 d.f, .int .i64 d.b]) HD.out hlt rfl ⟨⟨x, rfl⟩, [], ⟨⟨rfl, g0, g1⟩, rfl⟩, by simp, by simp⟩⟩
      case measure => simp [intOf]; omega
    · obtain rfl : k = len := by omega
      have hres := Fill.done hE (Nat.le_refl _) HZ.out (by unfold maxLen; omega) hF
      obtain ⟨x, rfl⟩ := hE
      clear hF
      go_wp2
      go_ret
      exact ⟨_, rfl, x, rfl, hres⟩

set_option maxHeartbeats 1000000 in
theorem eq_LRg (a : Option Addr) (len cap : Nat) (l : (List Rg)) (a' : Option Addr) (len' cap' : Nat) (l' : (List Rg)) (w : World) (h : SlRd w a len cap l) (h' : SlRd w a' len' cap' l') :
    Calls Tryz.prog 63 #[.slice a len cap, .slice a' len' cap'] w fun e w' => e = .returned (.bool (decide (l = l'))) ∧ Ext w w' := by
  have hm := h.2.2.1
  have hlc := h.2.1
  have hlen := h.1
  have hlen' := h'.1
  unfold maxLen at hm
  by_cases hne : len = len'
  · subst hne
    have HL : Hid (l.length = len) := hlen
    have HL' : Hid (l'.length = len) := hlen'
    clear hlen hlen'
    go_enter Tryz.func63, Tryz.ntmps63
    go_wp2_with fail
    go_loopw [5] (fun i wr => ∃ k : Nat, k ≤ len ∧ i = .int .i64 k ∧ Ext w wr ∧ Hid (l.take k = l'.take k)) (fun i _ => len - (intOf i).toNat)
    case atStart => exact ⟨0, Nat.zero_le _, rfl, Ext.refl _, rfl⟩
    case round =>
      obtain ⟨k, hk, rfl, hE, HT⟩ := hrel
      by_cases hlt : k < len
      · obtain ⟨d, hd, b, off, ys, rfl, hys, hcell, hrd⟩ := h.at hE hlt
        obtain ⟨d', hd', b', off', ys', rfl, hys', hcell', hrd'⟩ := h'.at hE hlt
        have HD : Hid (l[k]? = some d) := hd
        have HD' : Hid (l'[k]? = some d') := hd'
        clear hd hd'
        obtain ⟨rfl, g0, g1⟩ := hrd
        obtain ⟨rfl, g0', g1'⟩ := hrd'
        have c0 : wr.cell? ⟨b, off + k * 2, none⟩ = some (_) := hcell 0 _ rfl
        have c0' : wr.cell? ⟨b', off' + k * 2, none⟩ = some (_) := hcell' 0 _ rfl
        have c1 : wr.cell? ⟨b, off + k * 2 + 1, none⟩ = some (_) := hcell 1 _ rfl
        have c1' : wr.cell? ⟨b', off' + k * 2 + 1, none⟩ = some (_) := hcell' 1 _ rfl
        have lb := cell_lt c0
        have lb' := cell_lt c0'
        clear hcell hys hcell' hys'
        by_cases hdd : d = d'
        · have hb : decide (d = d') = true := by simpa using hdd
          have HDD : Hid (d = d') := hdd
          clear hdd
          go_wp2_with (first | (first | (go_at_call 45; (with_reducible refine (eq_Rg d d'  _).mono ?_); rintro _ _ ⟨rfl, x, rfl⟩)) | ((first | with_reducible refine wp_region_qe (by kernel_rfl) (by kernel_rfl) ?_ | with_reducible refine wp_region_q (by kernel_rfl) (by kernel_rfl) ?_); (repeat (go_big_quiet_step ((first | (go_at_call 45; first | with_reducible exact Calls.qb (by assumption) (eq_Rg d d'  _) | with_reducible exact Calls.q (eq_Rg d d'  _)))))); refine wpQuiet_nil ?_; intro x))
          go_roundw
          case rel => exact ⟨k + 1, by omega, by go_num, (by first | exact hE | exact hE.ext _ | exact hE.trans (by repeat (first | with_reducible exact Ext.refl _ | with_reducible apply Ext.and | with_reducible apply Ext.drewx | with_reducible apply Ext.alloc | with_reducible apply Ext.ext | with_reducible apply Ext.drew | with_reducible refine Ext.setCell ?_ (by simp) _))), take_succ_eq HT.out HD.out (HDD.out ▸ HD'.out)⟩
          case measure => simp [intOf]; omega
        · have hb : decide (d = d') = false := by simpa using hdd
          have HDD : Hid (¬ d = d') := hdd
          clear hdd
          go_wp2_with (first | (first | (go_at_call 45; (with_reducible refine (eq_Rg d d'  _).mono ?_); rintro _ _ ⟨rfl, x, rfl⟩)) | ((first | with_reducible refine wp_region_qe (by kernel_rfl) (by kernel_rfl) ?_ | with_reducible refine wp_region_q (by kernel_rfl) (by kernel_rfl) ?_); (repeat (go_big_quiet_step ((first | (go_at_call 45; first | with_reducible exact Calls.qb (by assumption) (eq_Rg d d'  _) | with_reducible exact Calls.q (eq_Rg d d'  _)))))); refine wpQuiet_nil ?_; intro x))
          go_ret
          exact ⟨ret_bool (by simpa using ne_at HD.out HD'.out HDD.out), (by first | exact hE | exact hE.ext _ | exact hE.trans (by repeat (first | with_reducible exact Ext.refl _ | with_reducible apply Ext.and | with_reducible apply Ext.drewx | with_reducible apply Ext.alloc | with_reducible apply Ext.ext | with_reducible apply Ext.drew | with_reducible refine Ext.setCell ?_ (by simp) _)))⟩
      · obtain rfl : k = len := by omega
        go_wp2_with (first | ((first | with_reducible refine wp_region_qe (by kernel_rfl) (by kernel_rfl) ?_ | with_reducible refine wp_region_q (by kernel_rfl) (by kernel_rfl) ?_); (repeat (go_big_quiet_step (fail))); refine wpQuiet_nil ?_; intro x))
        go_ret
        exact ⟨ret_bool (by simpa using eq_take HT.out HL.out HL'.out), (by first | exact hE | exact hE.ext _ | exact hE.trans (by repeat (first | with_reducible exact Ext.refl _ | with_reducible apply Ext.and | with_reducible apply Ext.drewx | with_reducible apply Ext.alloc | with_reducible apply Ext.ext | with_reducible apply Ext.drew | with_reducible refine Ext.setCell ?_ (by simp) _)))⟩
  · have hb : ((len : Int) != (len' : Int)) = true := by simpa using (by omega : ¬ (len : Int) = len')
    go_enter Tryz.func63, Tryz.ntmps63
    go_wp2_with (first | ((first | with_reducible refine wp_region_qe (by kernel_rfl) (by kernel_rfl) ?_ | with_reducible refine wp_region_q (by kernel_rfl) (by kernel_rfl) ?_); (repeat (go_big_quiet_step (fail))); refine wpQuiet_nil ?_; intro x))
    go_ret
    exact ⟨ret_bool (by simpa using (fun e : l = l' => hne (by rw [← hlen, ← hlen', e]))), Ext.refl _⟩



















set_option maxHeartbeats 1000000 in
theorem sz_Rt (d : Rt) (a_path : Option Addr) (n_path c_path : Nat) (a_marks : Option Addr) (n_marks c_marks : Nat) (left : Int) (w : World) (s2 : SlRd w a_path n_path c_path d.path) (s4 : SlRd w a_marks n_marks c_marks d.marks) (h0 : 0 ≤ left) (h1 : left ≤ 1048576) :
    Calls Tryz.prog 6 #[.agg #[.int .i64 d.r.f, .int .i64 d.r.b, .slice a_path n_path c_path, .int .i64 d.like, .slice a_marks n_marks c_marks], .int .i64 left] w fun e w' => e = .returned (.int .i64 (szR (Sz.sz d) left)) ∧ Ext w w' := by
  have HZ : Hid (Sz.sz d = Sz.sz d.path + Sz.sz d.marks) := rfl
  have tk : True := True.intro
  by_cases hz1 : (Sz.sz d.path : Int) ≤ left
  · have e1 := szR_le hz1
    by_cases hz2 : (Sz.sz d.marks : Int) ≤ left - Sz.sz d.path
    · have e2 := szR_le hz2
      go_enter Tryz.func6, Tryz.ntmps6
      go_wp2_with (first | (first | ((go_at_call 28; have _t := tk; (with_reducible refine (sz_Lint _ _ _ d.path _ _ (s2.stays ((by repeat (first | with_reducible exact Ext.refl _ | with_reducible apply Ext.and | with_reducible apply Ext.drewx | with_reducible apply Ext.alloc | with_reducible apply Ext.ext | with_reducible apply Ext.drew | with_reducible refine Ext.setCell ?_ (by simp) _)) : Ext _ _).below) (by omega) (by omega)).mono ?_); rintro _ _ ⟨rfl, x, rfl⟩; clear tk _t)) | (go_at_call 28; (with_reducible refine (sz_Lint _ _ _ d.marks _ _ (s4.stays ((by repeat (first | with_reducible exact Ext.refl _ | with_reducible apply Ext.and | with_reducible apply Ext.drewx | with_reducible apply Ext.alloc | with_reducible apply Ext.ext | with_reducible apply Ext.drew | with_reducible refine Ext.setCell ?_ (by simp) _)) : Ext _ _).below) (by omega) (by omega)).mono ?_); rintro _ _ ⟨rfl, x, rfl⟩)) | ((first | with_reducible refine wp_region_qe (by kernel_rfl) (by kernel_rfl) ?_ | with_reducible refine wp_region_q (by kernel_rfl) (by kernel_rfl) ?_); (repeat (go_big_quiet_step ((first | ((go_at_call 28; have _t := tk; (with_reducible refine (sz_Lint _ _ _ d.path _ _ (s2.stays ((by repeat (first | with_reducible exact Ext.refl _ | with_reducible apply Ext.and | with_reducible apply Ext.drewx | with_reducible apply Ext.alloc | with_reducible apply Ext.ext | with_reducible apply Ext.drew | with_reducible refine Ext.setCell ?_ (by simp) _)) : Ext _ _).below) (by omega) (by omega)).mono ?_); rintro _ _ ⟨rfl, x, rfl⟩; clear tk _t)) | (go_at_call 28; first | with_reducible exact Calls.qb (by assumption) (sz_Lint _ _ _ d.marks _ _ (s4.stays ((by repeat (first | with_reducible exact Ext.refl _ | with_reducible apply Ext.and | with_reducible apply Ext.drewx | with_reducible apply Ext.alloc | with_reducible apply Ext.ext | with_reducible apply Ext.drew | with_reducible refine Ext.setCell ?_ (by simp) _)) : Ext _ _).below) (by omega) (by omega)) | with_reducible exact Calls.q (sz_Lint _ _ _ d.marks _ _ (s4.stays ((by repeat (first | with_reducible exact Ext.refl _ | with_reducible apply Ext.and | with_reducible apply Ext.drewx | with_reducible apply Ext.alloc | with_reducible apply Ext.ext | with_reducible apply Ext.drew | with_reducible refine Ext.setCell ?_ (by simp) _)) : Ext _ _).below) (by omega) (by omega))))))); refine wpQuiet_nil ?_; intro x))
      go_ret
      exact ⟨ret_int (by have h3 := HZ.out; rw [h3]; (rw [szR_le (by omega)] <;> omega)), (by repeat (first | with_reducible exact Ext.refl _ | with_reducible apply Ext.and | with_reducible apply Ext.drewx | with_reducible apply Ext.alloc | with_reducible apply Ext.ext | with_reducible apply Ext.drew | with_reducible refine Ext.setCell ?_ (by simp) _))⟩
    · have e2 := szR_gt hz2
      go_enter Tryz.func6, Tryz.ntmps6
      go_wp2_with (first | (first | ((go_at_call 28; have _t := tk; (with_reducible refine (sz_Lint _ _ _ d.path _ _ (s2.stays ((by repeat (first | with_reducible exact Ext.refl _ | with_reducible apply Ext.and | with_reducible apply Ext.drewx | with_reducible apply Ext.alloc | with_reducible apply Ext.ext | with_reducible apply Ext.drew | with_reducible refine Ext.setCell ?_ (by simp) _)) : Ext _ _).below) (by omega) (by omega)).mono ?_); rintro _ _ ⟨rfl, x, rfl⟩; clear tk _t)) | (go_at_call 28; (with_reducible refine (sz_Lint _ _ _ d.marks _ _ (s4.stays ((by repeat (first | with_reducible exact Ext.refl _ | with_reducible apply Ext.and | with_reducible apply Ext.drewx | with_reducible apply Ext.alloc | with_reducible apply Ext.ext | with_reducible apply Ext.drew | with_reducible refine Ext.setCell ?_ (by simp) _)) : Ext _ _).below) (by omega) (by omega)).mono ?_); rintro _ _ ⟨rfl, x, rfl⟩)) | ((first | with_reducible refine wp_region_qe (by kernel_rfl) (by kernel_rfl) ?_ | with_reducible refine wp_region_q (by kernel_rfl) (by kernel_rfl) ?_); (repeat (go_big_quiet_step ((first | ((go_at_call 28; have _t := tk; (with_reducible refine (sz_Lint _ _ _ d.path _ _ (s2.stays ((by repeat (first | with_reducible exact Ext.refl _ | with_reducible apply Ext.and | with_reducible apply Ext.drewx | with_reducible apply Ext.alloc | with_reducible apply Ext.ext | with_reducible apply Ext.drew | with_reducible refine Ext.setCell ?_ (by simp) _)) : Ext _ _).below) (by omega) (by omega)).mono ?_); rintro _ _ ⟨rfl, x, rfl⟩; clear tk _t)) | (go_at_call 28; first | with_reducible exact Calls.qb (by assumption) (sz_Lint _ _ _ d.marks _ _ (s4.stays ((by repeat (first | with_reducible exact Ext.refl _ | with_reducible apply Ext.and | with_reducible apply Ext.drewx | with_reducible apply Ext.alloc | with_reducible apply Ext.ext | with_reducible apply Ext.drew | with_reducible refine Ext.setCell ?_ (by simp) _)) : Ext _ _).below) (by omega) (by omega)) | with_reducible exact Calls.q (sz_Lint _ _ _ d.marks _ _ (s4.stays ((by repeat (first | with_reducible exact Ext.refl _ | with_reducible apply Ext.and | with_reducible apply Ext.drewx | with_reducible apply Ext.alloc | with_reducible apply Ext.ext | with_reducible apply Ext.drew | with_reducible refine Ext.setCell ?_ (by simp) _)) : Ext _ _).below) (by omega) (by omega))))))); refine wpQuiet_nil ?_; intro x))
      go_ret
      exact ⟨ret_int (by have h3 := HZ.out; rw [h3]; exact (szR_gt (by omega)).symm), (by repeat (first | with_reducible exact Ext.refl _ | with_reducible apply Ext.and | with_reducible apply Ext.drewx | with_reducible apply Ext.alloc | with_reducible apply Ext.ext | with_reducible apply Ext.drew | with_reducible refine Ext.setCell ?_ (by simp) _))⟩
  · have e1 := szR_gt hz1
    go_enter Tryz.func6, Tryz.ntmps6
    go_wp2_with (first | (first | ((go_at_call 28; have _t := tk; (with_reducible refine (sz_Lint _ _ _ d.path _ _ (s2.stays ((by repeat (first | with_reducible exact Ext.refl _ | with_reducible apply Ext.and | with_reducible apply Ext.drewx | with_reducible apply Ext.alloc | with_reducible apply Ext.ext | with_reducible apply Ext.drew | with_reducible refine Ext.setCell ?_ (by simp) _)) : Ext _ _).below) (by omega) (by omega)).mono ?_); rintro _ _ ⟨rfl, x, rfl⟩; clear tk _t)) | (go_at_call 28; (with_reducible refine (sz_Lint _ _ _ d.marks _ _ (s4.stays ((by repeat (first | with_reducible exact Ext.refl _ | with_reducible apply Ext.and | with_reducible apply Ext.drewx | with_reducible apply Ext.alloc | with_reducible apply Ext.ext | with_reducible apply Ext.drew | with_reducible refine Ext.setCell ?_ (by simp) _)) : Ext _ _).below) (by omega) (by omega)).mono ?_); rintro _ _ ⟨rfl, x, rfl⟩)) | ((first | with_reducible refine wp_region_qe (by kernel_rfl) (by kernel_rfl) ?_ | with_reducible refine wp_region_q (by kernel_rfl) (by kernel_rfl) ?_); (repeat (go_big_quiet_step ((first | ((go_at_call 28; have _t := tk; (with_reducible refine (sz_Lint _ _ _ d.path _ _ (s2.stays ((by repeat (first | with_reducible exact Ext.refl _ | with_reducible apply Ext.and | with_reducible apply Ext.drewx | with_reducible apply Ext.alloc | with_reducible apply Ext.ext | with_reducible apply Ext.drew | with_reducible refine Ext.setCell ?_ (by simp) _)) : Ext _ _).below) (by omega) (by omega)).mono ?_); rintro _ _ ⟨rfl, x, rfl⟩; clear tk _t)) | (go_at_call 28; first | with_reducible exact Calls.qb (by assumption) (sz_Lint _ _ _ d.marks _ _ (s4.stays ((by repeat (first | with_reducible exact Ext.refl _ | with_reducible apply Ext.and | with_reducible apply Ext.drewx | with_reducible apply Ext.alloc | with_reducible apply Ext.ext | with_reducible apply Ext.drew | with_reducible refine Ext.setCell ?_ (by simp) _)) : Ext _ _).below) (by omega) (by omega)) | with_reducible exact Calls.q (sz_Lint _ _ _ d.marks _ _ (s4.stays ((by repeat (first | with_reducible exact Ext.refl _ | with_reducible apply Ext.and | with_reducible apply Ext.drewx | with_reducible apply Ext.alloc | with_reducible apply Ext.ext | with_reducible apply Ext.drew | with_reducible refine Ext.setCell ?_ (by simp) _)) : Ext _ _).below) (by omega) (by omega))))))); refine wpQuiet_nil ?_; intro x))
    go_ret
    exact ⟨ret_int (by have h3 := HZ.out; rw [h3]; exact (szR_gt (by omega)).symm), (by repeat (first | with_reducible exact Ext.refl _ | with_reducible apply Ext.and | with_reducible apply Ext.drewx | with_reducible apply Ext.alloc | with_reducible apply Ext.ext | with_reducible apply Ext.drew | with_reducible refine Ext.setCell ?_ (by simp) _))⟩

set_option linter.unusedSimpArgs false in
set_option maxHeartbeats 2000000 in
theorem to_Rt (d : Rt) (a_path : Option Addr) (n_path c_path : Nat) (a_marks : Option Addr) (n_marks c_marks : Nat) (w : World) (hn : Sz.sz d ≤ 1048576) (h0 : I64 d.r.f) (h1 : I64 d.r.b) (h2 : SlRd w a_path n_path c_path d.path) (h3 : I64 d.like) (h4 : SlRd w a_marks n_marks c_marks d.marks) :
    Calls Tryz.prog 9 #[.agg #[.int .i64 d.r.f, .int .i64 d.r.b, .slice a_path n_path c_path, .int .i64 d.like, .slice a_marks n_marks c_marks]] w fun e w' => ∃ a_pathq n_pathq c_pathq a_marksq n_marksq c_marksq, e = .returned (.agg #[.int .i64 d.r.f, .int .i64 d.r.b, .slice a_pathq n_pathq c_pathq, .int .i64 d.like, .slice a_marksq n_marksq c_marksq]) ∧ ∃ x, w' = ext w x ∧ Hid (Fresh w (ext w x) [.int .i64 d.r.f, .int .i64 d.r.b, .slice a_pathq n_pathq c_pathq, .int .i64 d.like, .slice a_marksq n_marksq c_marksq] d) := by
  have hz : Sz.sz d = Sz.sz d.path + Sz.sz d.marks := rfl
  have z0 : Sz.sz d.path ≤ 1048576 := by omega
  have tk0 : True := trivial
  have z1 : Sz.sz d.marks ≤ 1048576 := by omega
  have tk1 : True := trivial
  clear hz hn
  go_enter Tryz.func9, Tryz.ntmps9
  go_wp2_with (first | (first | (go_at_call 36; (with_reducible refine (to_Rg _ _).mono ?_); rintro _ _ ⟨rfl, x, rfl⟩) | ((go_at_call 37; have _t := tk0; (with_reducible refine (to_Lint _ _ _ _ _ ?_ z0).mono ?_); (exact h2.stays ((by repeat (first | with_reducible exact Ext.refl _ | with_reducible apply Ext.and | with_reducible apply Ext.drewx | with_reducible apply Ext.alloc | with_reducible apply Ext.ext | with_reducible apply Ext.drew | with_reducible refine Ext.setCell ?_ (by simp) _)) : Ext _ _).below); rintro _ _ ⟨B0, rfl, x0, rfl, F0⟩; (try rw [ext_ext] at F0); clear tk0 _t)) | ((go_at_call 37; have _t := tk1; (with_reducible refine (to_Lint _ _ _ _ _ ?_ z1).mono ?_); (exact h4.stays ((by repeat (first | with_reducible exact Ext.refl _ | with_reducible apply Ext.and | with_reducible apply Ext.drewx | with_reducible apply Ext.alloc | with_reducible apply Ext.ext | with_reducible apply Ext.drew | with_reducible refine Ext.setCell ?_ (by simp) _)) : Ext _ _).below); rintro _ _ ⟨B1, rfl, x1, rfl, F1⟩; (try rw [ext_ext] at F1); clear tk1 _t))) | ((first | with_reducible refine wp_region_qe (by kernel_rfl) (by kernel_rfl) ?_ | with_reducible refine wp_region_q (by kernel_rfl) (by kernel_rfl) ?_); (repeat (go_big_quiet_step ((first | (go_at_call 36; first | with_reducible exact Calls.qb (by assumption) (to_Rg _ _) | with_reducible exact Calls.q (to_Rg _ _)) | ((go_at_call 37; have _t := tk0; (with_reducible refine (to_Lint _ _ _ _ _ ?_ z0).mono ?_); (exact h2.stays ((by repeat (first | with_reducible exact Ext.refl _ | with_reducible apply Ext.and | with_reducible apply Ext.drewx | with_reducible apply Ext.alloc | with_reducible apply Ext.ext | with_reducible apply Ext.drew | with_reducible refine Ext.setCell ?_ (by simp) _)) : Ext _ _).below); rintro _ _ ⟨B0, rfl, x0, rfl, F0⟩; (try rw [ext_ext] at F0); clear tk0 _t)) | ((go_at_call 37; have _t := tk1; (with_reducible refine (to_Lint _ _ _ _ _ ?_ z1).mono ?_); (exact h4.stays ((by repeat (first | with_reducible exact Ext.refl _ | with_reducible apply Ext.and | with_reducible apply Ext.drewx | with_reducible apply Ext.alloc | with_reducible apply Ext.ext | with_reducible apply Ext.drew | with_reducible refine Ext.setCell ?_ (by simp) _)) : Ext _ _).below); rintro _ _ ⟨B1, rfl, x1, rfl, F1⟩; (try rw [ext_ext] at F1); clear tk1 _t)))))); refine wpQuiet_nil ?_; intro x))
  refine bodyPost_ret (v := .agg #[.int .i64 d.r.f, .int .i64 d.r.b, .slice (some ⟨B0, 0, none⟩) n_path n_path, .int .i64 d.like, .slice (some ⟨B1, 0, none⟩) n_marks n_marks]) (by simp [results, Tryz.results9, go_sem]) rfl ⟨_, _, _, _, _, _, rfl, fin_fresh ⟨(by repeat (first | with_reducible exact Ext.refl _ | with_reducible apply Ext.and | with_reducible apply Ext.drewx | with_reducible apply Ext.alloc | with_reducible apply Ext.ext | with_reducible apply Ext.drew | with_reducible refine Ext.setCell ?_ (by simp) _)), ?_⟩⟩
  refine own2 F0.out F1.out ?_ ?_ ?_ ?_ ?_
  · simp; try omega
  · simp; try omega
  · exact (by repeat (first | with_reducible exact Abv.refl _ _ | with_reducible apply Abv.and | with_reducible apply Abv.drewx | with_reducible apply Abv.alloc | with_reducible apply Abv.ext | with_reducible apply Abv.drew | with_reducible refine Abv.setCell ?_ (by simp) _))
  · exact (by repeat (first | with_reducible exact Abv.refl _ _ | with_reducible apply Abv.and | with_reducible apply Abv.drewx | with_reducible apply Abv.alloc | with_reducible apply Abv.ext | with_reducible apply Abv.drew | with_reducible refine Abv.setCell ?_ (by simp) _))
  · intro f0 f1 o0 o1
    have o0 := own_slice o0; have o1 := own_slice o1; exact ⟨_, _, _, _, _, _, f0, f1, rfl, h0, h1, o0, h3, o1, rfl⟩

set_option maxHeartbeats 1000000 in
theorem eq_Rt (d d' : Rt) (a_path : Option Addr) (n_path c_path : Nat) (a_marks : Option Addr) (n_marks c_marks : Nat) (a_path' : Option Addr) (n_path' c_path' : Nat) (a_marks' : Option Addr) (n_marks' c_marks' : Nat) (w : World) (h2 : SlRd w a_path n_path c_path d.path) (h2' : SlRd w a_path' n_path' c_path' d'.path) (h4 : SlRd w a_marks n_marks c_marks d.marks) (h4' : SlRd w a_marks' n_marks' c_marks' d'.marks) :
    Calls Tryz.prog 12 #[.agg #[.int .i64 d.r.f, .int .i64 d.r.b, .slice a_path n_path c_path, .int .i64 d.like, .slice a_marks n_marks c_marks], .agg #[.int .i64 (d'.r.f), .int .i64 (d'.r.b), .slice a_path' n_path' c_path', .int .i64 (d'.like), .slice a_marks' n_marks' c_marks']] w fun e w' => e = .returned (.bool (decide (d = d'))) ∧ Ext w w' := by
  go_enter Tryz.func12, Tryz.ntmps12
  go_wp2_with (first | (first | (go_at_call 45; (with_reducible refine (eq_Rg d.r d'.r  _).mono ?_); rintro _ _ ⟨rfl, x, rfl⟩) | (go_at_call 46; (with_reducible refine (eq_Lint _ _ _ d.path _ _ _ d'.path _ (h2.stays ((by repeat (first | with_reducible exact Ext.refl _ | with_reducible apply Ext.and | with_reducible apply Ext.drewx | with_reducible apply Ext.alloc | with_reducible apply Ext.ext | with_reducible apply Ext.drew | with_reducible refine Ext.setCell ?_ (by simp) _)) : Ext _ _).below) (h2'.stays ((by repeat (first | with_reducible exact Ext.refl _ | with_reducible apply Ext.and | with_reducible apply Ext.drewx | with_reducible apply Ext.alloc | with_reducible apply Ext.ext | with_reducible apply Ext.drew | with_reducible refine Ext.setCell ?_ (by simp) _)) : Ext _ _).below)).mono ?_); rintro _ _ ⟨rfl, x, rfl⟩) | (go_at_call 46; (with_reducible refine (eq_Lint _ _ _ d.marks _ _ _ d'.marks _ (h4.stays ((by repeat (first | with_reducible exact Ext.refl _ | with_reducible apply Ext.and | with_reducible apply Ext.drewx | with_reducible apply Ext.alloc | with_reducible apply Ext.ext | with_reducible apply Ext.drew | with_reducible refine Ext.setCell ?_ (by simp) _)) : Ext _ _).below) (h4'.stays ((by repeat (first | with_reducible exact Ext.refl _ | with_reducible apply Ext.and | with_reducible apply Ext.drewx | with_reducible apply Ext.alloc | with_reducible apply Ext.ext | with_reducible apply Ext.drew | with_reducible refine Ext.setCell ?_ (by simp) _)) : Ext _ _).below)).mono ?_); rintro _ _ ⟨rfl, x, rfl⟩)) | ((first | with_reducible refine wp_region_qe (by kernel_rfl) (by kernel_rfl) ?_ | with_reducible refine wp_region_q (by kernel_rfl) (by kernel_rfl) ?_); (repeat (go_big_quiet_step ((first | (go_at_call 45; first | with_reducible exact Calls.qb (by assumption) (eq_Rg d.r d'.r  _) | with_reducible exact Calls.q (eq_Rg d.r d'.r  _)) | (go_at_call 46; first | with_reducible exact Calls.qb (by assumption) (eq_Lint _ _ _ d.path _ _ _ d'.path _ (h2.stays ((by repeat (first | with_reducible exact Ext.refl _ | with_reducible apply Ext.and | with_reducible apply Ext.drewx | with_reducible apply Ext.alloc | with_reducible apply Ext.ext | with_reducible apply Ext.drew | with_reducible refine Ext.setCell ?_ (by simp) _)) : Ext _ _).below) (h2'.stays ((by repeat (first | with_reducible exact Ext.refl _ | with_reducible apply Ext.and | with_reducible apply Ext.drewx | with_reducible apply Ext.alloc | with_reducible apply Ext.ext | with_reducible apply Ext.drew | with_reducible refine Ext.setCell ?_ (by simp) _)) : Ext _ _).below)) | with_reducible exact Calls.q (eq_Lint _ _ _ d.path _ _ _ d'.path _ (h2.stays ((by repeat (first | with_reducible exact Ext.refl _ | with_reducible apply Ext.and | with_reducible apply Ext.drewx | with_reducible apply Ext.alloc | with_reducible apply Ext.ext | with_reducible apply Ext.drew | with_reducible refine Ext.setCell ?_ (by simp) _)) : Ext _ _).below) (h2'.stays ((by repeat (first | with_reducible exact Ext.refl _ | with_reducible apply Ext.and | with_reducible apply Ext.drewx | with_reducible apply Ext.alloc | with_reducible apply Ext.ext | with_reducible apply Ext.drew | with_reducible refine Ext.setCell ?_ (by simp) _)) : Ext _ _).below))) | (go_at_call 46; first | with_reducible exact Calls.qb (by assumption) (eq_Lint _ _ _ d.marks _ _ _ d'.marks _ (h4.stays ((by repeat (first | with_reducible exact Ext.refl _ | with_reducible apply Ext.and | with_reducible apply Ext.drewx | with_reducible apply Ext.alloc | with_reducible apply Ext.ext | with_reducible apply Ext.drew | with_reducible refine Ext.setCell ?_ (by simp) _)) : Ext _ _).below) (h4'.stays ((by repeat (first | with_reducible exact Ext.refl _ | with_reducible apply Ext.and | with_reducible apply Ext.drewx | with_reducible apply Ext.alloc | with_reducible apply Ext.ext | with_reducible apply Ext.drew | with_reducible refine Ext.setCell ?_ (by simp) _)) : Ext _ _).below)) | with_reducible exact Calls.q (eq_Lint _ _ _ d.marks _ _ _ d'.marks _ (h4.stays ((by repeat (first | with_reducible exact Ext.refl _ | with_reducible apply Ext.and | with_reducible apply Ext.drewx | with_reducible apply Ext.alloc | with_reducible apply Ext.ext | with_reducible apply Ext.drew | with_reducible refine Ext.setCell ?_ (by simp) _)) : Ext _ _).below) (h4'.stays ((by repeat (first | with_reducible exact Ext.refl _ | with_reducible apply Ext.and | with_reducible apply Ext.drewx | with_reducible apply Ext.alloc | with_reducible apply Ext.ext | with_reducible apply Ext.drew | with_reducible refine Ext.setCell ?_ (by simp) _)) : Ext _ _).below))))))); refine wpQuiet_nil ?_; intro x))
  all_goals
    go_ret
    exact ⟨ret_bool (by simp_all [Rt_eq]), (by repeat (first | with_reducible exact Ext.refl _ | with_reducible apply Ext.and | with_reducible apply Ext.drewx | with_reducible apply Ext.alloc | with_reducible apply Ext.ext | with_reducible apply Ext.drew | with_reducible refine Ext.setCell ?_ (by simp) _))⟩

set_option maxHeartbeats 1000000 in
theorem sz_LRt (a : Option Addr) (len cap : Nat) (l : (List Rt)) (left : Int) (w : World) (h : SlRd w a len cap l) (h0 : 0 ≤ left) (h1 : left ≤ 1048576) :
    Calls Tryz.prog 16 #[.slice a len cap, .int .i64 left] w fun e w' => e = .returned (.int .i64 (szR (Sz.sz l) left)) ∧ Ext w w' := by
  have hm := h.2.2.1
  have hlc := h.2.1
  have hlen := h.1
  unfold maxLen at hm
  have hsz : Sz.sz l = len + (l.map Sz.sz).sum := by rw [← hlen]; rfl
  have HZ : Hid (Sz.sz l = len + (l.map Sz.sz).sum) := hsz
  have HL : Hid (l.length = len) := hlen
  clear hlen hsz
  by_cases hle : (len : Int) ≤ left
  · go_enter Tryz.func16, Tryz.ntmps16
    go_wp2_with fail
    go_loopw [5, 1] (fun i lf wr => ∃ k : Nat, k ≤ len ∧ i = .int .i64 k ∧ lf = .int .i64 (left - len - ((l.take k).map Sz.sz).sum) ∧ (((l.take k).map Sz.sz).sum : Int) ≤ left - len ∧ Ext w wr) (fun i _ _ => len - (intOf i).toNat)
    case atStart => exact ⟨0, Nat.zero_le _, rfl, by simp, by simp; omega, Ext.refl _⟩
    case round =>
      obtain ⟨k, hk, rfl, rfl, hs, hE⟩ := hrel
      by_cases hlt : k < len
      · obtain ⟨d, hd, b, off, ys, rfl, hys, hcell, hrd⟩ := h.at hE hlt
        have HS := hidden (sum_take_succ hd)
        have HA := hidden (sum_take_le l (k + 1))
        obtain ⟨a_path, n_path, c_path, a_marks, n_marks, c_marks, rfl, g0, g1, g2, g3, g4⟩ := hrd
        have c0 : wr.cell? ⟨b, off + k * 5, none⟩ = some _ := hcell 0 _ rfl
        have c1 : wr.cell? ⟨b, off + k * 5 + 1, none⟩ = some _ := hcell 1 _ rfl
        have c2 : wr.cell? ⟨b, off + k * 5 + 2, none⟩ = some _ := hcell 2 _ rfl
        have c3 : wr.cell? ⟨b, off + k * 5 + 3, none⟩ = some _ := hcell 3 _ rfl
        have c4 : wr.cell? ⟨b, off + k * 5 + 4, none⟩ = some _ := hcell 4 _ rfl
        have lb := cell_lt c0
        clear hcell hys hd
        generalize ((l.take k).map Sz.sz).sum = q at *
        by_cases hq : (Sz.sz d : Int) ≤ left - len - q
        · have e1 := szR_le hq
          go_wp2_with (first | (first | (go_at_call 6; (with_reducible refine (sz_Rt d _ _ _ _ _ _ _ _ (g2.stays ((by repeat (first | with_reducible exact Ext.refl _ | with_reducible apply Ext.and | with_reducible apply Ext.drewx | with_reducible apply Ext.alloc | with_reducible apply Ext.ext | with_reducible apply Ext.drew | with_reducible refine Ext.setCell ?_ (by simp) _)) : Ext _ _).below) (g4.stays ((by repeat (first | with_reducible exact Ext.refl _ | with_reducible apply Ext.and | with_reducible apply Ext.drewx | with_reducible apply Ext.alloc | with_reducible apply Ext.ext | with_reducible apply Ext.drew | with_reducible refine Ext.setCell ?_ (by simp) _)) : Ext _ _).below) (by omega) (by omega)).mono ?_); rintro _ _ ⟨rfl, x, rfl⟩)) | ((first | with_reducible refine wp_region_qe (by kernel_rfl) (by kernel_rfl) ?_ | with_reducible refine wp_region_q (by kernel_rfl) (by kernel_rfl) ?_); (repeat (go_big_quiet_step ((first | (go_at_call 6; first | with_reducible exact Calls.qb (by assumption) (sz_Rt d _ _ _ _ _ _ _ _ (g2.stays ((by repeat (first | with_reducible exact Ext.refl _ | with_reducible apply Ext.and | with_reducible apply Ext.drewx | with_reducible apply Ext.alloc | with_reducible apply Ext.ext | with_reducible apply Ext.drew | with_reducible refine Ext.setCell ?_ (by simp) _)) : Ext _ _).below) (g4.stays ((by repeat (first | with_reducible exact Ext.refl _ | with_reducible apply Ext.and | with_reducible apply Ext.drewx | with_reducible apply Ext.alloc | with_reducible apply Ext.ext | with_reducible apply Ext.drew | with_reducible refine Ext.setCell ?_ (by simp) _)) : Ext _ _).below) (by omega) (by omega)) | with_reducible exact Calls.q (sz_Rt d _ _ _ _ _ _ _ _ (g2.stays ((by repeat (first | with_reducible exact Ext.refl _ | with_reducible apply Ext.and | with_reducible apply Ext.drewx | with_reducible apply Ext.alloc | with_reducible apply Ext.ext | with_reducible apply Ext.drew | with_reducible refine Ext.setCell ?_ (by simp) _)) : Ext _ _).below) (g4.stays ((by repeat (first | with_reducible exact Ext.refl _ | with_reducible apply Ext.and | with_reducible apply Ext.drewx | with_reducible apply Ext.alloc | with_reducible apply Ext.ext | with_reducible apply Ext.drew | with_reducible refine Ext.setCell ?_ (by simp) _)) : Ext _ _).below) (by omega) (by omega))))))); refine wpQuiet_nil ?_; intro x))
          go_roundw
          case rel => exact ⟨k + 1, by omega, by go_num, int_eq (by rw [HS.out]; omega), by rw [HS.out]; omega, (by first | exact hE | exact hE.ext _ | exact hE.trans (by repeat (first | with_reducible exact Ext.refl _ | with_reducible apply Ext.and | with_reducible apply Ext.drewx | with_reducible apply Ext.alloc | with_reducible apply Ext.ext | with_reducible apply Ext.drew | with_reducible refine Ext.setCell ?_ (by simp) _)))⟩
          case measure => simp [intOf]; omega
        · have e1 := szR_gt hq
          go_wp2_with (first | (first | (go_at_call 6; (with_reducible refine (sz_Rt d _ _ _ _ _ _ _ _ (g2.stays ((by repeat (first | with_reducible exact Ext.refl _ | with_reducible apply Ext.and | with_reducible apply Ext.drewx | with_reducible apply Ext.alloc | with_reducible apply Ext.ext | with_reducible apply Ext.drew | with_reducible refine Ext.setCell ?_ (by simp) _)) : Ext _ _).below) (g4.stays ((by repeat (first | with_reducible exact Ext.refl _ | with_reducible apply Ext.and | with_reducible apply Ext.drewx | with_reducible apply Ext.alloc | with_reducible apply Ext.ext | with_reducible apply Ext.drew | with_reducible refine Ext.setCell ?_ (by simp) _)) : Ext _ _).below) (by omega) (by omega)).mono ?_); rintro _ _ ⟨rfl, x, rfl⟩)) | ((first | with_reducible refine wp_region_qe (by kernel_rfl) (by kernel_rfl) ?_ | with_reducible refine wp_region_q (by kernel_rfl) (by kernel_rfl) ?_); (repeat (go_big_quiet_step ((first | (go_at_call 6; first | with_reducible exact Calls.qb (by assumption) (sz_Rt d _ _ _ _ _ _ _ _ (g2.stays ((by repeat (first | with_reducible exact Ext.refl _ | with_reducible apply Ext.and | with_reducible apply Ext.drewx | with_reducible apply Ext.alloc | with_reducible apply Ext.ext | with_reducible apply Ext.drew | with_reducible refine Ext.setCell ?_ (by simp) _)) : Ext _ _).below) (g4.stays ((by repeat (first | with_reducible exact Ext.refl _ | with_reducible apply Ext.and | with_reducible apply Ext.drewx | with_reducible apply Ext.alloc | with_reducible apply Ext.ext | with_reducible apply Ext.drew | with_reducible refine Ext.setCell ?_ (by simp) _)) : Ext _ _).below) (by omega) (by omega)) | with_reducible exact Calls.q (sz_Rt d _ _ _ _ _ _ _ _ (g2.stays ((by repeat (first | with_reducible exact Ext.refl _ | with_reducible apply Ext.and | with_reducible apply Ext.drewx | with_reducible apply Ext.alloc | with_reducible apply Ext.ext | with_reducible apply Ext.drew | with_reducible refine Ext.setCell ?_ (by simp) _)) : Ext _ _).below) (g4.stays ((by repeat (first | with_reducible exact Ext.refl _ | with_reducible apply Ext.and | with_reducible apply Ext.drewx | with_reducible apply Ext.alloc | with_reducible apply Ext.ext | with_reducible apply Ext.drew | with_reducible refine Ext.setCell ?_ (by simp) _)) : Ext _ _).below) (by omega) (by omega))))))); refine wpQuiet_nil ?_; intro x))
          go_ret
          exact ⟨ret_int (by have h1 := HS.out; have h2 := HA.out; have h3 := HZ.out; rw [h3]; exact (szR_gt (by omega)).symm), (by first | exact hE | exact hE.ext _ | exact hE.trans (by repeat (first | with_reducible exact Ext.refl _ | with_reducible apply Ext.and | with_reducible apply Ext.drewx | with_reducible apply Ext.alloc | with_reducible apply Ext.ext | with_reducible apply Ext.drew | with_reducible refine Ext.setCell ?_ (by simp) _)))⟩
      · obtain rfl : k = len := by omega
        have hall : (l.take k) = l := List.take_of_length_le (Nat.le_of_eq HL.out)
        have HT := hidden hall
        clear hall
        go_wp2_with (first | ((first | with_reducible refine wp_region_qe (by kernel_rfl) (by kernel_rfl) ?_ | with_reducible refine wp_region_q (by kernel_rfl) (by kernel_rfl) ?_); (repeat (go_big_quiet_step (fail))); refine wpQuiet_nil ?_; intro x))
        go_ret
        exact ⟨ret_int (by have h3 := HZ.out; have hs' := hs; rw [HT.out] at hs' ⊢; rw [h3, szR_le (by omega)]; omega), (by first | exact hE | exact hE.ext _ | exact hE.trans (by repeat (first | with_reducible exact Ext.refl _ | with_reducible apply Ext.and | with_reducible apply Ext.drewx | with_reducible apply Ext.alloc | with_reducible apply Ext.ext | with_reducible apply Ext.drew | with_reducible refine Ext.setCell ?_ (by simp) _)))⟩
  · go_enter Tryz.func16, Tryz.ntmps16
    go_wp2_with (first | ((first | with_reducible refine wp_region_qe (by kernel_rfl) (by kernel_rfl) ?_ | with_reducible refine wp_region_q (by kernel_rfl) (by kernel_rfl) ?_); (repeat (go_big_quiet_step (fail))); refine wpQuiet_nil ?_; intro x))
    go_ret
    exact ⟨ret_int (by have h3 := HZ.out; rw [h3]; exact (szR_gt (by omega)).symm), Ext.refl _⟩

theorem info_impl_Rt : (Tryz.prog.info? 40).map (fun i => (i.zero, i.size, i.bytes)) = some (some (.agg #[.int .i64 0, .int .i64 0, .slice none 0 0, .int .i64 0, .slice none 0 0]), 5, 72) := by kernel_rfl
set_option maxHeartbeats 1000000 in
theorem to_LRt (a : Option Addr) (len cap : Nat) (l : (List Rt)) (w : World) (h : SlRd w a len cap l) (hn : Sz.sz l ≤ 1048576) :
    Calls Tryz.prog 19 #[.slice a len cap] w fun e w' => ∃ B, e = .returned (.slice (some ⟨B, 0, none⟩) len len) ∧ ∃ x, w' = ext w x ∧ Hid (Fresh w (ext w x) [.slice (some ⟨B, 0, none⟩) len len] l) := by
  have hlen := h.1
  have hn' : len ≤ 1048576 := by have : Sz.sz l = l.length + (l.map Sz.sz).sum := rfl; omega
  obtain ⟨i0, hi, hz0, hz1, hz2⟩ := info_parts info_impl_Rt
  have hmk := mkSlice Tryz.underlying53 hi hz0 len (by rw [hz2]; omega) (by unfold maxLen; omega)
  have HZ : Hid (l.length = len) := hlen
  have HN : Hid (Sz.sz l ≤ 1048576) := hn
  clear hlen hn
  go_enter Tryz.func19, Tryz.ntmps19
  go_wp2_with fail
  have hF : Fill (w.alloc (Obj.cells (madeCells #[.int .i64 0, .int .i64 0, .slice none 0 0, .int .i64 0, .slice none 0 0] (len * 5)) 40)) w.heap.size 40 len l 0 := Fill.start (Blk.new w _ _) (by simp [madeCells]; first | rfl | exact (Nat.mul_one len).symm)
  have hE : Ext w (w.alloc (Obj.cells (madeCells #[.int .i64 0, .int .i64 0, .slice none 0 0, .int .i64 0, .slice none 0 0] (len * 5)) 40)) := (by repeat (first | with_reducible exact Ext.refl _ | with_reducible apply Ext.and | with_reducible apply Ext.drewx | with_reducible apply Ext.alloc | with_reducible apply Ext.ext | with_reducible apply Ext.drew | with_reducible refine Ext.setCell ?_ (by simp) _))
  generalize (w.alloc (Obj.cells (madeCells #[.int .i64 0, .int .i64 0, .slice none 0 0, .int .i64 0, .slice none 0 0] (len * 5)) 40)) = w1 at *
  clear hmk
  go_loopw [4] (fun i wr => ∃ k : Nat, k ≤ len ∧ i = .int .i64 k ∧ Ext w wr ∧ Fill wr w.heap.size 40 len l k) (fun i _ => len - (intOf i).toNat)
  case atStart => exact ⟨0, Nat.zero_le _, rfl, hE, hF⟩
  case round =>
    obtain ⟨k, hk, rfl, hE, hF⟩ := hrel
    by_cases hlt : k < len
    · obtain ⟨d, hd, b, off, ys, rfl, hys, hcell, hrd⟩ := h.at hE hlt
      obtain ⟨a_path, n_path, c_path, a_marks, n_marks, c_marks, rfl, g0, g1, g2, g3, g4⟩ := hrd
      have c0 : wr.cell? ⟨b, off + k * 5, none⟩ = some (_) := hcell 0 _ rfl
      have c1 : wr.cell? ⟨b, off + k * 5 + 1, none⟩ = some (_) := hcell 1 _ rfl
      have c2 : wr.cell? ⟨b, off + k * 5 + 2, none⟩ = some (_) := hcell 2 _ rfl
      have c3 : wr.cell? ⟨b, off + k * 5 + 3, none⟩ = some (_) := hcell 3 _ rfl
      have c4 : wr.cell? ⟨b, off + k * 5 + 4, none⟩ = some (_) := hcell 4 _ rfl
      have lb := cell_lt c0
      obtain ⟨cs, hB, hL⟩ := hF.blk
      have lB := hB.lt
      have hL' : cs.length = len * 5 := hL
      obtain ⟨z0, s0⟩ := hB.get (j := k * 5) (by omega)
      have f0 := hB.frozen (k * 5)
      obtain ⟨z1, s1⟩ := hB.get (j := k * 5 + 1) (by omega)
      have f1 := hB.frozen (k * 5 + 1)
      obtain ⟨z2, s2⟩ := hB.get (j := k * 5 + 2) (by omega)
      have f2 := hB.frozen (k * 5 + 2)
      obtain ⟨z3, s3⟩ := hB.get (j := k * 5 + 3) (by omega)
      have f3 := hB.frozen (k * 5 + 3)
      obtain ⟨z4, s4⟩ := hB.get (j := k * 5 + 4) (by omega)
      have f4 := hB.frozen (k * 5 + 4)
      have HL : Hid (cs.length = len * 5) := hL
      have HD : Hid (l[k]? = some d) := hd
      have HF : Hid (Fill wr w.heap.size 40 len l k) := hF
      clear hcell hys hL hL' hd hF
      have HZs := sz_at HD.out
      have zk : Sz.sz d ≤ 1048576 := by have := HN.out; omega
      clear HZs
      go_wp2_with (first | (first | ((go_at_call 9; refine (to_Rt d _ _ _ _ _ _ _ zk g0 g1 ?_ g3 ?_).mono ?_; (exact g2.stays ((by repeat (first | with_reducible exact Ext.refl _ | with_reducible apply Ext.and | with_reducible apply Ext.drewx | with_reducible apply Ext.alloc | with_reducible apply Ext.ext | with_reducible apply Ext.drew | with_reducible refine Ext.setCell ?_ (by simp) _)) : Ext _ _).below); (exact g4.stays ((by repeat (first | with_reducible exact Ext.refl _ | with_reducible apply Ext.and | with_reducible apply Ext.drewx | with_reducible apply Ext.alloc | with_reducible apply Ext.ext | with_reducible apply Ext.drew | with_reducible refine Ext.setCell ?_ (by simp) _)) : Ext _ _).below); rintro _ _ ⟨a_pathq, n_pathq, c_pathq, a_marksq, n_marksq, c_marksq, rfl, x, rfl, F0⟩; (try rw [ext_ext] at F0)))) | ((first | with_reducible refine wp_region_qe (by kernel_rfl) (by kernel_rfl) ?_ | with_reducible refine wp_region_q (by kernel_rfl) (by kernel_rfl) ?_); (repeat (go_big_quiet_step ((first | ((go_at_call 9; refine (to_Rt d _ _ _ _ _ _ _ zk g0 g1 ?_ g3 ?_).mono ?_; (exact g2.stays ((by repeat (first | with_reducible exact Ext.refl _ | with_reducible apply Ext.and | with_reducible apply Ext.drewx | with_reducible apply Ext.alloc | with_reducible apply Ext.ext | with_reducible apply Ext.drew | with_reducible refine Ext.setCell ?_ (by simp) _)) : Ext _ _).below); (exact g4.stays ((by repeat (first | with_reducible exact Ext.refl _ | with_reducible apply Ext.and | with_reducible apply Ext.drewx | with_reducible apply Ext.alloc | with_reducible apply Ext.ext | with_reducible apply Ext.drew | with_reducible refine Ext.setCell ?_ (by simp) _)) : Ext _ _).below); rintro _ _ ⟨a_pathq, n_pathq, c_pathq, a_marksq, n_marksq, c_marksq, rfl, x, rfl, F0⟩; (try rw [ext_ext] at F0))))))); refine wpQuiet_nil ?_; intro x))
      go_roundw
      case rel => exact ⟨k + 1, by omega, by go_num, Ext.setW (Nat.le_refl _) [.int .i64 d.r.f, .int .i64 d.r.b, .slice a_pathq n_pathq c_pathq, .int .i64 d.like, .slice a_marksq n_marksq c_marksq] (k * 5) (hE.ext x), HF.out.step (w1 := ext wr x) (ys := [.int .i64 d.r.f, .int .i64 d.r.b, .slice a_pathq n_pathq c_pathq, .int .i64 d.like, .slice a_marksq n_marksq c_marksq]) HD.out hlt rfl F0.out⟩
      case measure => simp [intOf]; omega
    · obtain rfl : k = len := by omega
      have hres := Fill.done hE (Nat.le_refl _) HZ.out (by unfold maxLen; omega) hF
      obtain ⟨x, rfl⟩ := hE
      clear hF
      go_wp2
      go_ret
      exact ⟨_, rfl, x, rfl, hres⟩

set_option maxHeartbeats 1000000 in
theorem eq_LRt (a : Option Addr) (len cap : Nat) (l : (List Rt)) (a' : Option Addr) (len' cap' : Nat) (l' : (List Rt)) (w : World) (h : SlRd w a len cap l) (h' : SlRd w a' len' cap' l') :
    Calls Tryz.prog 22 #[.slice a len cap, .slice a' len' cap'] w fun e w' => e = .returned (.bool (decide (l = l'))) ∧ Ext w w' := by
  have hm := h.2.2.1
  have hlc := h.2.1
  have hlen := h.1
  have hlen' := h'.1
  unfold maxLen at hm
  by_cases hne : len = len'
  · subst hne
    have HL : Hid (l.length = len) := hlen
    have HL' : Hid (l'.length = len) := hlen'
    clear hlen hlen'
    go_enter Tryz.func22, Tryz.ntmps22
    go_wp2_with fail
    go_loopw [5] (fun i wr => ∃ k : Nat, k ≤ len ∧ i = .int .i64 k ∧ Ext w wr ∧ Hid (l.take k = l'.take k)) (fun i _ => len - (intOf i).toNat)
    case atStart => exact ⟨0, Nat.zero_le _, rfl, Ext.refl _, rfl⟩
    case round =>
      obtain ⟨k, hk, rfl, hE, HT⟩ := hrel
      by_cases hlt : k < len
      · obtain ⟨d, hd, b, off, ys, rfl, hys, hcell, hrd⟩ := h.at hE hlt
        obtain ⟨d', hd', b', off', ys', rfl, hys', hcell', hrd'⟩ := h'.at hE hlt
        have HD : Hid (l[k]? = some d) := hd
        have HD' : Hid (l'[k]? = some d') := hd'
        clear hd hd'
        obtain ⟨a_path, n_path, c_path, a_marks, n_marks, c_marks, rfl, g0, g1, g2, g3, g4⟩ := hrd
        obtain ⟨a_path', n_path', c_path', a_marks', n_marks', c_marks', rfl, g0', g1', g2', g3', g4'⟩ := hrd'
        have c0 : wr.cell? ⟨b, off + k * 5, none⟩ = some (_) := hcell 0 _ rfl
        have c0' : wr.cell? ⟨b', off' + k * 5, none⟩ = some (_) := hcell' 0 _ rfl
        have c1 : wr.cell? ⟨b, off + k * 5 + 1, none⟩ = some (_) := hcell 1 _ rfl
        have c1' : wr.cell? ⟨b', off' + k * 5 + 1, none⟩ = some (_) := hcell' 1 _ rfl
        have c2 : wr.cell? ⟨b, off + k * 5 + 2, none⟩ = some (_) := hcell 2 _ rfl
        have c2' : wr.cell? ⟨b', off' + k * 5 + 2, none⟩ = some (_) := hcell' 2 _ rfl
        have c3 : wr.cell? ⟨b, off + k * 5 + 3, none⟩ = some (_) := hcell 3 _ rfl
        have c3' : wr.cell? ⟨b', off' + k * 5 + 3, none⟩ = some (_) := hcell' 3 _ rfl
        have c4 : wr.cell? ⟨b, off + k * 5 + 4, none⟩ = some (_) := hcell 4 _ rfl
        have c4' : wr.cell? ⟨b', off' + k * 5 + 4, none⟩ = some (_) := hcell' 4 _ rfl
        have lb := cell_lt c0
        have lb' := cell_lt c0'
        clear hcell hys hcell' hys'
        by_cases hdd : d = d'
        · have hb : decide (d = d') = true := by simpa using hdd
          have HDD : Hid (d = d') := hdd
          clear hdd
          go_wp2_with (first | (first | (go_at_call 12; (with_reducible refine (eq_Rt d d' _ _ _ _ _ _ _ _ _ _ _ _ _ (g2.stays ((by repeat (first | with_reducible exact Ext.refl _ | with_reducible apply Ext.and | with_reducible apply Ext.drewx | with_reducible apply Ext.alloc | with_reducible apply Ext.ext | with_reducible apply Ext.drew | with_reducible refine Ext.setCell ?_ (by simp) _)) : Ext _ _).below) (g2'.stays ((by repeat (first | with_reducible exact Ext.refl _ | with_reducible apply Ext.and | with_reducible apply Ext.drewx | with_reducible apply Ext.alloc | with_reducible apply Ext.ext | with_reducible apply Ext.drew | with_reducible refine Ext.setCell ?_ (by simp) _)) : Ext _ _).below) (g4.stays ((by repeat (first | with_reducible exact Ext.refl _ | with_reducible apply Ext.and | with_reducible apply Ext.drewx | with_reducible apply Ext.alloc | with_reducible apply Ext.ext | with_reducible apply Ext.drew | with_reducible refine Ext.setCell ?_ (by simp) _)) : Ext _ _).below) (g4'.stays ((by repeat (first | with_reducible exact Ext.refl _ | with_reducible apply Ext.and | with_reducible apply Ext.drewx | with_reducible apply Ext.alloc | with_reducible apply Ext.ext | with_reducible apply Ext.drew | with_reducible refine Ext.setCell ?_ (by simp) _)) : Ext _ _).below)).mono ?_); rintro _ _ ⟨rfl, x, rfl⟩)) | ((first | with_reducible refine wp_region_qe (by kernel_rfl) (by kernel_rfl) ?_ | with_reducible refine wp_region_q (by kernel_rfl) (by kernel_rfl) ?_); (repeat (go_big_quiet_step ((first | (go_at_call 12; first | with_reducible exact Calls.qb (by assumption) (eq_Rt d d' _ _ _ _ _ _ _ _ _ _ _ _ _ (g2.stays ((by repeat (first | with_reducible exact Ext.refl _ | with_reducible apply Ext.and | with_reducible apply Ext.drewx | with_reducible apply Ext.alloc | with_reducible apply Ext.ext | with_reducible apply Ext.drew | with_reducible refine Ext.setCell ?_ (by simp) _)) : Ext _ _).below) (g2'.stays ((by repeat (first | with_reducible exact Ext.refl _ | with_reducible apply Ext.and | with_reducible apply Ext.drewx | with_reducible apply Ext.alloc | with_reducible apply Ext.ext | with_reducible apply Ext.drew | with_reducible refine Ext.setCell ?_ (by simp) _)) : Ext _ _).below) (g4.stays ((by repeat (first | with_reducible exact Ext.refl _ | with_reducible apply Ext.and | with_reducible apply Ext.drewx | with_reducible apply Ext.alloc | with_reducible apply Ext.ext | with_reducible apply Ext.drew | with_reducible refine Ext.setCell ?_ (by simp) _)) : Ext _ _).below) (g4'.stays ((by repeat (first | with_reducible exact Ext.refl _ | with_reducible apply Ext.and | with_reducible apply Ext.drewx | with_reducible apply Ext.alloc | with_reducible apply Ext.ext | with_reducible apply Ext.drew | with_reducible refine Ext.setCell ?_ (by simp) _)) : Ext _ _).below)) | with_reducible exact Calls.q (eq_Rt d d' _ _ _ _ _ _ _ _ _ _ _ _ _ (g2.stays ((by repeat (first | with_reducible exact Ext.refl _ | with_reducible apply Ext.and | with_reducible apply Ext.drewx | with_reducible apply Ext.alloc | with_reducible apply Ext.ext | with_reducible apply Ext.drew | with_reducible refine Ext.setCell ?_ (by simp) _)) : Ext _ _).below) (g2'.stays ((by repeat (first | with_reducible exact Ext.refl _ | with_reducible apply Ext.and | with_reducible apply Ext.drewx | with_reducible apply Ext.alloc | with_reducible apply Ext.ext | with_reducible apply Ext.drew | with_reducible refine Ext.setCell ?_ (by simp) _)) : Ext _ _).below) (g4.stays ((by repeat (first | with_reducible exact Ext.refl _ | with_reducible apply Ext.and | with_reducible apply Ext.drewx | with_reducible apply Ext.alloc | with_reducible apply Ext.ext | with_reducible apply Ext.drew | with_reducible refine Ext.setCell ?_ (by simp) _)) : Ext _ _).below) (g4'.stays ((by repeat (first | with_reducible exact Ext.refl _ | with_reducible apply Ext.and | with_reducible apply Ext.drewx | with_reducible apply Ext.alloc | with_reducible apply Ext.ext | with_reducible apply Ext.drew | with_reducible refine Ext.setCell ?_ (by simp) _)) : Ext _ _).below))))))); refine wpQuiet_nil ?_; intro x))
          go_roundw
          case rel => exact ⟨k + 1, by omega, by go_num, (by first | exact hE | exact hE.ext _ | exact hE.trans (by repeat (first | with_reducible exact Ext.refl _ | with_reducible apply Ext.and | with_reducible apply Ext.drewx | with_reducible apply Ext.alloc | with_reducible apply Ext.ext | with_reducible apply Ext.drew | with_reducible refine Ext.setCell ?_ (by simp) _))), take_succ_eq HT.out HD.out (HDD.out ▸ HD'.out)⟩
          case measure => simp [intOf]; omega
        · have hb : decide (d = d') = false := by simpa using hdd
          have HDD : Hid (¬ d = d') := hdd
          clear hdd
          go_wp2_with (first | (first | (go_at_call 12; (with_reducible refine (eq_Rt d d' _ _ _ _ _ _ _ _ _ _ _ _ _ (g2.stays ((by repeat (first | with_reducible exact Ext.refl _ | with_reducible apply Ext.and | with_reducible apply Ext.drewx | with_reducible apply Ext.alloc | with_reducible apply Ext.ext | with_reducible apply Ext.drew | with_reducible refine Ext.setCell ?_ (by simp) _)) : Ext _ _).below) (g2'.stays ((by repeat (first | with_reducible exact Ext.refl _ | with_reducible apply Ext.and | with_reducible apply Ext.drewx | with_reducible apply Ext.alloc | with_reducible apply Ext.ext | with_reducible apply Ext.drew | with_reducible refine Ext.setCell ?_ (by simp) _)) : Ext _ _).below) (g4.stays ((by repeat (first | with_reducible exact Ext.refl _ | with_reducible apply Ext.and | with_reducible apply Ext.drewx | with_reducible apply Ext.alloc | with_reducible apply Ext.ext | with_reducible apply Ext.drew | with_reducible refine Ext.setCell ?_ (by simp) _)) : Ext _ _).below) (g4'.stays ((by repeat (first | with_reducible exact Ext.refl _ | with_reducible apply Ext.and | with_reducible apply Ext.drewx | with_reducible apply Ext.alloc | with_reducible apply Ext.ext | with_reducible apply Ext.drew | with_reducible refine Ext.setCell ?_ (by simp) _)) : Ext _ _).below)).mono ?_); rintro _ _ ⟨rfl, x, rfl⟩)) | ((first | with_reducible refine wp_region_qe (by kernel_rfl) (by kernel_rfl) ?_ | with_reducible refine wp_region_q (by kernel_rfl) (by kernel_rfl) ?_); (repeat (go_big_quiet_step ((first | (go_at_call 12; first | with_reducible exact Calls.qb (by assumption) (eq_Rt d d' _ _ _ _ _ _ _ _ _ _ _ _ _ (g2.stays ((by repeat (first | with_reducible exact Ext.refl _ | with_reducible apply Ext.and | with_reducible apply Ext.drewx | with_reducible apply Ext.alloc | with_reducible apply Ext.ext | with_reducible apply Ext.drew | with_reducible refine Ext.setCell ?_ (by simp) _)) : Ext _ _).below) (g2'.stays ((by repeat (first | with_reducible exact Ext.refl _ | with_reducible apply Ext.and | with_reducible apply Ext.drewx | with_reducible apply Ext.alloc | with_reducible apply Ext.ext | with_reducible apply Ext.drew | with_reducible refine Ext.setCell ?_ (by simp) _)) : Ext _ _).below) (g4.stays ((by repeat (first | with_reducible exact Ext.refl _ | with_reducible apply Ext.and | with_reducible apply Ext.drewx | with_reducible apply Ext.alloc | with_reducible apply Ext.ext | with_reducible apply Ext.drew | with_reducible refine Ext.setCell ?_ (by simp) _)) : Ext _ _).below) (g4'.stays ((by repeat (first | with_reducible exact Ext.refl _ | with_reducible apply Ext.and | with_reducible apply Ext.drewx | with_reducible apply Ext.alloc | with_reducible apply Ext.ext | with_reducible apply Ext.drew | with_reducible refine Ext.setCell ?_ (by simp) _)) : Ext _ _).below)) | with_reducible exact Calls.q (eq_Rt d d' _ _ _ _ _ _ _ _ _ _ _ _ _ (g2.stays ((by repeat (first | with_reducible exact Ext.refl _ | with_reducible apply Ext.and | with_reducible apply Ext.drewx | with_reducible apply Ext.alloc | with_reducible apply Ext.ext | with_reducible apply Ext.drew | with_reducible refine Ext.setCell ?_ (by simp) _)) : Ext _ _).below) (g2'.stays ((by repeat (first | with_reducible exact Ext.refl _ | with_reducible apply Ext.and | with_reducible apply Ext.drewx | with_reducible apply Ext.alloc | with_reducible apply Ext.ext | with_reducible apply Ext.drew | with_reducible refine Ext.setCell ?_ (by simp) _)) : Ext _ _).below) (g4.stays ((by repeat (first | with_reducible exact Ext.refl _ | with_reducible apply Ext.and | with_reducible apply Ext.drewx | with_reducible apply Ext.alloc | with_reducible apply Ext.ext | with_reducible apply Ext.drew | with_reducible refine Ext.setCell ?_ (by simp) _)) : Ext _ _).below) (g4'.stays ((by repeat (first | with_reducible exact Ext.refl _ | with_reducible apply Ext.and | with_reducible apply Ext.drewx | with_reducible apply Ext.alloc | with_reducible apply Ext.ext | with_reducible apply Ext.drew | with_reducible refine Ext.setCell ?_ (by simp) _)) : Ext _ _).below))))))); refine wpQuiet_nil ?_; intro x))
          go_ret
          exact ⟨ret_bool (by simpa using ne_at HD.out HD'.out HDD.out), (by first | exact hE | exact hE.ext _ | exact hE.trans (by repeat (first | with_reducible exact Ext.refl _ | with_reducible apply Ext.and | with_reducible apply Ext.drewx | with_reducible apply Ext.alloc | with_reducible apply Ext.ext | with_reducible apply Ext.drew | with_reducible refine Ext.setCell ?_ (by simp) _)))⟩
      · obtain rfl : k = len := by omega
        go_wp2_with (first | ((first | with_reducible refine wp_region_qe (by kernel_rfl) (by kernel_rfl) ?_ | with_reducible refine wp_region_q (by kernel_rfl) (by kernel_rfl) ?_); (repeat (go_big_quiet_step (fail))); refine wpQuiet_nil ?_; intro x))
        go_ret
        exact ⟨ret_bool (by simpa using eq_take HT.out HL.out HL'.out), (by first | exact hE | exact hE.ext _ | exact hE.trans (by repeat (first | with_reducible exact Ext.refl _ | with_reducible apply Ext.and | with_reducible apply Ext.drewx | with_reducible apply Ext.alloc | with_reducible apply Ext.ext | with_reducible apply Ext.drew | with_reducible refine Ext.setCell ?_ (by simp) _)))⟩
  · have hb : ((len : Int) != (len' : Int)) = true := by simpa using (by omega : ¬ (len : Int) = len')
    go_enter Tryz.func22, Tryz.ntmps22
    go_wp2_with (first | ((first | with_reducible refine wp_region_qe (by kernel_rfl) (by kernel_rfl) ?_ | with_reducible refine wp_region_q (by kernel_rfl) (by kernel_rfl) ?_); (repeat (go_big_quiet_step (fail))); refine wpQuiet_nil ?_; intro x))
    go_ret
    exact ⟨ret_bool (by simpa using (fun e : l = l' => hne (by rw [← hlen, ← hlen', e]))), Ext.refl _⟩













set_option maxHeartbeats 1000000 in
theorem sz_Gt (d : Gt) (a_route_path : Option Addr) (n_route_path c_route_path : Nat) (a_route_marks : Option Addr) (n_route_marks c_route_marks : Nat) (left : Int) (w : World) (s2 : SlRd w a_route_path n_route_path c_route_path d.route.path) (s4 : SlRd w a_route_marks n_route_marks c_route_marks d.route.marks) (h0 : 0 ≤ left) (h1 : left ≤ 1048576) :
    Calls Tryz.prog 66 #[.agg #[.int .i64 d.route.r.f, .int .i64 d.route.r.b, .slice a_route_path n_route_path c_route_path, .int .i64 d.route.like, .slice a_route_marks n_route_marks c_route_marks, .bool d.old], .int .i64 left] w fun e w' => e = .returned (.int .i64 (szR (Sz.sz d) left)) ∧ Ext w w' := by
  have HZ : Hid (Sz.sz d = Sz.sz d.route) := rfl
  by_cases hz1 : (Sz.sz d.route : Int) ≤ left
  · have e1 := szR_le hz1
    go_enter Tryz.func66, Tryz.ntmps66
    go_wp2_with (first | (first | (go_at_call 6; (with_reducible refine (sz_Rt d.route _ _ _ _ _ _ _ _ (s2.stays ((by repeat (first | with_reducible exact Ext.refl _ | with_reducible apply Ext.and | with_reducible apply Ext.drewx | with_reducible apply Ext.alloc | with_reducible apply Ext.ext | with_reducible apply Ext.drew | with_reducible refine Ext.setCell ?_ (by simp) _)) : Ext _ _).below) (s4.stays ((by repeat (first | with_reducible exact Ext.refl _ | with_reducible apply Ext.and | with_reducible apply Ext.drewx | with_reducible apply Ext.alloc | with_reducible apply Ext.ext | with_reducible apply Ext.drew | with_reducible refine Ext.setCell ?_ (by simp) _)) : Ext _ _).below) (by omega) (by omega)).mono ?_); rintro _ _ ⟨rfl, x, rfl⟩)) | ((first | with_reducible refine wp_region_qe (by kernel_rfl) (by kernel_rfl) ?_ | with_reducible refine wp_region_q (by kernel_rfl) (by kernel_rfl) ?_); (repeat (go_big_quiet_step ((first | (go_at_call 6; first | with_reducible exact Calls.qb (by assumption) (sz_Rt d.route _ _ _ _ _ _ _ _ (s2.stays ((by repeat (first | with_reducible exact Ext.refl _ | with_reducible apply Ext.and | with_reducible apply Ext.drewx | with_reducible apply Ext.alloc | with_reducible apply Ext.ext | with_reducible apply Ext.drew | with_reducible refine Ext.setCell ?_ (by simp) _)) : Ext _ _).below) (s4.stays ((by repeat (first | with_reducible exact Ext.refl _ | with_reducible apply Ext.and | with_reducible apply Ext.drewx | with_reducible apply Ext.alloc | with_reducible apply Ext.ext | with_reducible apply Ext.drew | with_reducible refine Ext.setCell ?_ (by simp) _)) : Ext _ _).below) (by omega) (by omega)) | with_reducible exact Calls.q (sz_Rt d.route _ _ _ _ _ _ _ _ (s2.stays ((by repeat (first | with_reducible exact Ext.refl _ | with_reducible apply Ext.and | with_reducible apply Ext.drewx | with_reducible apply Ext.alloc | with_reducible apply Ext.ext | with_reducible apply Ext.drew | with_reducible refine Ext.setCell ?_ (by simp) _)) : Ext _ _).below) (s4.stays ((by repeat (first | with_reducible exact Ext.refl _ | with_reducible apply Ext.and | with_reducible apply Ext.drewx | with_reducible apply Ext.alloc | with_reducible apply Ext.ext | with_reducible apply Ext.drew | with_reducible refine Ext.setCell ?_ (by simp) _)) : Ext _ _).below) (by omega) (by omega))))))); refine wpQuiet_nil ?_; intro x))
    go_ret
    exact ⟨ret_int (by have h3 := HZ.out; rw [h3]; (rw [szR_le (by omega)] <;> omega)), (by repeat (first | with_reducible exact Ext.refl _ | with_reducible apply Ext.and | with_reducible apply Ext.drewx | with_reducible apply Ext.alloc | with_reducible apply Ext.ext | with_reducible apply Ext.drew | with_reducible refine Ext.setCell ?_ (by simp) _))⟩
  · have e1 := szR_gt hz1
    go_enter Tryz.func66, Tryz.ntmps66
    go_wp2_with (first | (first | (go_at_call 6; (with_reducible refine (sz_Rt d.route _ _ _ _ _ _ _ _ (s2.stays ((by repeat (first | with_reducible exact Ext.refl _ | with_reducible apply Ext.and | with_reducible apply Ext.drewx | with_reducible apply Ext.alloc | with_reducible apply Ext.ext | with_reducible apply Ext.drew | with_reducible refine Ext.setCell ?_ (by simp) _)) : Ext _ _).below) (s4.stays ((by repeat (first | with_reducible exact Ext.refl _ | with_reducible apply Ext.and | with_reducible apply Ext.drewx | with_reducible apply Ext.alloc | with_reducible apply Ext.ext | with_reducible apply Ext.drew | with_reducible refine Ext.setCell ?_ (by simp) _)) : Ext _ _).below) (by omega) (by omega)).mono ?_); rintro _ _ ⟨rfl, x, rfl⟩)) | ((first | with_reducible refine wp_region_qe (by kernel_rfl) (by kernel_rfl) ?_ | with_reducible refine wp_region_q (by kernel_rfl) (by kernel_rfl) ?_); (repeat (go_big_quiet_step ((first | (go_at_call 6; first | with_reducible exact Calls.qb (by assumption) (sz_Rt d.route _ _ _ _ _ _ _ _ (s2.stays ((by repeat (first | with_reducible exact Ext.refl _ | with_reducible apply Ext.and | with_reducible apply Ext.drewx | with_reducible apply Ext.alloc | with_reducible apply Ext.ext | with_reducible apply Ext.drew | with_reducible refine Ext.setCell ?_ (by simp) _)) : Ext _ _).below) (s4.stays ((by repeat (first | with_reducible exact Ext.refl _ | with_reducible apply Ext.and | with_reducible apply Ext.drewx | with_reducible apply Ext.alloc | with_reducible apply Ext.ext | with_reducible apply Ext.drew | with_reducible refine Ext.setCell ?_ (by simp) _)) : Ext _ _).below) (by omega) (by omega)) | with_reducible exact Calls.q (sz_Rt d.route _ _ _ _ _ _ _ _ (s2.stays ((by repeat (first | with_reducible exact Ext.refl _ | with_reducible apply Ext.and | with_reducible apply Ext.drewx | with_reducible apply Ext.alloc | with_reducible apply Ext.ext | with_reducible apply Ext.drew | with_reducible refine Ext.setCell ?_ (by simp) _)) : Ext _ _).below) (s4.stays ((by repeat (first | with_reducible exact Ext.refl _ | with_reducible apply Ext.and | with_reducible apply Ext.drewx | with_reducible apply Ext.alloc | with_reducible apply Ext.ext | with_reducible apply Ext.drew | with_reducible refine Ext.setCell ?_ (by simp) _)) : Ext _ _).below) (by omega) (by omega))))))); refine wpQuiet_nil ?_; intro x))
    go_ret
    exact ⟨ret_int (by have h3 := HZ.out; rw [h3]; exact (szR_gt (by omega)).symm), (by repeat (first | with_reducible exact Ext.refl _ | with_reducible apply Ext.and | with_reducible apply Ext.drewx | with_reducible apply Ext.alloc | with_reducible apply Ext.ext | with_reducible apply Ext.drew | with_reducible refine Ext.setCell ?_ (by simp) _))⟩

set_option linter.unusedSimpArgs false in
set_option maxHeartbeats 2000000 in
theorem to_Gt (d : Gt) (a_route_path : Option Addr) (n_route_path c_route_path : Nat) (a_route_marks : Option Addr) (n_route_marks c_route_marks : Nat) (w : World) (hn : Sz.sz d ≤ 1048576) (h0 : I64 d.route.r.f) (h1 : I64 d.route.r.b) (h2 : SlRd w a_route_path n_route_path c_route_path d.route.path) (h3 : I64 d.route.like) (h4 : SlRd w a_route_marks n_route_marks c_route_marks d.route.marks) :
    Calls Tryz.prog 72 #[.agg #[.int .i64 d.route.r.f, .int .i64 d.route.r.b, .slice a_route_path n_route_path c_route_path, .int .i64 d.route.like, .slice a_route_marks n_route_marks c_route_marks, .bool d.old]] w fun e w' => ∃ a_route_pathq n_route_pathq c_route_pathq a_route_marksq n_route_marksq c_route_marksq, e = .returned (.agg #[.int .i64 d.route.r.f, .int .i64 d.route.r.b, .slice a_route_pathq n_route_pathq c_route_pathq, .int .i64 d.route.like, .slice a_route_marksq n_route_marksq c_route_marksq, .bool d.old]) ∧ ∃ x, w' = ext w x ∧ Hid (Fresh w (ext w x) [.int .i64 d.route.r.f, .int .i64 d.route.r.b, .slice a_route_pathq n_route_pathq c_route_pathq, .int .i64 d.route.like, .slice a_route_marksq n_route_marksq c_route_marksq, .bool d.old] d) := by
  have hz : Sz.sz d = Sz.sz d.route := rfl
  have z0 : Sz.sz d.route ≤ 1048576 := by omega
  have tk0 : True := trivial
  clear hz hn
  go_enter Tryz.func72, Tryz.ntmps72
  go_wp2_with (first | (first | ((go_at_call 9; have _t := tk0; (with_reducible refine (to_Rt d.route _ _ _ _ _ _ _ z0 h0 h1 ?_ h3 ?_).mono ?_); (exact h2.stays ((by repeat (first | with_reducible exact Ext.refl _ | with_reducible apply Ext.and | with_reducible apply Ext.drewx | with_reducible apply Ext.alloc | with_reducible apply Ext.ext | with_reducible apply Ext.drew | with_reducible refine Ext.setCell ?_ (by simp) _)) : Ext _ _).below); (exact h4.stays ((by repeat (first | with_reducible exact Ext.refl _ | with_reducible apply Ext.and | with_reducible apply Ext.drewx | with_reducible apply Ext.alloc | with_reducible apply Ext.ext | with_reducible apply Ext.drew | with_reducible refine Ext.setCell ?_ (by simp) _)) : Ext _ _).below); rintro _ _ ⟨a_route_pathq, n_route_pathq, c_route_pathq, a_route_marksq, n_route_marksq, c_route_marksq, rfl, x0, rfl, F0⟩; (try rw [ext_ext] at F0); clear tk0 _t))) | ((first | with_reducible refine wp_region_qe (by kernel_rfl) (by kernel_rfl) ?_ | with_reducible refine wp_region_q (by kernel_rfl) (by kernel_rfl) ?_); (repeat (go_big_quiet_step ((first | ((go_at_call 9; have _t := tk0; (with_reducible refine (to_Rt d.route _ _ _ _ _ _ _ z0 h0 h1 ?_ h3 ?_).mono ?_); (exact h2.stays ((by repeat (first | with_reducible exact Ext.refl _ | with_reducible apply Ext.and | with_reducible apply Ext.drewx | with_reducible apply Ext.alloc | with_reducible apply Ext.ext | with_reducible apply Ext.drew | with_reducible refine Ext.setCell ?_ (by simp) _)) : Ext _ _).below); (exact h4.stays ((by repeat (first | with_reducible exact Ext.refl _ | with_reducible apply Ext.and | with_reducible apply Ext.drewx | with_reducible apply Ext.alloc | with_reducible apply Ext.ext | with_reducible apply Ext.drew | with_reducible refine Ext.setCell ?_ (by simp) _)) : Ext _ _).below); rintro _ _ ⟨a_route_pathq, n_route_pathq, c_route_pathq, a_route_marksq, n_route_marksq, c_route_marksq, rfl, x0, rfl, F0⟩; (try rw [ext_ext] at F0); clear tk0 _t)))))); refine wpQuiet_nil ?_; intro x))
  refine bodyPost_ret (v := .agg #[.int .i64 d.route.r.f, .int .i64 d.route.r.b, .slice a_route_pathq n_route_pathq c_route_pathq, .int .i64 d.route.like, .slice a_route_marksq n_route_marksq c_route_marksq, .bool d.old]) (by simp [results, Tryz.results72, go_sem]) rfl ⟨_, _, _, _, _, _, rfl, fin_fresh ⟨(by repeat (first | with_reducible exact Ext.refl _ | with_reducible apply Ext.and | with_reducible apply Ext.drewx | with_reducible apply Ext.alloc | with_reducible apply Ext.ext | with_reducible apply Ext.drew | with_reducible refine Ext.setCell ?_ (by simp) _)), ?_⟩⟩
  refine own1 F0.out ?_ ?_ ?_
  · simp; try omega
  · exact (by repeat (first | with_reducible exact Abv.refl _ _ | with_reducible apply Abv.and | with_reducible apply Abv.drewx | with_reducible apply Abv.alloc | with_reducible apply Abv.ext | with_reducible apply Abv.drew | with_reducible refine Abv.setCell ?_ (by simp) _))
  · intro f0 o0
    obtain ⟨l0_0, l0_1, l0_2, l0_3, l0_4, l0_5, q0_0, q0_1, e0, k0_0, k0_1, k0_2, k0_3, k0_4, rfl⟩ := o0; simp only [List.cons.injEq, Value.slice.injEq, Value.int.injEq, Value.bool.injEq, true_and, and_true] at e0; obtain ⟨⟨rfl, rfl, rfl⟩, ⟨rfl, rfl, rfl⟩⟩ := e0; exact ⟨_, _, _, _, _, _, q0_0, q0_1, rfl, h0, h1, k0_2, h3, k0_4, by simp⟩

set_option maxHeartbeats 1000000 in
theorem eq_Gt (d d' : Gt) (a_route_path : Option Addr) (n_route_path c_route_path : Nat) (a_route_marks : Option Addr) (n_route_marks c_route_marks : Nat) (a_route_path' : Option Addr) (n_route_path' c_route_path' : Nat) (a_route_marks' : Option Addr) (n_route_marks' c_route_marks' : Nat) (w : World) (h2 : SlRd w a_route_path n_route_path c_route_path d.route.path) (h2' : SlRd w a_route_path' n_route_path' c_route_path' d'.route.path) (h4 : SlRd w a_route_marks n_route_marks c_route_marks d.route.marks) (h4' : SlRd w a_route_marks' n_route_marks' c_route_marks' d'.route.marks) :
    Calls Tryz.prog 81 #[.agg #[.int .i64 d.route.r.f, .int .i64 d.route.r.b, .slice a_route_path n_route_path c_route_path, .int .i64 d.route.like, .slice a_route_marks n_route_marks c_route_marks, .bool d.old], .agg #[.int .i64 (d'.route.r.f), .int .i64 (d'.route.r.b), .slice a_route_path' n_route_path' c_route_path', .int .i64 (d'.route.like), .slice a_route_marks' n_route_marks' c_route_marks', .bool d'.old]] w fun e w' => e = .returned (.bool (decide (d = d'))) ∧ Ext w w' := by
  go_enter Tryz.func81, Tryz.ntmps81
  go_wp2_with (first | (first | (go_at_call 12; (with_reducible refine (eq_Rt d.route d'.route _ _ _ _ _ _ _ _ _ _ _ _ _ (h2.stays ((by repeat (first | with_reducible exact Ext.refl _ | with_reducible apply Ext.and | with_reducible apply Ext.drewx | with_reducible apply Ext.alloc | with_reducible apply Ext.ext | with_reducible apply Ext.drew | with_reducible refine Ext.setCell ?_ (by simp) _)) : Ext _ _).below) (h2'.stays ((by repeat (first | with_reducible exact Ext.refl _ | with_reducible apply Ext.and | with_reducible apply Ext.drewx | with_reducible apply Ext.alloc | with_reducible apply Ext.ext | with_reducible apply Ext.drew | with_reducible refine Ext.setCell ?_ (by simp) _)) : Ext _ _).below) (h4.stays ((by repeat (first | with_reducible exact Ext.refl _ | with_reducible apply Ext.and | with_reducible apply Ext.drewx | with_reducible apply Ext.alloc | with_reducible apply Ext.ext | with_reducible apply Ext.drew | with_reducible refine Ext.setCell ?_ (by simp) _)) : Ext _ _).below) (h4'.stays ((by repeat (first | with_reducible exact Ext.refl _ | with_reducible apply Ext.and | with_reducible apply Ext.drewx | with_reducible apply Ext.alloc | with_reducible apply Ext.ext | with_reducible apply Ext.drew | with_reducible refine Ext.setCell ?_ (by simp) _)) : Ext _ _).below)).mono ?_); rintro _ _ ⟨rfl, x, rfl⟩)) | ((first | with_reducible refine wp_region_qe (by kernel_rfl) (by kernel_rfl) ?_ | with_reducible refine wp_region_q (by kernel_rfl) (by kernel_rfl) ?_); (repeat (go_big_quiet_step ((first | (go_at_call 12; first | with_reducible exact Calls.qb (by assumption) (eq_Rt d.route d'.route _ _ _ _ _ _ _ _ _ _ _ _ _ (h2.stays ((by repeat (first | with_reducible exact Ext.refl _ | with_reducible apply Ext.and | with_reducible apply Ext.drewx | with_reducible apply Ext.alloc | with_reducible apply Ext.ext | with_reducible apply Ext.drew | with_reducible refine Ext.setCell ?_ (by simp) _)) : Ext _ _).below) (h2'.stays ((by repeat (first | with_reducible exact Ext.refl _ | with_reducible apply Ext.and | with_reducible apply Ext.drewx | with_reducible apply Ext.alloc | with_reducible apply Ext.ext | with_reducible apply Ext.drew | with_reducible refine Ext.setCell ?_ (by simp) _)) : Ext _ _).below) (h4.stays ((by repeat (first | with_reducible exact Ext.refl _ | with_reducible apply Ext.and | with_reducible apply Ext.drewx | with_reducible apply Ext.alloc | with_reducible apply Ext.ext | with_reducible apply Ext.drew | with_reducible refine Ext.setCell ?_ (by simp) _)) : Ext _ _).below) (h4'.stays ((by repeat (first | with_reducible exact Ext.refl _ | with_reducible apply Ext.and | with_reducible apply Ext.drewx | with_reducible apply Ext.alloc | with_reducible apply Ext.ext | with_reducible apply Ext.drew | with_reducible refine Ext.setCell ?_ (by simp) _)) : Ext _ _).below)) | with_reducible exact Calls.q (eq_Rt d.route d'.route _ _ _ _ _ _ _ _ _ _ _ _ _ (h2.stays ((by repeat (first | with_reducible exact Ext.refl _ | with_reducible apply Ext.and | with_reducible apply Ext.drewx | with_reducible apply Ext.alloc | with_reducible apply Ext.ext | with_reducible apply Ext.drew | with_reducible refine Ext.setCell ?_ (by simp) _)) : Ext _ _).below) (h2'.stays ((by repeat (first | with_reducible exact Ext.refl _ | with_reducible apply Ext.and | with_reducible apply Ext.drewx | with_reducible apply Ext.alloc | with_reducible apply Ext.ext | with_reducible apply Ext.drew | with_reducible refine Ext.setCell ?_ (by simp) _)) : Ext _ _).below) (h4.stays ((by repeat (first | with_reducible exact Ext.refl _ | with_reducible apply Ext.and | with_reducible apply Ext.drewx | with_reducible apply Ext.alloc | with_reducible apply Ext.ext | with_reducible apply Ext.drew | with_reducible refine Ext.setCell ?_ (by simp) _)) : Ext _ _).below) (h4'.stays ((by repeat (first | with_reducible exact Ext.refl _ | with_reducible apply Ext.and | with_reducible apply Ext.drewx | with_reducible apply Ext.alloc | with_reducible apply Ext.ext | with_reducible apply Ext.drew | with_reducible refine Ext.setCell ?_ (by simp) _)) : Ext _ _).below))))))); refine wpQuiet_nil ?_; intro x))
  all_goals
    go_ret
    exact ⟨ret_bool (by simp_all [Gt_eq]), (by repeat (first | with_reducible exact Ext.refl _ | with_reducible apply Ext.and | with_reducible apply Ext.drewx | with_reducible apply Ext.alloc | with_reducible apply Ext.ext | with_reducible apply Ext.drew | with_reducible refine Ext.setCell ?_ (by simp) _))⟩

set_option maxHeartbeats 1000000 in
theorem sz_LGt (a : Option Addr) (len cap : Nat) (l : (List Gt)) (left : Int) (w : World) (h : SlRd w a len cap l) (h0 : 0 ≤ left) (h1 : left ≤ 1048576) :
    Calls Tryz.prog 27 #[.slice a len cap, .int .i64 left] w fun e w' => e = .returned (.int .i64 (szR (Sz.sz l) left)) ∧ Ext w w' := by
  have hm := h.2.2.1
  have hlc := h.2.1
  have hlen := h.1
  unfold maxLen at hm
  have hsz : Sz.sz l = len + (l.map Sz.sz).sum := by rw [← hlen]; rfl
  have HZ : Hid (Sz.sz l = len + (l.map Sz.sz).sum) := hsz
  have HL : Hid (l.length = len) := hlen
  clear hlen hsz
  by_cases hle : (len : Int) ≤ left
  · go_enter Tryz.func27, Tryz.ntmps27
    go_wp2_with fail
    go_loopw [5, 1] (fun i lf wr => ∃ k : Nat, k ≤ len ∧ i = .int .i64 k ∧ lf = .int .i64 (left - len - ((l.take k).map Sz.sz).sum) ∧ (((l.take k).map Sz.sz).sum : Int) ≤ left - len ∧ Ext w wr) (fun i _ _ => len - (intOf i).toNat)
    case atStart => exact ⟨0, Nat.zero_le _, rfl, by simp, by simp; omega, Ext.refl _⟩
    case round =>
      obtain ⟨k, hk, rfl, rfl, hs, hE⟩ := hrel
      by_cases hlt : k < len
      · obtain ⟨d, hd, b, off, ys, rfl, hys, hcell, hrd⟩ := h.at hE hlt
        have HS := hidden (sum_take_succ hd)
        have HA := hidden (sum_take_le l (k + 1))
        obtain ⟨a_route_path, n_route_path, c_route_path, a_route_marks, n_route_marks, c_route_marks, rfl, g0, g1, g2, g3, g4⟩ := hrd
        have c0 : wr.cell? ⟨b, off + k * 6, none⟩ = some _ := hcell 0 _ rfl
        have c1 : wr.cell? ⟨b, off + k * 6 + 1, none⟩ = some _ := hcell 1 _ rfl
        have c2 : wr.cell? ⟨b, off + k * 6 + 2, none⟩ = some _ := hcell 2 _ rfl
        have c3 : wr.cell? ⟨b, off + k * 6 + 3, none⟩ = some _ := hcell 3 _ rfl
        have c4 : wr.cell? ⟨b, off + k * 6 + 4, none⟩ = some _ := hcell 4 _ rfl
        have c5 : wr.cell? ⟨b, off + k * 6 + 5, none⟩ = some _ := hcell 5 _ rfl
        have lb := cell_lt c0
        clear hcell hys hd
        generalize ((l.take k).map Sz.sz).sum = q at *
        by_cases hq : (Sz.sz d : Int) ≤ left - len - q
        · have e1 := szR_le hq
          go_wp2_with (first | (first | (go_at_call 66; (with_reducible refine (sz_Gt d _ _ _ _ _ _ _ _ (g2.stays ((by repeat (first | with_reducible exact Ext.refl _ | with_reducible apply Ext.and | with_reducible apply Ext.drewx | with_reducible apply Ext.alloc | with_reducible apply Ext.ext | with_reducible apply Ext.drew | with_reducible refine Ext.setCell ?_ (by simp) _)) : Ext _ _).below) (g4.stays ((by repeat (first | with_reducible exact Ext.refl _ | with_reducible apply Ext.and | with_reducible apply Ext.drewx | with_reducible apply Ext.alloc | with_reducible apply Ext.ext | with_reducible apply Ext.drew | with_reducible refine Ext.setCell ?_ (by simp) _)) : Ext _ _).below) (by omega) (by omega)).mono ?_); rintro _ _ ⟨rfl, x, rfl⟩)) | ((first | with_reducible refine wp_region_qe (by kernel_rfl) (by kernel_rfl) ?_ | with_reducible refine wp_region_q (by kernel_rfl) (by kernel_rfl) ?_); (repeat (go_big_quiet_step ((first | (go_at_call 66; first | with_reducible exact Calls.qb (by assumption) (sz_Gt d _ _ _ _ _ _ _ _ (g2.stays ((by repeat (first | with_reducible exact Ext.refl _ | with_reducible apply Ext.and | with_reducible apply Ext.drewx | with_reducible apply Ext.alloc | with_reducible apply Ext.ext | with_reducible apply Ext.drew | with_reducible refine Ext.setCell ?_ (by simp) _)) : Ext _ _).below) (g4.stays ((by repeat (first | with_reducible exact Ext.refl _ | with_reducible apply Ext.and | with_reducible apply Ext.drewx | with_reducible apply Ext.alloc | with_reducible apply Ext.ext | with_reducible apply Ext.drew | with_reducible refine Ext.setCell ?_ (by simp) _)) : Ext _ _).below) (by omega) (by omega)) | with_reducible exact Calls.q (sz_Gt d _ _ _ _ _ _ _ _ (g2.stays ((by repeat (first | with_reducible exact Ext.refl _ | with_reducible apply Ext.and | with_reducible apply Ext.drewx | with_reducible apply Ext.alloc | with_reducible apply Ext.ext | with_reducible apply Ext.drew | with_reducible refine Ext.setCell ?_ (by simp) _)) : Ext _ _).below) (g4.stays ((by repeat (first | with_reducible exact Ext.refl _ | with_reducible apply Ext.and | with_reducible apply Ext.drewx | with_reducible apply Ext.alloc | with_reducible apply Ext.ext | with_reducible apply Ext.drew | with_reducible refine Ext.setCell ?_ (by simp) _)) : Ext _ _).below) (by omega) (by omega))))))); refine wpQuiet_nil ?_; intro x))
          go_roundw
          case rel => exact ⟨k + 1, by omega, by go_num, int_eq (by rw [HS.out]; omega), by rw [HS.out]; omega, (by first | exact hE | exact hE.ext _ | exact hE.trans (by repeat (first | with_reducible exact Ext.refl _ | with_reducible apply Ext.and | with_reducible apply Ext.drewx | with_reducible apply Ext.alloc | with_reducible apply Ext.ext | with_reducible apply Ext.drew | with_reducible refine Ext.setCell ?_ (by simp) _)))⟩
          case measure => simp [intOf]; omega
        · have e1 := szR_gt hq
          go_wp2_with (first | (first | (go_at_call 66; (with_reducible refine (sz_Gt d _ _ _ _ _ _ _ _ (g2.stays ((by repeat (first | with_reducible exact Ext.refl _ | with_reducible apply Ext.and | with_reducible apply Ext.drewx | with_reducible apply Ext.alloc | with_reducible apply Ext.ext | with_reducible apply Ext.drew | with_reducible refine Ext.setCell ?_ (by simp) _)) : Ext _ _).below) (g4.stays ((by repeat (first | with_reducible exact Ext.refl _ | with_reducible apply Ext.and | with_reducible apply Ext.drewx | with_reducible apply Ext.alloc | with_reducible apply Ext.ext | with_reducible apply Ext.drew | with_reducible refine Ext.setCell ?_ (by simp) _)) : Ext _ _).below) (by omega) (by omega)).mono ?_); rintro _ _ ⟨rfl, x, rfl⟩)) | ((first | with_reducible refine wp_region_qe (by kernel_rfl) (by kernel_rfl) ?_ | with_reducible refine wp_region_q (by kernel_rfl) (by kernel_rfl) ?_); (repeat (go_big_quiet_step ((first | (go_at_call 66; first | with_reducible exact Calls.qb (by assumption) (sz_Gt d _ _ _ _ _ _ _ _ (g2.stays ((by repeat (first | with_reducible exact Ext.refl _ | with_reducible apply Ext.and | with_reducible apply Ext.drewx | with_reducible apply Ext.alloc | with_reducible apply Ext.ext | with_reducible apply Ext.drew | with_reducible refine Ext.setCell ?_ (by simp) _)) : Ext _ _).below) (g4.stays ((by repeat (first | with_reducible exact Ext.refl _ | with_reducible apply Ext.and | with_reducible apply Ext.drewx | with_reducible apply Ext.alloc | with_reducible apply Ext.ext | with_reducible apply Ext.drew | with_reducible refine Ext.setCell ?_ (by simp) _)) : Ext _ _).below) (by omega) (by omega)) | with_reducible exact Calls.q (sz_Gt d _ _ _ _ _ _ _ _ (g2.stays ((by repeat (first | with_reducible exact Ext.refl _ | with_reducible apply Ext.and | with_reducible apply Ext.drewx | with_reducible apply Ext.alloc | with_reducible apply Ext.ext | with_reducible apply Ext.drew | with_reducible refine Ext.setCell ?_ (by simp) _)) : Ext _ _).below) (g4.stays ((by repeat (first | with_reducible exact Ext.refl _ | with_reducible apply Ext.and | with_reducible apply Ext.drewx | with_reducible apply Ext.alloc | with_reducible apply Ext.ext | with_reducible apply Ext.drew | with_reducible refine Ext.setCell ?_ (by simp) _)) : Ext _ _).below) (by omega) (by omega))))))); refine wpQuiet_nil ?_; intro x))
          go_ret
          exact ⟨ret_int (by have h1 := HS.out; have h2 := HA.out; have h3 := HZ.out; rw [h3]; exact (szR_gt (by omega)).symm), (by first | exact hE | exact hE.ext _ | exact hE.trans (by repeat (first | with_reducible exact Ext.refl _ | with_reducible apply Ext.and | with_reducible apply Ext.drewx | with_reducible apply Ext.alloc | with_reducible apply Ext.ext | with_reducible apply Ext.drew | with_reducible refine Ext.setCell ?_ (by simp) _)))⟩
      · obtain rfl : k = len := by omega
        have hall : (l.take k) = l := List.take_of_length_le (Nat.le_of_eq HL.out)
        have HT := hidden hall
        clear hall
        go_wp2_with (first | ((first | with_reducible refine wp_region_qe (by kernel_rfl) (by kernel_rfl) ?_ | with_reducible refine wp_region_q (by kernel_rfl) (by kernel_rfl) ?_); (repeat (go_big_quiet_step (fail))); refine wpQuiet_nil ?_; intro x))
        go_ret
        exact ⟨ret_int (by have h3 := HZ.out; have hs' := hs; rw [HT.out] at hs' ⊢; rw [h3, szR_le (by omega)]; omega), (by first | exact hE | exact hE.ext _ | exact hE.trans (by repeat (first | with_reducible exact Ext.refl _ | with_reducible apply Ext.and | with_reducible apply Ext.drewx | with_reducible apply Ext.alloc | with_reducible apply Ext.ext | with_reducible apply Ext.drew | with_reducible refine Ext.setCell ?_ (by simp) _)))⟩
  · go_enter Tryz.func27, Tryz.ntmps27
    go_wp2_with (first | ((first | with_reducible refine wp_region_qe (by kernel_rfl) (by kernel_rfl) ?_ | with_reducible refine wp_region_q (by kernel_rfl) (by kernel_rfl) ?_); (repeat (go_big_quiet_step (fail))); refine wpQuiet_nil ?_; intro x))
    go_ret
    exact ⟨ret_int (by have h3 := HZ.out; rw [h3]; exact (szR_gt (by omega)).symm), Ext.refl _⟩

theorem info_impl_Gt : (Tryz.prog.info? 74).map (fun i => (i.zero, i.size, i.bytes)) = some (some (.agg #[.int .i64 0, .int .i64 0, .slice none 0 0, .int .i64 0, .slice none 0 0, .bool false]), 6, 80) := by kernel_rfl
set_option maxHeartbeats 1000000 in
theorem to_LGt (a : Option Addr) (len cap : Nat) (l : (List Gt)) (w : World) (h : SlRd w a len cap l) (hn : Sz.sz l ≤ 1048576) :
    Calls Tryz.prog 35 #[.slice a len cap] w fun e w' => ∃ B, e = .returned (.slice (some ⟨B, 0, none⟩) len len) ∧ ∃ x, w' = ext w x ∧ Hid (Fresh w (ext w x) [.slice (some ⟨B, 0, none⟩) len len] l) := by
  have hlen := h.1
  have hn' : len ≤ 1048576 := by have : Sz.sz l = l.length + (l.map Sz.sz).sum := rfl; omega
  obtain ⟨i0, hi, hz0, hz1, hz2⟩ := info_parts info_impl_Gt
  have hmk := mkSlice Tryz.underlying32 hi hz0 len (by rw [hz2]; omega) (by unfold maxLen; omega)
  have HZ : Hid (l.length = len) := hlen
  have HN : Hid (Sz.sz l ≤ 1048576) := hn
  clear hlen hn
  go_enter Tryz.func35, Tryz.ntmps35
  go_wp2_with fail
  have hF : Fill (w.alloc (Obj.cells (madeCells #[.int .i64 0, .int .i64 0, .slice none 0 0, .int .i64 0, .slice none 0 0, .bool false] (len * 6)) 74)) w.heap.size 74 len l 0 := Fill.start (Blk.new w _ _) (by simp [madeCells]; first | rfl | exact (Nat.mul_one len).symm)
  have hE : Ext w (w.alloc (Obj.cells (madeCells #[.int .i64 0, .int .i64 0, .slice none 0 0, .int .i64 0, .slice none 0 0, .bool false] (len * 6)) 74)) := (by repeat (first | with_reducible exact Ext.refl _ | with_reducible apply Ext.and | with_reducible apply Ext.drewx | with_reducible apply Ext.alloc | with_reducible apply Ext.ext | with_reducible apply Ext.drew | with_reducible refine Ext.setCell ?_ (by simp) _))
  generalize (w.alloc (Obj.cells (madeCells #[.int .i64 0, .int .i64 0, .slice none 0 0, .int .i64 0, .slice none 0 0, .bool false] (len * 6)) 74)) = w1 at *
  clear hmk
  go_loopw [4] (fun i wr => ∃ k : Nat, k ≤ len ∧ i = .int .i64 k ∧ Ext w wr ∧ Fill wr w.heap.size 74 len l k) (fun i _ => len - (intOf i).toNat)
  case atStart => exact ⟨0, Nat.zero_le _, rfl, hE, hF⟩
  case round =>
    obtain ⟨k, hk, rfl, hE, hF⟩ := hrel
    by_cases hlt : k < len
    · obtain ⟨d, hd, b, off, ys, rfl, hys, hcell, hrd⟩ := h.at hE hlt
      obtain ⟨a_route_path, n_route_path, c_route_path, a_route_marks, n_route_marks, c_route_marks, rfl, g0, g1, g2, g3, g4⟩ := hrd
      have c0 : wr.cell? ⟨b, off + k * 6, none⟩ = some (_) := hcell 0 _ rfl
      have c1 : wr.cell? ⟨b, off + k * 6 + 1, none⟩ = some (_) := hcell 1 _ rfl
      have c2 : wr.cell? ⟨b, off + k * 6 + 2, none⟩ = some (_) := hcell 2 _ rfl
      have c3 : wr.cell? ⟨b, off + k * 6 + 3, none⟩ = some (_) := hcell 3 _ rfl
      have c4 : wr.cell? ⟨b, off + k * 6 + 4, none⟩ = some (_) := hcell 4 _ rfl
      have c5 : wr.cell? ⟨b, off + k * 6 + 5, none⟩ = some (_) := hcell 5 _ rfl
      have lb := cell_lt c0
      obtain ⟨cs, hB, hL⟩ := hF.blk
      have lB := hB.lt
      have hL' : cs.length = len * 6 := hL
      obtain ⟨z0, s0⟩ := hB.get (j := k * 6) (by omega)
      have f0 := hB.frozen (k * 6)
      obtain ⟨z1, s1⟩ := hB.get (j := k * 6 + 1) (by omega)
      have f1 := hB.frozen (k * 6 + 1)
      obtain ⟨z2, s2⟩ := hB.get (j := k * 6 + 2) (by omega)
      have f2 := hB.frozen (k * 6 + 2)
      obtain ⟨z3, s3⟩ := hB.get (j := k * 6 + 3) (by omega)
      have f3 := hB.frozen (k * 6 + 3)
      obtain ⟨z4, s4⟩ := hB.get (j := k * 6 + 4) (by omega)
      have f4 := hB.frozen (k * 6 + 4)
      obtain ⟨z5, s5⟩ := hB.get (j := k * 6 + 5) (by omega)
      have f5 := hB.frozen (k * 6 + 5)
      have HL : Hid (cs.length = len * 6) := hL
      have HD : Hid (l[k]? = some d) := hd
      have HF : Hid (Fill wr w.heap.size 74 len l k) := hF
      clear hcell hys hL hL' hd hF
      have HZs := sz_at HD.out
      have zk : Sz.sz d ≤ 1048576 := by have := HN.out; omega
      clear HZs
      go_wp2_with (first | (first | ((go_at_call 72; refine (to_Gt d _ _ _ _ _ _ _ zk g0 g1 ?_ g3 ?_).mono ?_; (exact g2.stays ((by repeat (first | with_reducible exact Ext.refl _ | with_reducible apply Ext.and | with_reducible apply Ext.drewx | with_reducible apply Ext.alloc | with_reducible apply Ext.ext | with_reducible apply Ext.drew | with_reducible refine Ext.setCell ?_ (by simp) _)) : Ext _ _).below); (exact g4.stays ((by repeat (first | with_reducible exact Ext.refl _ | with_reducible apply Ext.and | with_reducible apply Ext.drewx | with_reducible apply Ext.alloc | with_reducible apply Ext.ext | with_reducible apply Ext.drew | with_reducible refine Ext.setCell ?_ (by simp) _)) : Ext _ _).below); rintro _ _ ⟨a_route_pathq, n_route_pathq, c_route_pathq, a_route_marksq, n_route_marksq, c_route_marksq, rfl, x, rfl, F0⟩; (try rw [ext_ext] at F0)))) | ((first | with_reducible refine wp_region_qe (by kernel_rfl) (by kernel_rfl) ?_ | with_reducible refine wp_region_q (by kernel_rfl) (by kernel_rfl) ?_); (repeat (go_big_quiet_step ((first | ((go_at_call 72; refine (to_Gt d _ _ _ _ _ _ _ zk g0 g1 ?_ g3 ?_).mono ?_; (exact g2.stays ((by repeat (first | with_reducible exact Ext.refl _ | with_reducible apply Ext.and | with_reducible apply Ext.drewx | with_reducible apply Ext.alloc | with_reducible apply Ext.ext | with_reducible apply Ext.drew | with_reducible refine Ext.setCell ?_ (by simp) _)) : Ext _ _).below); (exact g4.stays ((by repeat (first | with_reducible exact Ext.refl _ | with_reducible apply Ext.and | with_reducible apply Ext.drewx | with_reducible apply Ext.alloc | with_reducible apply Ext.ext | with_reducible apply Ext.drew | with_reducible refine Ext.setCell ?_ (by simp) _)) : Ext _ _).below); rintro _ _ ⟨a_route_pathq, n_route_pathq, c_route_pathq, a_route_marksq, n_route_marksq, c_route_marksq, rfl, x, rfl, F0⟩; (try rw [ext_ext] at F0))))))); refine wpQuiet_nil ?_; intro x))
      go_roundw
      case rel => exact ⟨k + 1, by omega, by go_num, Ext.setW (Nat.le_refl _) [.int .i64 d.route.r.f, .int .i64 d.route.r.b, .slice a_route_pathq n_route_pathq c_route_pathq, .int .i64 d.route.like, .slice a_route_marksq n_route_marksq c_route_marksq, .bool d.old] (k * 6) (hE.ext x), HF.out.step (w1 := ext wr x) (ys := [.int .i64 d.route.r.f, .int .i64 d.route.r.b, .slice a_route_pathq n_route_pathq c_route_pathq, .int .i64 d.route.like, .slice a_route_marksq n_route_marksq c_route_marksq, .bool d.old]) HD.out hlt rfl F0.out⟩
      case measure => simp [intOf]; omega
    · obtain rfl : k = len := by omega
      have hres := Fill.done hE (Nat.le_refl _) HZ.out (by unfold maxLen; omega) hF
      obtain ⟨x, rfl⟩ := hE
      clear hF
      go_wp2
      go_ret
      exact ⟨_, rfl, x, rfl, hres⟩

set_option maxHeartbeats 1000000 in
theorem eq_LGt (a : Option Addr) (len cap : Nat) (l : (List Gt)) (a' : Option Addr) (len' cap' : Nat) (l' : (List Gt)) (w : World) (h : SlRd w a len cap l) (h' : SlRd w a' len' cap' l') :
    Calls Tryz.prog 44 #[.slice a len cap, .slice a' len' cap'] w fun e w' => e = .returned (.bool (decide (l = l'))) ∧ Ext w w' := by
  have hm := h.2.2.1
  have hlc := h.2.1
  have hlen := h.1
  have hlen' := h'.1
  unfold maxLen at hm
  by_cases hne : len = len'
  · subst hne
    have HL : Hid (l.length = len) := hlen
    have HL' : Hid (l'.length = len) := hlen'
    clear hlen hlen'
    go_enter Tryz.func44, Tryz.ntmps44
    go_wp2_with fail
    go_loopw [5] (fun i wr => ∃ k : Nat, k ≤ len ∧ i = .int .i64 k ∧ Ext w wr ∧ Hid (l.take k = l'.take k)) (fun i _ => len - (intOf i).toNat)
    case atStart => exact ⟨0, Nat.zero_le _, rfl, Ext.refl _, rfl⟩
    case round =>
      obtain ⟨k, hk, rfl, hE, HT⟩ := hrel
      by_cases hlt : k < len
      · obtain ⟨d, hd, b, off, ys, rfl, hys, hcell, hrd⟩ := h.at hE hlt
        obtain ⟨d', hd', b', off', ys', rfl, hys', hcell', hrd'⟩ := h'.at hE hlt
        have HD : Hid (l[k]? = some d) := hd
        have HD' : Hid (l'[k]? = some d') := hd'
        clear hd hd'
        obtain ⟨a_route_path, n_route_path, c_route_path, a_route_marks, n_route_marks, c_route_marks, rfl, g0, g1, g2, g3, g4⟩ := hrd
        obtain ⟨a_route_path', n_route_path', c_route_path', a_route_marks', n_route_marks', c_route_marks', rfl, g0', g1', g2', g3', g4'⟩ := hrd'
        have c0 : wr.cell? ⟨b, off + k * 6, none⟩ = some (_) := hcell 0 _ rfl
        have c0' : wr.cell? ⟨b', off' + k * 6, none⟩ = some (_) := hcell' 0 _ rfl
        have c1 : wr.cell? ⟨b, off + k * 6 + 1, none⟩ = some (_) := hcell 1 _ rfl
        have c1' : wr.cell? ⟨b', off' + k * 6 + 1, none⟩ = some (_) := hcell' 1 _ rfl
        have c2 : wr.cell? ⟨b, off + k * 6 + 2, none⟩ = some (_) := hcell 2 _ rfl
        have c2' : wr.cell? ⟨b', off' + k * 6 + 2, none⟩ = some (_) := hcell' 2 _ rfl
        have c3 : wr.cell? ⟨b, off + k * 6 + 3, none⟩ = some (_) := hcell 3 _ rfl
        have c3' : wr.cell? ⟨b', off' + k * 6 + 3, none⟩ = some (_) := hcell' 3 _ rfl
        have c4 : wr.cell? ⟨b, off + k * 6 + 4, none⟩ = some (_) := hcell 4 _ rfl
        have c4' : wr.cell? ⟨b', off' + k * 6 + 4, none⟩ = some (_) := hcell' 4 _ rfl
        have c5 : wr.cell? ⟨b, off + k * 6 + 5, none⟩ = some (_) := hcell 5 _ rfl
        have c5' : wr.cell? ⟨b', off' + k * 6 + 5, none⟩ = some (_) := hcell' 5 _ rfl
        have lb := cell_lt c0
        have lb' := cell_lt c0'
        clear hcell hys hcell' hys'
        by_cases hdd : d = d'
        · have hb : decide (d = d') = true := by simpa using hdd
          have HDD : Hid (d = d') := hdd
          clear hdd
          go_wp2_with (first | (first | (go_at_call 81; (with_reducible refine (eq_Gt d d' _ _ _ _ _ _ _ _ _ _ _ _ _ (g2.stays ((by repeat (first | with_reducible exact Ext.refl _ | with_reducible apply Ext.and | with_reducible apply Ext.drewx | with_reducible apply Ext.alloc | with_reducible apply Ext.ext | with_reducible apply Ext.drew | with_reducible refine Ext.setCell ?_ (by simp) _)) : Ext _ _).below) (g2'.stays ((by repeat (first | with_reducible exact Ext.refl _ | with_reducible apply Ext.and | with_reducible apply Ext.drewx | with_reducible apply Ext.alloc | with_reducible apply Ext.ext | with_reducible apply Ext.drew | with_reducible refine Ext.setCell ?_ (by simp) _)) : Ext _ _).below) (g4.stays ((by repeat (first | with_reducible exact Ext.refl _ | with_reducible apply Ext.and | with_reducible apply Ext.drewx | with_reducible apply Ext.alloc | with_reducible apply Ext.ext | with_reducible apply Ext.drew | with_reducible refine Ext.setCell ?_ (by simp) _)) : Ext _ _).below) (g4'.stays ((by repeat (first | with_reducible exact Ext.refl _ | with_reducible apply Ext.and | with_reducible apply Ext.drewx | with_reducible apply Ext.alloc | with_reducible apply Ext.ext | with_reducible apply Ext.drew | with_reducible refine Ext.setCell ?_ (by simp) _)) : Ext _ _).below)).mono ?_); rintro _ _ ⟨rfl, x, rfl⟩)) | ((first | with_reducible refine wp_region_qe (by kernel_rfl) (by kernel_rfl) ?_ | with_reducible refine wp_region_q (by kernel_rfl) (by kernel_rfl) ?_); (repeat (go_big_quiet_step ((first | (go_at_call 81; first | with_reducible exact Calls.qb (by assumption) (eq_Gt d d' _ _ _ _ _ _ _ _ _ _ _ _ _ (g2.stays ((by repeat (first | with_reducible exact Ext.refl _ | with_reducible apply Ext.and | with_reducible apply Ext.drewx | with_reducible apply Ext.alloc | with_reducible apply Ext.ext | with_reducible apply Ext.drew | with_reducible refine Ext.setCell ?_ (by simp) _)) : Ext _ _).below) (g2'.stays ((by repeat (first | with_reducible exact Ext.refl _ | with_reducible apply Ext.and | with_reducible apply Ext.drewx | with_reducible apply Ext.alloc | with_reducible apply Ext.ext | with_reducible apply Ext.drew | with_reducible refine Ext.setCell ?_ (by simp) _)) : Ext _ _).below) (g4.stays ((by repeat (first | with_reducible exact Ext.refl _ | with_reducible apply Ext.and | with_reducible apply Ext.drewx | with_reducible apply Ext.alloc | with_reducible apply Ext.ext | with_reducible apply Ext.drew | with_reducible refine Ext.setCell ?_ (by simp) _)) : Ext _ _).below) (g4'.stays ((by repeat (first | with_reducible exact Ext.refl _ | with_reducible apply Ext.and | with_reducible apply Ext.drewx | with_reducible apply Ext.alloc | with_reducible apply Ext.ext | with_reducible apply Ext.drew | with_reducible refine Ext.setCell ?_ (by simp) _)) : Ext _ _).below)) | with_reducible exact Calls.q (eq_Gt d d' _ _ _ _ _ _ _ _ _ _ _ _ _ (g2.stays ((by repeat (first | with_reducible exact Ext.refl _ | with_reducible apply Ext.and | with_reducible apply Ext.drewx | with_reducible apply Ext.alloc | with_reducible apply Ext.ext | with_reducible apply Ext.drew | with_reducible refine Ext.setCell ?_ (by simp) _)) : Ext _ _).below) (g2'.stays ((by repeat (first | with_reducible exact Ext.refl _ | with_reducible apply Ext.and | with_reducible apply Ext.drewx | with_reducible apply Ext.alloc | with_reducible apply Ext.ext | with_reducible apply Ext.drew | with_reducible refine Ext.setCell ?_ (by simp) _)) : Ext _ _).below) (g4.stays ((by repeat (first | with_reducible exact Ext.refl _ | with_reducible apply Ext.and | with_reducible apply Ext.drewx | with_reducible apply Ext.alloc | with_reducible apply Ext.ext | with_reducible apply Ext.drew | with_reducible refine Ext.setCell ?_ (by simp) _)) : Ext _ _).below) (g4'.stays ((by repeat (first | with_reducible exact Ext.refl _ | with_reducible apply Ext.and | with_reducible apply Ext.drewx | with_reducible apply Ext.alloc | with_reducible apply Ext.ext | with_reducible apply Ext.drew | with_reducible refine Ext.setCell ?_ (by simp) _)) : Ext _ _).below))))))); refine wpQuiet_nil ?_; intro x))
          go_roundw
          case rel => exact ⟨k + 1, by omega, by go_num, (by first | exact hE | exact hE.ext _ | exact hE.trans (by repeat (first | with_reducible exact Ext.refl _ | with_reducible apply Ext.and | with_reducible apply Ext.drewx | with_reducible apply Ext.alloc | with_reducible apply Ext.ext | with_reducible apply Ext.drew | with_reducible refine Ext.setCell ?_ (by simp) _))), take_succ_eq HT.out HD.out (HDD.out ▸ HD'.out)⟩
          case measure => simp [intOf]; omega
        · have hb : decide (d = d') = false := by simpa using hdd
          have HDD : Hid (¬ d = d') := hdd
          clear hdd
          go_wp2_with (first | (first | (go_at_call 81; (with_reducible refine (eq_Gt d d' _ _ _ _ _ _ _ _ _ _ _ _ _ (g2.stays ((by repeat (first | with_reducible exact Ext.refl _ | with_reducible apply Ext.and | with_reducible apply Ext.drewx | with_reducible apply Ext.alloc | with_reducible apply Ext.ext | with_reducible apply Ext.drew | with_reducible refine Ext.setCell ?_ (by simp) _)) : Ext _ _).below) (g2'.stays ((by repeat (first | with_reducible exact Ext.refl _ | with_reducible apply Ext.and | with_reducible apply Ext.drewx | with_reducible apply Ext.alloc | with_reducible apply Ext.ext | with_reducible apply Ext.drew | with_reducible refine Ext.setCell ?_ (by simp) _)) : Ext _ _).below) (g4.stays ((by repeat (first | with_reducible exact Ext.refl _ | with_reducible apply Ext.and | with_reducible apply Ext.drewx | with_reducible apply Ext.alloc | with_reducible apply Ext.ext | with_reducible apply Ext.drew | with_reducible refine Ext.setCell ?_ (by simp) _)) : Ext _ _).below) (g4'.stays ((by repeat (first | with_reducible exact Ext.refl _ | with_reducible apply Ext.and | with_reducible apply Ext.drewx | with_reducible apply Ext.alloc | with_reducible apply Ext.ext | with_reducible apply Ext.drew | with_reducible refine Ext.setCell ?_ (by simp) _)) : Ext _ _).below)).mono ?_); rintro _ _ ⟨rfl, x, rfl⟩)) | ((first | with_reducible refine wp_region_qe (by kernel_rfl) (by kernel_rfl) ?_ | with_reducible refine wp_region_q (by kernel_rfl) (by kernel_rfl) ?_); (repeat (go_big_quiet_step ((first | (go_at_call 81; first | with_reducible exact Calls.qb (by assumption) (eq_Gt d d' _ _ _ _ _ _ _ _ _ _ _ _ _ (g2.stays ((by repeat (first | with_reducible exact Ext.refl _ | with_reducible apply Ext.and | with_reducible apply Ext.drewx | with_reducible apply Ext.alloc | with_reducible apply Ext.ext | with_reducible apply Ext.drew | with_reducible refine Ext.setCell ?_ (by simp) _)) : Ext _ _).below) (g2'.stays ((by repeat (first | with_reducible exact Ext.refl _ | with_reducible apply Ext.and | with_reducible apply Ext.drewx | with_reducible apply Ext.alloc | with_reducible apply Ext.ext | with_reducible apply Ext.drew | with_reducible refine Ext.setCell ?_ (by simp) _)) : Ext _ _).below) (g4.stays ((by repeat (first | with_reducible exact Ext.refl _ | with_reducible apply Ext.and | with_reducible apply Ext.drewx | with_reducible apply Ext.alloc | with_reducible apply Ext.ext | with_reducible apply Ext.drew | with_reducible refine Ext.setCell ?_ (by simp) _)) : Ext _ _).below) (g4'.stays ((by repeat (first | with_reducible exact Ext.refl _ | with_reducible apply Ext.and | with_reducible apply Ext.drewx | with_reducible apply Ext.alloc | with_reducible apply Ext.ext | with_reducible apply Ext.drew | with_reducible refine Ext.setCell ?_ (by simp) _)) : Ext _ _).below)) | with_reducible exact Calls.q (eq_Gt d d' _ _ _ _ _ _ _ _ _ _ _ _ _ (g2.stays ((by repeat (first | with_reducible exact Ext.refl _ | with_reducible apply Ext.and | with_reducible apply Ext.drewx | with_reducible apply Ext.alloc | with_reducible apply Ext.ext | with_reducible apply Ext.drew | with_reducible refine Ext.setCell ?_ (by simp) _)) : Ext _ _).below) (g2'.stays ((by repeat (first | with_reducible exact Ext.refl _ | with_reducible apply Ext.and | with_reducible apply Ext.drewx | with_reducible apply Ext.alloc | with_reducible apply Ext.ext | with_reducible apply Ext.drew | with_reducible refine Ext.setCell ?_ (by simp) _)) : Ext _ _).below) (g4.stays ((by repeat (first | with_reducible exact Ext.refl _ | with_reducible apply Ext.and | with_reducible apply Ext.drewx | with_reducible apply Ext.alloc | with_reducible apply Ext.ext | with_reducible apply Ext.drew | with_reducible refine Ext.setCell ?_ (by simp) _)) : Ext _ _).below) (g4'.stays ((by repeat (first | with_reducible exact Ext.refl _ | with_reducible apply Ext.and | with_reducible apply Ext.drewx | with_reducible apply Ext.alloc | with_reducible apply Ext.ext | with_reducible apply Ext.drew | with_reducible refine Ext.setCell ?_ (by simp) _)) : Ext _ _).below))))))); refine wpQuiet_nil ?_; intro x))
          go_ret
          exact ⟨ret_bool (by simpa using ne_at HD.out HD'.out HDD.out), (by first | exact hE | exact hE.ext _ | exact hE.trans (by repeat (first | with_reducible exact Ext.refl _ | with_reducible apply Ext.and | with_reducible apply Ext.drewx | with_reducible apply Ext.alloc | with_reducible apply Ext.ext | with_reducible apply Ext.drew | with_reducible refine Ext.setCell ?_ (by simp) _)))⟩
      · obtain rfl : k = len := by omega
        go_wp2_with (first | ((first | with_reducible refine wp_region_qe (by kernel_rfl) (by kernel_rfl) ?_ | with_reducible refine wp_region_q (by kernel_rfl) (by kernel_rfl) ?_); (repeat (go_big_quiet_step (fail))); refine wpQuiet_nil ?_; intro x))
        go_ret
        exact ⟨ret_bool (by simpa using eq_take HT.out HL.out HL'.out), (by first | exact hE | exact hE.ext _ | exact hE.trans (by repeat (first | with_reducible exact Ext.refl _ | with_reducible apply Ext.and | with_reducible apply Ext.drewx | with_reducible apply Ext.alloc | with_reducible apply Ext.ext | with_reducible apply Ext.drew | with_reducible refine Ext.setCell ?_ (by simp) _)))⟩
  · have hb : ((len : Int) != (len' : Int)) = true := by simpa using (by omega : ¬ (len : Int) = len')
    go_enter Tryz.func44, Tryz.ntmps44
    go_wp2_with (first | ((first | with_reducible refine wp_region_qe (by kernel_rfl) (by kernel_rfl) ?_ | with_reducible refine wp_region_q (by kernel_rfl) (by kernel_rfl) ?_); (repeat (go_big_quiet_step (fail))); refine wpQuiet_nil ?_; intro x))
    go_ret
    exact ⟨ret_bool (by simpa using (fun e : l = l' => hne (by rw [← hlen, ← hlen', e]))), Ext.refl _⟩

set_option maxHeartbeats 1000000 in
theorem sz_Rb (d : Rb) (a_all : Option Addr) (n_all c_all : Nat) (left : Int) (w : World) (s1 : SlRd w a_all n_all c_all d.all) (h0 : 0 ≤ left) (h1 : left ≤ 1048576) :
    Calls Tryz.prog 5 #[.agg #[.int .i64 d.house, .bool d.up, .slice a_all n_all c_all], .int .i64 left] w fun e w' => e = .returned (.int .i64 (szR (Sz.sz d) left)) ∧ Ext w w' := by
  have HZ : Hid (Sz.sz d = Sz.sz d.all) := rfl
  by_cases hz1 : (Sz.sz d.all : Int) ≤ left
  · have e1 := szR_le hz1
    go_enter Tryz.func5, Tryz.ntmps5
    go_wp2_with (first | (first | (go_at_call 27; (with_reducible refine (sz_LGt _ _ _ d.all _ _ (s1.stays ((by repeat (first | with_reducible exact Ext.refl _ | with_reducible apply Ext.and | with_reducible apply Ext.drewx | with_reducible apply Ext.alloc | with_reducible apply Ext.ext | with_reducible apply Ext.drew | with_reducible refine Ext.setCell ?_ (by simp) _)) : Ext _ _).below) (by omega) (by omega)).mono ?_); rintro _ _ ⟨rfl, x, rfl⟩)) | ((first | with_reducible refine wp_region_qe (by kernel_rfl) (by kernel_rfl) ?_ | with_reducible refine wp_region_q (by kernel_rfl) (by kernel_rfl) ?_); (repeat (go_big_quiet_step ((first | (go_at_call 27; first | with_reducible exact Calls.qb (by assumption) (sz_LGt _ _ _ d.all _ _ (s1.stays ((by repeat (first | with_reducible exact Ext.refl _ | with_reducible apply Ext.and | with_reducible apply Ext.drewx | with_reducible apply Ext.alloc | with_reducible apply Ext.ext | with_reducible apply Ext.drew | with_reducible refine Ext.setCell ?_ (by simp) _)) : Ext _ _).below) (by omega) (by omega)) | with_reducible exact Calls.q (sz_LGt _ _ _ d.all _ _ (s1.stays ((by repeat (first | with_reducible exact Ext.refl _ | with_reducible apply Ext.and | with_reducible apply Ext.drewx | with_reducible apply Ext.alloc | with_reducible apply Ext.ext | with_reducible apply Ext.drew | with_reducible refine Ext.setCell ?_ (by simp) _)) : Ext _ _).below) (by omega) (by omega))))))); refine wpQuiet_nil ?_; intro x))
    go_ret
    exact ⟨ret_int (by have h3 := HZ.out; rw [h3]; (rw [szR_le (by omega)] <;> omega)), (by repeat (first | with_reducible exact Ext.refl _ | with_reducible apply Ext.and | with_reducible apply Ext.drewx | with_reducible apply Ext.alloc | with_reducible apply Ext.ext | with_reducible apply Ext.drew | with_reducible refine Ext.setCell ?_ (by simp) _))⟩
  · have e1 := szR_gt hz1
    go_enter Tryz.func5, Tryz.ntmps5
    go_wp2_with (first | (first | (go_at_call 27; (with_reducible refine (sz_LGt _ _ _ d.all _ _ (s1.stays ((by repeat (first | with_reducible exact Ext.refl _ | with_reducible apply Ext.and | with_reducible apply Ext.drewx | with_reducible apply Ext.alloc | with_reducible apply Ext.ext | with_reducible apply Ext.drew | with_reducible refine Ext.setCell ?_ (by simp) _)) : Ext _ _).below) (by omega) (by omega)).mono ?_); rintro _ _ ⟨rfl, x, rfl⟩)) | ((first | with_reducible refine wp_region_qe (by kernel_rfl) (by kernel_rfl) ?_ | with_reducible refine wp_region_q (by kernel_rfl) (by kernel_rfl) ?_); (repeat (go_big_quiet_step ((first | (go_at_call 27; first | with_reducible exact Calls.qb (by assumption) (sz_LGt _ _ _ d.all _ _ (s1.stays ((by repeat (first | with_reducible exact Ext.refl _ | with_reducible apply Ext.and | with_reducible apply Ext.drewx | with_reducible apply Ext.alloc | with_reducible apply Ext.ext | with_reducible apply Ext.drew | with_reducible refine Ext.setCell ?_ (by simp) _)) : Ext _ _).below) (by omega) (by omega)) | with_reducible exact Calls.q (sz_LGt _ _ _ d.all _ _ (s1.stays ((by repeat (first | with_reducible exact Ext.refl _ | with_reducible apply Ext.and | with_reducible apply Ext.drewx | with_reducible apply Ext.alloc | with_reducible apply Ext.ext | with_reducible apply Ext.drew | with_reducible refine Ext.setCell ?_ (by simp) _)) : Ext _ _).below) (by omega) (by omega))))))); refine wpQuiet_nil ?_; intro x))
    go_ret
    exact ⟨ret_int (by have h3 := HZ.out; rw [h3]; exact (szR_gt (by omega)).symm), (by repeat (first | with_reducible exact Ext.refl _ | with_reducible apply Ext.and | with_reducible apply Ext.drewx | with_reducible apply Ext.alloc | with_reducible apply Ext.ext | with_reducible apply Ext.drew | with_reducible refine Ext.setCell ?_ (by simp) _))⟩

set_option linter.unusedSimpArgs false in
set_option maxHeartbeats 2000000 in
theorem to_Rb (d : Rb) (a_all : Option Addr) (n_all c_all : Nat) (w : World) (hn : Sz.sz d ≤ 1048576) (h0 : I64 d.house) (h1 : SlRd w a_all n_all c_all d.all) :
    Calls Tryz.prog 8 #[.agg #[.int .i64 d.house, .bool d.up, .slice a_all n_all c_all]] w fun e w' => ∃ a_allq n_allq c_allq, e = .returned (.agg #[.int .i64 d.house, .bool d.up, .slice a_allq n_allq c_allq]) ∧ ∃ x, w' = ext w x ∧ Hid (Fresh w (ext w x) [.int .i64 d.house, .bool d.up, .slice a_allq n_allq c_allq] d) := by
  have hz : Sz.sz d = Sz.sz d.all := rfl
  have z0 : Sz.sz d.all ≤ 1048576 := by omega
  have tk0 : True := trivial
  clear hz hn
  go_enter Tryz.func8, Tryz.ntmps8
  go_wp2_with (first | (first | ((go_at_call 35; have _t := tk0; (with_reducible refine (to_LGt _ _ _ _ _ ?_ z0).mono ?_); (exact h1.stays ((by repeat (first | with_reducible exact Ext.refl _ | with_reducible apply Ext.and | with_reducible apply Ext.drewx | with_reducible apply Ext.alloc | with_reducible apply Ext.ext | with_reducible apply Ext.drew | with_reducible refine Ext.setCell ?_ (by simp) _)) : Ext _ _).below); rintro _ _ ⟨B0, rfl, x0, rfl, F0⟩; (try rw [ext_ext] at F0); clear tk0 _t))) | ((first | with_reducible refine wp_region_qe (by kernel_rfl) (by kernel_rfl) ?_ | with_reducible refine wp_region_q (by kernel_rfl) (by kernel_rfl) ?_); (repeat (go_big_quiet_step ((first | ((go_at_call 35; have _t := tk0; (with_reducible refine (to_LGt _ _ _ _ _ ?_ z0).mono ?_); (exact h1.stays ((by repeat (first | with_reducible exact Ext.refl _ | with_reducible apply Ext.and | with_reducible apply Ext.drewx | with_reducible apply Ext.alloc | with_reducible apply Ext.ext | with_reducible apply Ext.drew | with_reducible refine Ext.setCell ?_ (by simp) _)) : Ext _ _).below); rintro _ _ ⟨B0, rfl, x0, rfl, F0⟩; (try rw [ext_ext] at F0); clear tk0 _t)))))); refine wpQuiet_nil ?_; intro x))
  refine bodyPost_ret (v := .agg #[.int .i64 d.house, .bool d.up, .slice (some ⟨B0, 0, none⟩) n_all n_all]) (by simp [results, Tryz.results8, go_sem]) rfl ⟨_, _, _, rfl, fin_fresh ⟨(by repeat (first | with_reducible exact Ext.refl _ | with_reducible apply Ext.and | with_reducible apply Ext.drewx | with_reducible apply Ext.alloc | with_reducible apply Ext.ext | with_reducible apply Ext.drew | with_reducible refine Ext.setCell ?_ (by simp) _)), ?_⟩⟩
  refine own1 F0.out ?_ ?_ ?_
  · simp; try omega
  · exact (by repeat (first | with_reducible exact Abv.refl _ _ | with_reducible apply Abv.and | with_reducible apply Abv.drewx | with_reducible apply Abv.alloc | with_reducible apply Abv.ext | with_reducible apply Abv.drew | with_reducible refine Abv.setCell ?_ (by simp) _))
  · intro f0 o0
    have o0 := own_slice o0; exact ⟨_, _, _, f0, rfl, h0, o0, rfl⟩

set_option maxHeartbeats 1000000 in
theorem eq_Rb (d d' : Rb) (a_all : Option Addr) (n_all c_all : Nat) (a_all' : Option Addr) (n_all' c_all' : Nat) (w : World) (h1 : SlRd w a_all n_all c_all d.all) (h1' : SlRd w a_all' n_all' c_all' d'.all) :
    Calls Tryz.prog 11 #[.agg #[.int .i64 d.house, .bool d.up, .slice a_all n_all c_all], .agg #[.int .i64 (d'.house), .bool d'.up, .slice a_all' n_all' c_all']] w fun e w' => e = .returned (.bool (decide (d = d'))) ∧ Ext w w' := by
  go_enter Tryz.func11, Tryz.ntmps11
  go_wp2_with (first | (first | (go_at_call 44; (with_reducible refine (eq_LGt _ _ _ d.all _ _ _ d'.all _ (h1.stays ((by repeat (first | with_reducible exact Ext.refl _ | with_reducible apply Ext.and | with_reducible apply Ext.drewx | with_reducible apply Ext.alloc | with_reducible apply Ext.ext | with_reducible apply Ext.drew | with_reducible refine Ext.setCell ?_ (by simp) _)) : Ext _ _).below) (h1'.stays ((by repeat (first | with_reducible exact Ext.refl _ | with_reducible apply Ext.and | with_reducible apply Ext.drewx | with_reducible apply Ext.alloc | with_reducible apply Ext.ext | with_reducible apply Ext.drew | with_reducible refine Ext.setCell ?_ (by simp) _)) : Ext _ _).below)).mono ?_); rintro _ _ ⟨rfl, x, rfl⟩)) | ((first | with_reducible refine wp_region_qe (by kernel_rfl) (by kernel_rfl) ?_ | with_reducible refine wp_region_q (by kernel_rfl) (by kernel_rfl) ?_); (repeat (go_big_quiet_step ((first | (go_at_call 44; first | with_reducible exact Calls.qb (by assumption) (eq_LGt _ _ _ d.all _ _ _ d'.all _ (h1.stays ((by repeat (first | with_reducible exact Ext.refl _ | with_reducible apply Ext.and | with_reducible apply Ext.drewx | with_reducible apply Ext.alloc | with_reducible apply Ext.ext | with_reducible apply Ext.drew | with_reducible refine Ext.setCell ?_ (by simp) _)) : Ext _ _).below) (h1'.stays ((by repeat (first | with_reducible exact Ext.refl _ | with_reducible apply Ext.and | with_reducible apply Ext.drewx | with_reducible apply Ext.alloc | with_reducible apply Ext.ext | with_reducible apply Ext.drew | with_reducible refine Ext.setCell ?_ (by simp) _)) : Ext _ _).below)) | with_reducible exact Calls.q (eq_LGt _ _ _ d.all _ _ _ d'.all _ (h1.stays ((by repeat (first | with_reducible exact Ext.refl _ | with_reducible apply Ext.and | with_reducible apply Ext.drewx | with_reducible apply Ext.alloc | with_reducible apply Ext.ext | with_reducible apply Ext.drew | with_reducible refine Ext.setCell ?_ (by simp) _)) : Ext _ _).below) (h1'.stays ((by repeat (first | with_reducible exact Ext.refl _ | with_reducible apply Ext.and | with_reducible apply Ext.drewx | with_reducible apply Ext.alloc | with_reducible apply Ext.ext | with_reducible apply Ext.drew | with_reducible refine Ext.setCell ?_ (by simp) _)) : Ext _ _).below))))))); refine wpQuiet_nil ?_; intro x))
  all_goals
    go_ret
    exact ⟨ret_bool (by simp_all [Rb_eq]), (by repeat (first | with_reducible exact Ext.refl _ | with_reducible apply Ext.and | with_reducible apply Ext.drewx | with_reducible apply Ext.alloc | with_reducible apply Ext.ext | with_reducible apply Ext.drew | with_reducible refine Ext.setCell ?_ (by simp) _))⟩







set_option maxHeartbeats 1000000 in
theorem sz_Dl (d : Dl) (a_drop : Option Addr) (n_drop c_drop : Nat) (a_tell : Option Addr) (n_tell c_tell : Nat) (left : Int) (w : World) (s0 : SlRd w a_drop n_drop c_drop d.drop) (s1 : SlRd w a_tell n_tell c_tell d.tell) (h0 : 0 ≤ left) (h1 : left ≤ 1048576) :
    Calls Tryz.prog 17 #[.agg #[.slice a_drop n_drop c_drop, .slice a_tell n_tell c_tell], .int .i64 left] w fun e w' => e = .returned (.int .i64 (szR (Sz.sz d) left)) ∧ Ext w w' := by
  have HZ : Hid (Sz.sz d = Sz.sz d.drop + Sz.sz d.tell) := rfl
  by_cases hz1 : (Sz.sz d.drop : Int) ≤ left
  · have e1 := szR_le hz1
    by_cases hz2 : (Sz.sz d.tell : Int) ≤ left - Sz.sz d.drop
    · have e2 := szR_le hz2
      go_enter Tryz.func17, Tryz.ntmps17
      go_wp2_with (first | (first | (go_at_call 50; (with_reducible refine (sz_LRg _ _ _ d.drop _ _ (s0.stays ((by repeat (first | with_reducible exact Ext.refl _ | with_reducible apply Ext.and | with_reducible apply Ext.drewx | with_reducible apply Ext.alloc | with_reducible apply Ext.ext | with_reducible apply Ext.drew | with_reducible refine Ext.setCell ?_ (by simp) _)) : Ext _ _).below) (by omega) (by omega)).mono ?_); rintro _ _ ⟨rfl, x, rfl⟩) | (go_at_call 16; (with_reducible refine (sz_LRt _ _ _ d.tell _ _ (s1.stays ((by repeat (first | with_reducible exact Ext.refl _ | with_reducible apply Ext.and | with_reducible apply Ext.drewx | with_reducible apply Ext.alloc | with_reducible apply Ext.ext | with_reducible apply Ext.drew | with_reducible refine Ext.setCell ?_ (by simp) _)) : Ext _ _).below) (by omega) (by omega)).mono ?_); rintro _ _ ⟨rfl, x, rfl⟩)) | ((first | with_reducible refine wp_region_qe (by kernel_rfl) (by kernel_rfl) ?_ | with_reducible refine wp_region_q (by kernel_rfl) (by kernel_rfl) ?_); (repeat (go_big_quiet_step ((first | (go_at_call 50; first | with_reducible exact Calls.qb (by assumption) (sz_LRg _ _ _ d.drop _ _ (s0.stays ((by repeat (first | with_reducible exact Ext.refl _ | with_reducible apply Ext.and | with_reducible apply Ext.drewx | with_reducible apply Ext.alloc | with_reducible apply Ext.ext | with_reducible apply Ext.drew | with_reducible refine Ext.setCell ?_ (by simp) _)) : Ext _ _).below) (by omega) (by omega)) | with_reducible exact Calls.q (sz_LRg _ _ _ d.drop _ _ (s0.stays ((by repeat (first | with_reducible exact Ext.refl _ | with_reducible apply Ext.and | with_reducible apply Ext.drewx | with_reducible apply Ext.alloc | with_reducible apply Ext.ext | with_reducible apply Ext.drew | with_reducible refine Ext.setCell ?_ (by simp) _)) : Ext _ _).below) (by omega) (by omega))) | (go_at_call 16; first | with_reducible exact Calls.qb (by assumption) (sz_LRt _ _ _ d.tell _ _ (s1.stays ((by repeat (first | with_reducible exact Ext.refl _ | with_reducible apply Ext.and | with_reducible apply Ext.drewx | with_reducible apply Ext.alloc | with_reducible apply Ext.ext | with_reducible apply Ext.drew | with_reducible refine Ext.setCell ?_ (by simp) _)) : Ext _ _).below) (by omega) (by omega)) | with_reducible exact Calls.q (sz_LRt _ _ _ d.tell _ _ (s1.stays ((by repeat (first | with_reducible exact Ext.refl _ | with_reducible apply Ext.and | with_reducible apply Ext.drewx | with_reducible apply Ext.alloc | with_reducible apply Ext.ext | with_reducible apply Ext.drew | with_reducible refine Ext.setCell ?_ (by simp) _)) : Ext _ _).below) (by omega) (by omega))))))); refine wpQuiet_nil ?_; intro x))
      go_ret
      exact ⟨ret_int (by have h3 := HZ.out; rw [h3]; (rw [szR_le (by omega)] <;> omega)), (by repeat (first | with_reducible exact Ext.refl _ | with_reducible apply Ext.and | with_reducible apply Ext.drewx | with_reducible apply Ext.alloc | with_reducible apply Ext.ext | with_reducible apply Ext.drew | with_reducible refine Ext.setCell ?_ (by simp) _))⟩
    · have e2 := szR_gt hz2
      go_enter Tryz.func17, Tryz.ntmps17
      go_wp2_with (first | (first | (go_at_call 50; (with_reducible refine (sz_LRg _ _ _ d.drop _ _ (s0.stays ((by repeat (first | with_reducible exact Ext.refl _ | with_reducible apply Ext.and | with_reducible apply Ext.drewx | with_reducible apply Ext.alloc | with_reducible apply Ext.ext | with_reducible apply Ext.drew | with_reducible refine Ext.setCell ?_ (by simp) _)) : Ext _ _).below) (by omega) (by omega)).mono ?_); rintro _ _ ⟨rfl, x, rfl⟩) | (go_at_call 16; (with_reducible refine (sz_LRt _ _ _ d.tell _ _ (s1.stays ((by repeat (first | with_reducible exact Ext.refl _ | with_reducible apply Ext.and | with_reducible apply Ext.drewx | with_reducible apply Ext.alloc | with_reducible apply Ext.ext | with_reducible apply Ext.drew | with_reducible refine Ext.setCell ?_ (by simp) _)) : Ext _ _).below) (by omega) (by omega)).mono ?_); rintro _ _ ⟨rfl, x, rfl⟩)) | ((first | with_reducible refine wp_region_qe (by kernel_rfl) (by kernel_rfl) ?_ | with_reducible refine wp_region_q (by kernel_rfl) (by kernel_rfl) ?_); (repeat (go_big_quiet_step ((first | (go_at_call 50; first | with_reducible exact Calls.qb (by assumption) (sz_LRg _ _ _ d.drop _ _ (s0.stays ((by repeat (first | with_reducible exact Ext.refl _ | with_reducible apply Ext.and | with_reducible apply Ext.drewx | with_reducible apply Ext.alloc | with_reducible apply Ext.ext | with_reducible apply Ext.drew | with_reducible refine Ext.setCell ?_ (by simp) _)) : Ext _ _).below) (by omega) (by omega)) | with_reducible exact Calls.q (sz_LRg _ _ _ d.drop _ _ (s0.stays ((by repeat (first | with_reducible exact Ext.refl _ | with_reducible apply Ext.and | with_reducible apply Ext.drewx | with_reducible apply Ext.alloc | with_reducible apply Ext.ext | with_reducible apply Ext.drew | with_reducible refine Ext.setCell ?_ (by simp) _)) : Ext _ _).below) (by omega) (by omega))) | (go_at_call 16; first | with_reducible exact Calls.qb (by assumption) (sz_LRt _ _ _ d.tell _ _ (s1.stays ((by repeat (first | with_reducible exact Ext.refl _ | with_reducible apply Ext.and | with_reducible apply Ext.drewx | with_reducible apply Ext.alloc | with_reducible apply Ext.ext | with_reducible apply Ext.drew | with_reducible refine Ext.setCell ?_ (by simp) _)) : Ext _ _).below) (by omega) (by omega)) | with_reducible exact Calls.q (sz_LRt _ _ _ d.tell _ _ (s1.stays ((by repeat (first | with_reducible exact Ext.refl _ | with_reducible apply Ext.and | with_reducible apply Ext.drewx | with_reducible apply Ext.alloc | with_reducible apply Ext.ext | with_reducible apply Ext.drew | with_reducible refine Ext.setCell ?_ (by simp) _)) : Ext _ _).below) (by omega) (by omega))))))); refine wpQuiet_nil ?_; intro x))
      go_ret
      exact ⟨ret_int (by have h3 := HZ.out; rw [h3]; exact (szR_gt (by omega)).symm), (by repeat (first | with_reducible exact Ext.refl _ | with_reducible apply Ext.and | with_reducible apply Ext.drewx | with_reducible apply Ext.alloc | with_reducible apply Ext.ext | with_reducible apply Ext.drew | with_reducible refine Ext.setCell ?_ (by simp) _))⟩
  · have e1 := szR_gt hz1
    go_enter Tryz.func17, Tryz.ntmps17
    go_wp2_with (first | (first | (go_at_call 50; (with_reducible refine (sz_LRg _ _ _ d.drop _ _ (s0.stays ((by repeat (first | with_reducible exact Ext.refl _ | with_reducible apply Ext.and | with_reducible apply Ext.drewx | with_reducible apply Ext.alloc | with_reducible apply Ext.ext | with_reducible apply Ext.drew | with_reducible refine Ext.setCell ?_ (by simp) _)) : Ext _ _).below) (by omega) (by omega)).mono ?_); rintro _ _ ⟨rfl, x, rfl⟩) | (go_at_call 16; (with_reducible refine (sz_LRt _ _ _ d.tell _ _ (s1.stays ((by repeat (first | with_reducible exact Ext.refl _ | with_reducible apply Ext.and | with_reducible apply Ext.drewx | with_reducible apply Ext.alloc | with_reducible apply Ext.ext | with_reducible apply Ext.drew | with_reducible refine Ext.setCell ?_ (by simp) _)) : Ext _ _).below) (by omega) (by omega)).mono ?_); rintro _ _ ⟨rfl, x, rfl⟩)) | ((first | with_reducible refine wp_region_qe (by kernel_rfl) (by kernel_rfl) ?_ | with_reducible refine wp_region_q (by kernel_rfl) (by kernel_rfl) ?_); (repeat (go_big_quiet_step ((first | (go_at_call 50; first | with_reducible exact Calls.qb (by assumption) (sz_LRg _ _ _ d.drop _ _ (s0.stays ((by repeat (first | with_reducible exact Ext.refl _ | with_reducible apply Ext.and | with_reducible apply Ext.drewx | with_reducible apply Ext.alloc | with_reducible apply Ext.ext | with_reducible apply Ext.drew | with_reducible refine Ext.setCell ?_ (by simp) _)) : Ext _ _).below) (by omega) (by omega)) | with_reducible exact Calls.q (sz_LRg _ _ _ d.drop _ _ (s0.stays ((by repeat (first | with_reducible exact Ext.refl _ | with_reducible apply Ext.and | with_reducible apply Ext.drewx | with_reducible apply Ext.alloc | with_reducible apply Ext.ext | with_reducible apply Ext.drew | with_reducible refine Ext.setCell ?_ (by simp) _)) : Ext _ _).below) (by omega) (by omega))) | (go_at_call 16; first | with_reducible exact Calls.qb (by assumption) (sz_LRt _ _ _ d.tell _ _ (s1.stays ((by repeat (first | with_reducible exact Ext.refl _ | with_reducible apply Ext.and | with_reducible apply Ext.drewx | with_reducible apply Ext.alloc | with_reducible apply Ext.ext | with_reducible apply Ext.drew | with_reducible refine Ext.setCell ?_ (by simp) _)) : Ext _ _).below) (by omega) (by omega)) | with_reducible exact Calls.q (sz_LRt _ _ _ d.tell _ _ (s1.stays ((by repeat (first | with_reducible exact Ext.refl _ | with_reducible apply Ext.and | with_reducible apply Ext.drewx | with_reducible apply Ext.alloc | with_reducible apply Ext.ext | with_reducible apply Ext.drew | with_reducible refine Ext.setCell ?_ (by simp) _)) : Ext _ _).below) (by omega) (by omega))))))); refine wpQuiet_nil ?_; intro x))
    go_ret
    exact ⟨ret_int (by have h3 := HZ.out; rw [h3]; exact (szR_gt (by omega)).symm), (by repeat (first | with_reducible exact Ext.refl _ | with_reducible apply Ext.and | with_reducible apply Ext.drewx | with_reducible apply Ext.alloc | with_reducible apply Ext.ext | with_reducible apply Ext.drew | with_reducible refine Ext.setCell ?_ (by simp) _))⟩

set_option linter.unusedSimpArgs false in
set_option maxHeartbeats 2000000 in
theorem to_Dl (d : Dl) (a_drop : Option Addr) (n_drop c_drop : Nat) (a_tell : Option Addr) (n_tell c_tell : Nat) (w : World) (hn : Sz.sz d ≤ 1048576) (h0 : SlRd w a_drop n_drop c_drop d.drop) (h1 : SlRd w a_tell n_tell c_tell d.tell) :
    Calls Tryz.prog 20 #[.agg #[.slice a_drop n_drop c_drop, .slice a_tell n_tell c_tell]] w fun e w' => ∃ a_dropq n_dropq c_dropq a_tellq n_tellq c_tellq, e = .returned (.agg #[.slice a_dropq n_dropq c_dropq, .slice a_tellq n_tellq c_tellq]) ∧ ∃ x, w' = ext w x ∧ Hid (Fresh w (ext w x) [.slice a_dropq n_dropq c_dropq, .slice a_tellq n_tellq c_tellq] d) := by
  have hz : Sz.sz d = Sz.sz d.drop + Sz.sz d.tell := rfl
  have z0 : Sz.sz d.drop ≤ 1048576 := by omega
  have tk0 : True := trivial
  have z1 : Sz.sz d.tell ≤ 1048576 := by omega
  have tk1 : True := trivial
  clear hz hn
  go_enter Tryz.func20, Tryz.ntmps20
  go_wp2_with (first | (first | ((go_at_call 54; have _t := tk0; (with_reducible refine (to_LRg _ _ _ _ _ ?_ z0).mono ?_); (exact h0.stays ((by repeat (first | with_reducible exact Ext.refl _ | with_reducible apply Ext.and | with_reducible apply Ext.drewx | with_reducible apply Ext.alloc | with_reducible apply Ext.ext | with_reducible apply Ext.drew | with_reducible refine Ext.setCell ?_ (by simp) _)) : Ext _ _).below); rintro _ _ ⟨B0, rfl, x0, rfl, F0⟩; (try rw [ext_ext] at F0); clear tk0 _t)) | ((go_at_call 19; have _t := tk1; (with_reducible refine (to_LRt _ _ _ _ _ ?_ z1).mono ?_); (exact h1.stays ((by repeat (first | with_reducible exact Ext.refl _ | with_reducible apply Ext.and | with_reducible apply Ext.drewx | with_reducible apply Ext.alloc | with_reducible apply Ext.ext | with_reducible apply Ext.drew | with_reducible refine Ext.setCell ?_ (by simp) _)) : Ext _ _).below); rintro _ _ ⟨B1, rfl, x1, rfl, F1⟩; (try rw [ext_ext] at F1); clear tk1 _t))) | ((first | with_reducible refine wp_region_qe (by kernel_rfl) (by kernel_rfl) ?_ | with_reducible refine wp_region_q (by kernel_rfl) (by kernel_rfl) ?_); (repeat (go_big_quiet_step ((first | ((go_at_call 54; have _t := tk0; (with_reducible refine (to_LRg _ _ _ _ _ ?_ z0).mono ?_); (exact h0.stays ((by repeat (first | with_reducible exact Ext.refl _ | with_reducible apply Ext.and | with_reducible apply Ext.drewx | with_reducible apply Ext.alloc | with_reducible apply Ext.ext | with_reducible apply Ext.drew | with_reducible refine Ext.setCell ?_ (by simp) _)) : Ext _ _).below); rintro _ _ ⟨B0, rfl, x0, rfl, F0⟩; (try rw [ext_ext] at F0); clear tk0 _t)) | ((go_at_call 19; have _t := tk1; (with_reducible refine (to_LRt _ _ _ _ _ ?_ z1).mono ?_); (exact h1.stays ((by repeat (first | with_reducible exact Ext.refl _ | with_reducible apply Ext.and | with_reducible apply Ext.drewx | with_reducible apply Ext.alloc | with_reducible apply Ext.ext | with_reducible apply Ext.drew | with_reducible refine Ext.setCell ?_ (by simp) _)) : Ext _ _).below); rintro _ _ ⟨B1, rfl, x1, rfl, F1⟩; (try rw [ext_ext] at F1); clear tk1 _t)))))); refine wpQuiet_nil ?_; intro x))
  refine bodyPost_ret (v := .agg #[.slice (some ⟨B0, 0, none⟩) n_drop n_drop, .slice (some ⟨B1, 0, none⟩) n_tell n_tell]) (by simp [results, Tryz.results20, go_sem]) rfl ⟨_, _, _, _, _, _, rfl, fin_fresh ⟨(by repeat (first | with_reducible exact Ext.refl _ | with_reducible apply Ext.and | with_reducible apply Ext.drewx | with_reducible apply Ext.alloc | with_reducible apply Ext.ext | with_reducible apply Ext.drew | with_reducible refine Ext.setCell ?_ (by simp) _)), ?_⟩⟩
  refine own2 F0.out F1.out ?_ ?_ ?_ ?_ ?_
  · simp; try omega
  · simp; try omega
  · exact (by repeat (first | with_reducible exact Abv.refl _ _ | with_reducible apply Abv.and | with_reducible apply Abv.drewx | with_reducible apply Abv.alloc | with_reducible apply Abv.ext | with_reducible apply Abv.drew | with_reducible refine Abv.setCell ?_ (by simp) _))
  · exact (by repeat (first | with_reducible exact Abv.refl _ _ | with_reducible apply Abv.and | with_reducible apply Abv.drewx | with_reducible apply Abv.alloc | with_reducible apply Abv.ext | with_reducible apply Abv.drew | with_reducible refine Abv.setCell ?_ (by simp) _))
  · intro f0 f1 o0 o1
    have o0 := own_slice o0; have o1 := own_slice o1; exact ⟨_, _, _, _, _, _, f0, f1, rfl, o0, o1, rfl⟩

set_option maxHeartbeats 1000000 in
theorem eq_Dl (d d' : Dl) (a_drop : Option Addr) (n_drop c_drop : Nat) (a_tell : Option Addr) (n_tell c_tell : Nat) (a_drop' : Option Addr) (n_drop' c_drop' : Nat) (a_tell' : Option Addr) (n_tell' c_tell' : Nat) (w : World) (h0 : SlRd w a_drop n_drop c_drop d.drop) (h0' : SlRd w a_drop' n_drop' c_drop' d'.drop) (h1 : SlRd w a_tell n_tell c_tell d.tell) (h1' : SlRd w a_tell' n_tell' c_tell' d'.tell) :
    Calls Tryz.prog 23 #[.agg #[.slice a_drop n_drop c_drop, .slice a_tell n_tell c_tell], .agg #[.slice a_drop' n_drop' c_drop', .slice a_tell' n_tell' c_tell']] w fun e w' => e = .returned (.bool (decide (d = d'))) ∧ Ext w w' := by
  go_enter Tryz.func23, Tryz.ntmps23
  go_wp2_with (first | (first | (go_at_call 63; (with_reducible refine (eq_LRg _ _ _ d.drop _ _ _ d'.drop _ (h0.stays ((by repeat (first | with_reducible exact Ext.refl _ | with_reducible apply Ext.and | with_reducible apply Ext.drewx | with_reducible apply Ext.alloc | with_reducible apply Ext.ext | with_reducible apply Ext.drew | with_reducible refine Ext.setCell ?_ (by simp) _)) : Ext _ _).below) (h0'.stays ((by repeat (first | with_reducible exact Ext.refl _ | with_reducible apply Ext.and | with_reducible apply Ext.drewx | with_reducible apply Ext.alloc | with_reducible apply Ext.ext | with_reducible apply Ext.drew | with_reducible refine Ext.setCell ?_ (by simp) _)) : Ext _ _).below)).mono ?_); rintro _ _ ⟨rfl, x, rfl⟩) | (go_at_call 22; (with_reducible refine (eq_LRt _ _ _ d.tell _ _ _ d'.tell _ (h1.stays ((by repeat (first | with_reducible exact Ext.refl _ | with_reducible apply Ext.and | with_reducible apply Ext.drewx | with_reducible apply Ext.alloc | with_reducible apply Ext.ext | with_reducible apply Ext.drew | with_reducible refine Ext.setCell ?_ (by simp) _)) : Ext _ _).below) (h1'.stays ((by repeat (first | with_reducible exact Ext.refl _ | with_reducible apply Ext.and | with_reducible apply Ext.drewx | with_reducible apply Ext.alloc | with_reducible apply Ext.ext | with_reducible apply Ext.drew | with_reducible refine Ext.setCell ?_ (by simp) _)) : Ext _ _).below)).mono ?_); rintro _ _ ⟨rfl, x, rfl⟩)) | ((first | with_reducible refine wp_region_qe (by kernel_rfl) (by kernel_rfl) ?_ | with_reducible refine wp_region_q (by kernel_rfl) (by kernel_rfl) ?_); (repeat (go_big_quiet_step ((first | (go_at_call 63; first | with_reducible exact Calls.qb (by assumption) (eq_LRg _ _ _ d.drop _ _ _ d'.drop _ (h0.stays ((by repeat (first | with_reducible exact Ext.refl _ | with_reducible apply Ext.and | with_reducible apply Ext.drewx | with_reducible apply Ext.alloc | with_reducible apply Ext.ext | with_reducible apply Ext.drew | with_reducible refine Ext.setCell ?_ (by simp) _)) : Ext _ _).below) (h0'.stays ((by repeat (first | with_reducible exact Ext.refl _ | with_reducible apply Ext.and | with_reducible apply Ext.drewx | with_reducible apply Ext.alloc | with_reducible apply Ext.ext | with_reducible apply Ext.drew | with_reducible refine Ext.setCell ?_ (by simp) _)) : Ext _ _).below)) | with_reducible exact Calls.q (eq_LRg _ _ _ d.drop _ _ _ d'.drop _ (h0.stays ((by repeat (first | with_reducible exact Ext.refl _ | with_reducible apply Ext.and | with_reducible apply Ext.drewx | with_reducible apply Ext.alloc | with_reducible apply Ext.ext | with_reducible apply Ext.drew | with_reducible refine Ext.setCell ?_ (by simp) _)) : Ext _ _).below) (h0'.stays ((by repeat (first | with_reducible exact Ext.refl _ | with_reducible apply Ext.and | with_reducible apply Ext.drewx | with_reducible apply Ext.alloc | with_reducible apply Ext.ext | with_reducible apply Ext.drew | with_reducible refine Ext.setCell ?_ (by simp) _)) : Ext _ _).below))) | (go_at_call 22; first | with_reducible exact Calls.qb (by assumption) (eq_LRt _ _ _ d.tell _ _ _ d'.tell _ (h1.stays ((by repeat (first | with_reducible exact Ext.refl _ | with_reducible apply Ext.and | with_reducible apply Ext.drewx | with_reducible apply Ext.alloc | with_reducible apply Ext.ext | with_reducible apply Ext.drew | with_reducible refine Ext.setCell ?_ (by simp) _)) : Ext _ _).below) (h1'.stays ((by repeat (first | with_reducible exact Ext.refl _ | with_reducible apply Ext.and | with_reducible apply Ext.drewx | with_reducible apply Ext.alloc | with_reducible apply Ext.ext | with_reducible apply Ext.drew | with_reducible refine Ext.setCell ?_ (by simp) _)) : Ext _ _).below)) | with_reducible exact Calls.q (eq_LRt _ _ _ d.tell _ _ _ d'.tell _ (h1.stays ((by repeat (first | with_reducible exact Ext.refl _ | with_reducible apply Ext.and | with_reducible apply Ext.drewx | with_reducible apply Ext.alloc | with_reducible apply Ext.ext | with_reducible apply Ext.drew | with_reducible refine Ext.setCell ?_ (by simp) _)) : Ext _ _).below) (h1'.stays ((by repeat (first | with_reducible exact Ext.refl _ | with_reducible apply Ext.and | with_reducible apply Ext.drewx | with_reducible apply Ext.alloc | with_reducible apply Ext.ext | with_reducible apply Ext.drew | with_reducible refine Ext.setCell ?_ (by simp) _)) : Ext _ _).below))))))); refine wpQuiet_nil ?_; intro x))
  all_goals
    go_ret
    exact ⟨ret_bool (by simp_all [Dl_eq]), (by repeat (first | with_reducible exact Ext.refl _ | with_reducible apply Ext.and | with_reducible apply Ext.drewx | with_reducible apply Ext.alloc | with_reducible apply Ext.ext | with_reducible apply Ext.drew | with_reducible refine Ext.setCell ?_ (by simp) _))⟩







end Go.Proofs.YtlehcnfmagjilaaGreatDoor
