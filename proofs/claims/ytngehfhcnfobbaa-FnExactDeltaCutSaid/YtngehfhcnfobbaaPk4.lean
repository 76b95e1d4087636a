/- Lemmas for it, part 4. No condition. -/
import Derived.Test.YtngehfhcnfobbaaPk1
import Derived.Test.YtngehfhcnfobbaaPk3
namespace Go.Proofs.Ytngehfhcnfobbaa
open Go Go.RowKit


set_option maxHeartbeats 1000000 in
theorem to_Rg (d : Rg) (w : World) :
    Calls Try.prog 29 #[.agg #[.int .i64 d.f, .int .i64 d.b]] w fun e w' => e = .returned (.agg #[.int .i64 d.f, .int .i64 d.b]) ∧ Ext w w' := by
  go_enter Try.func29, Try.ntmps29
  go_wp2_with (first | ((first | with_reducible refine wp_region_qe (by kernel_rfl) (by kernel_rfl) ?_ | with_reducible refine wp_region_q (by kernel_rfl) (by kernel_rfl) ?_); (repeat (go_big_quiet_step (fail))); refine wpQuiet_nil ?_; intro x))
  exact bodyPost_ret (v := .agg #[.int .i64 d.f, .int .i64 d.b]) (by simp [results, Try.results29, go_sem]) rfl ⟨rfl, (by repeat (first | with_reducible exact Ext.refl _ | with_reducible apply Ext.and | with_reducible apply Ext.drewx | with_reducible apply Ext.alloc | with_reducible apply Ext.ext | with_reducible apply Ext.drew | with_reducible refine Ext.setCell ?_ (by simp) _))⟩

set_option maxHeartbeats 1000000 in
theorem eq_Rg (d d' : Rg)   (w : World)  :
    Calls Try.prog 32 #[.agg #[.int .i64 d.f, .int .i64 d.b], .agg #[.int .i64 (d'.f), .int .i64 (d'.b)]] w fun e w' => e = .returned (.bool (decide (d = d'))) ∧ Ext w w' := by
  go_enter Try.func32, Try.ntmps32
  go_wp2_with (first | ((first | with_reducible refine wp_region_qe (by kernel_rfl) (by kernel_rfl) ?_ | with_reducible refine wp_region_q (by kernel_rfl) (by kernel_rfl) ?_); (repeat (go_big_quiet_step (fail))); refine wpQuiet_nil ?_; intro x))
  all_goals
    go_ret
    exact ⟨ret_bool (by simp_all [Rg_eq]), (by repeat (first | with_reducible exact Ext.refl _ | with_reducible apply Ext.and | with_reducible apply Ext.drewx | with_reducible apply Ext.alloc | with_reducible apply Ext.ext | with_reducible apply Ext.drew | with_reducible refine Ext.setCell ?_ (by simp) _))⟩













set_option maxHeartbeats 1000000 in
theorem sz_Lint (a : Option Addr) (len cap : Nat) (l : (List Int)) (left : Int) (w : World) (h : SlRd w a len cap l) (h0 : 0 ≤ left) (h1 : left ≤ 1048576) :
    Calls Try.prog 36 #[.slice a len cap, .int .i64 left] w fun e w' => e = .returned (.int .i64 (szR (Sz.sz l) left)) ∧ Ext w w' := by
  have hm := h.2.2.1
  have hlc := h.2.1
  have hlen := h.1
  unfold maxLen at hm
  have e : Sz.sz l = len := by rw [← hlen]; exact szL_flat l (fun _ => rfl)
  rw [e]
  clear e hlen
  by_cases hle : (len : Int) ≤ left
  all_goals
    go_enter Try.func36, Try.ntmps36
    go_wp2
    go_ret
    exact ⟨ret_int (by first | rw [szR_le hle] | rw [szR_gt (by omega)]), Ext.refl _⟩

theorem info_impl_int : (Try.prog.info? 3).map (fun i => (i.zero, i.size, i.bytes)) = some (some (.int .i64 0), 1, 8) := by kernel_rfl
set_option maxHeartbeats 1000000 in
theorem to_Lint (a : Option Addr) (len cap : Nat) (l : (List Int)) (w : World) (h : SlRd w a len cap l) (hn : Sz.sz l ≤ 1048576) :
    Calls Try.prog 37 #[.slice a len cap] w fun e w' => ∃ B, e = .returned (.slice (some ⟨B, 0, none⟩) len len) ∧ ∃ x, w' = ext w x ∧ Hid (Fresh w (ext w x) [.slice (some ⟨B, 0, none⟩) len len] l) := by
  have hlen := h.1
  have hn' : len ≤ 1048576 := by have : Sz.sz l = l.length + (l.map Sz.sz).sum := rfl; omega
  obtain ⟨i0, hi, hz0, hz1, hz2⟩ := info_parts info_impl_int
  have hmk := mkSlice Try.underlying44 hi hz0 len (by rw [hz2]; omega) (by unfold maxLen; omega)
  have HZ : Hid (l.length = len) := hlen
  have HN : Hid (Sz.sz l ≤ 1048576) := hn
  clear hlen hn
  go_enter Try.func37, Try.ntmps37
  go_wp2_with fail
  have hF : Fill (w.alloc (Obj.cells (madeCells #[.int .i64 0] (len)) 3)) w.heap.size 3 len l 0 := Fill.start (Blk.new w _ _) (by simp [madeCells]; first | rfl | exact (Nat.mul_one len).symm)
  have hE : Ext w (w.alloc (Obj.cells (madeCells #[.int .i64 0] (len)) 3)) := (by repeat (first | with_reducible exact Ext.refl _ | with_reducible apply Ext.and | with_reducible apply Ext.drewx | with_reducible apply Ext.alloc | with_reducible apply Ext.ext | with_reducible apply Ext.drew | with_reducible refine Ext.setCell ?_ (by simp) _))
  generalize (w.alloc (Obj.cells (madeCells #[.int .i64 0] (len)) 3)) = w1 at *
  clear hmk
  go_loopw [4] (fun i wr => ∃ k : Nat, k ≤ len ∧ i = .int .i64 k ∧ Ext w wr ∧ Fill wr w.heap.size 3 len l k) (fun i _ => len - (intOf i).toNat)
  case atStart => exact ⟨0, Nat.zero_le _, rfl, hE, hF⟩
  case round =>
    obtain ⟨k, hk, rfl, hE, hF⟩ := hrel
    by_cases hlt : k < len
    · obtain ⟨d, hd, b, off, ys, rfl, hys, hcell, hrd⟩ := h.at hE hlt
      obtain ⟨rfl, g0⟩ := hrd
      have c0 : wr.cell? ⟨b, off + k, none⟩ = some (.int .i64 d) := by have := hcell 0 _ rfl; simpa [Lay.n] using this
      have lb := cell_lt c0
      obtain ⟨cs, hB, hL⟩ := hF.blk
      have lB := hB.lt
      have hL' : cs.length = len * 1 := hL
      obtain ⟨z0, s0⟩ := hB.get (j := k) (by omega)
      have f0 := hB.frozen (k)
      have HL : Hid (cs.length = len * 1) := hL
      have HD : Hid (l[k]? = some d) := hd
      have HF : Hid (Fill wr w.heap.size 3 len l k) := hF
      clear hcell hys hL hL' hd hF
      go_wp2_with (first | ((first | with_reducible refine wp_region_qe (by kernel_rfl) (by kernel_rfl) ?_ | with_reducible refine wp_region_q (by kernel_rfl) (by kernel_rfl) ?_); (repeat (go_big_quiet_step (fail))); refine wpQuiet_nil ?_; intro x))
      go_roundw
      case rel => exact ⟨k + 1, by omega, by go_num, by simpa [setW] using (Ext.setW (Nat.le_refl _) [.int .i64 d] k hE), by have := HF.out.step (ys := [.int .i64 d]) HD.out hlt rfl ⟨Ext.refl wr, [], ⟨⟨rfl, g0⟩, rfl⟩, by simp, by simp⟩; simpa [setW, Lay.n] using this⟩
      case measure => simp [intOf]; omega
    · obtain rfl : k = len := by omega
      have hres := Fill.done hE (Nat.le_refl _) HZ.out (by unfold maxLen; omega) hF
      obtain ⟨x, rfl⟩ := hE
      clear hF
      go_wp2
      go_ret
      exact ⟨_, rfl, x, rfl, hres⟩

set_option maxHeartbeats 1000000 in
theorem eq_Lint (a : Option Addr) (len cap : Nat) (l : (List Int)) (a' : Option Addr) (len' cap' : Nat) (l' : (List Int)) (w : World) (h : SlRd w a len cap l) (h' : SlRd w a' len' cap' l') :
    Calls Try.prog 38 #[.slice a len cap, .slice a' len' cap'] w fun e w' => e = .returned (.bool (decide (l = l'))) ∧ Ext w w' := by
  have hm := h.2.2.1
  have hlc := h.2.1
  have hlen := h.1
  have hlen' := h'.1
  unfold maxLen at hm
  by_cases hne : len = len'
  · subst hne
    have HL : Hid (l.length = len) := hlen
    have HL' : Hid (l'.length = len) := hlen'
    clear hlen hlen'
    go_enter Try.func38, Try.ntmps38
    go_wp2_with fail
    go_loopw [5] (fun i wr => ∃ k : Nat, k ≤ len ∧ i = .int .i64 k ∧ Ext w wr ∧ Hid (l.take k = l'.take k)) (fun i _ => len - (intOf i).toNat)
    case atStart => exact ⟨0, Nat.zero_le _, rfl, Ext.refl _, rfl⟩
    case round =>
      obtain ⟨k, hk, rfl, hE, HT⟩ := hrel
      by_cases hlt : k < len
      · obtain ⟨d, hd, b, off, ys, rfl, hys, hcell, hrd⟩ := h.at hE hlt
        obtain ⟨d', hd', b', off', ys', rfl, hys', hcell', hrd'⟩ := h'.at hE hlt
        have HD : Hid (l[k]? = some d) := hd
        have HD' : Hid (l'[k]? = some d') := hd'
        clear hd hd'
        obtain ⟨rfl, g0⟩ := hrd
        obtain ⟨rfl, g0'⟩ := hrd'
        have c0 : wr.cell? ⟨b, off + k, none⟩ = some (.int .i64 d) := by have := hcell 0 _ rfl; simpa [Lay.n] using this
        have c0' : wr.cell? ⟨b', off' + k, none⟩ = some (.int .i64 d') := by have := hcell' 0 _ rfl; simpa [Lay.n] using this
        have lb := cell_lt c0
        have lb' := cell_lt c0'
        clear hcell hys hcell' hys'
        by_cases hdd : d = d'
        · subst hdd
          go_wp2_with (first | ((first | with_reducible refine wp_region_qe (by kernel_rfl) (by kernel_rfl) ?_ | with_reducible refine wp_region_q (by kernel_rfl) (by kernel_rfl) ?_); (repeat (go_big_quiet_step (fail))); refine wpQuiet_nil ?_; intro x))
          go_roundw
          case rel => exact ⟨k + 1, by omega, by go_num, (by first | exact hE | exact hE.ext _ | exact hE.trans (by repeat (first | with_reducible exact Ext.refl _ | with_reducible apply Ext.and | with_reducible apply Ext.drewx | with_reducible apply Ext.alloc | with_reducible apply Ext.ext | with_reducible apply Ext.drew | with_reducible refine Ext.setCell ?_ (by simp) _))), take_succ_eq HT.out HD.out HD'.out⟩
          case measure => simp [intOf]; omega
        · have hb : (d != d') = true := by simpa using hdd
          go_wp2_with (first | ((first | with_reducible refine wp_region_qe (by kernel_rfl) (by kernel_rfl) ?_ | with_reducible refine wp_region_q (by kernel_rfl) (by kernel_rfl) ?_); (repeat (go_big_quiet_step (fail))); refine wpQuiet_nil ?_; intro x))
          go_ret
          exact ⟨ret_bool (by simpa using ne_at HD.out HD'.out hdd), (by first | exact hE | exact hE.ext _ | exact hE.trans (by repeat (first | with_reducible exact Ext.refl _ | with_reducible apply Ext.and | with_reducible apply Ext.drewx | with_reducible apply Ext.alloc | with_reducible apply Ext.ext | with_reducible apply Ext.drew | with_reducible refine Ext.setCell ?_ (by simp) _)))⟩
      · obtain rfl : k = len := by omega
        go_wp2_with (first | ((first | with_reducible refine wp_region_qe (by kernel_rfl) (by kernel_rfl) ?_ | with_reducible refine wp_region_q (by kernel_rfl) (by kernel_rfl) ?_); (repeat (go_big_quiet_step (fail))); refine wpQuiet_nil ?_; intro x))
        go_ret
        exact ⟨ret_bool (by simpa using eq_take HT.out HL.out HL'.out), (by first | exact hE | exact hE.ext _ | exact hE.trans (by repeat (first | with_reducible exact Ext.refl _ | with_reducible apply Ext.and | with_reducible apply Ext.drewx | with_reducible apply Ext.alloc | with_reducible apply Ext.ext | with_reducible apply Ext.drew | with_reducible refine Ext.setCell ?_ (by simp) _)))⟩
  · have hb : ((len : Int) != (len' : Int)) = true := by simpa using (by omega : ¬ (len : Int) = len')
    go_enter Try.func38, Try.ntmps38
    go_wp2_with (first | ((first | with_reducible refine wp_region_qe (by kernel_rfl) (by kernel_rfl) ?_ | with_reducible refine wp_region_q (by kernel_rfl) (by kernel_rfl) ?_); (repeat (go_big_quiet_step (fail))); refine wpQuiet_nil ?_; intro x))
    go_ret
    exact ⟨ret_bool (by simpa using (fun e : l = l' => hne (by rw [← hlen, ← hlen', e]))), Ext.refl _⟩







set_option maxHeartbeats 1000000 in
theorem sz_LRg (a : Option Addr) (len cap : Nat) (l : (List Rg)) (left : Int) (w : World) (h : SlRd w a len cap l) (h0 : 0 ≤ left) (h1 : left ≤ 1048576) :
    Calls Try.prog 13 #[.slice a len cap, .int .i64 left] w fun e w' => e = .returned (.int .i64 (szR (Sz.sz l) left)) ∧ Ext w w' := by
  have hm := h.2.2.1
  have hlc := h.2.1
  have hlen := h.1
  unfold maxLen at hm
  have e : Sz.sz l = len := by rw [← hlen]; exact szL_flat l (fun _ => rfl)
  rw [e]
  clear e hlen
  by_cases hle : (len : Int) ≤ left
  all_goals
    go_enter Try.func13, Try.ntmps13
    go_wp2
    go_ret
    exact ⟨ret_int (by first | rw [szR_le hle] | rw [szR_gt (by omega)]), Ext.refl _⟩

theorem info_impl_Rg : (Try.prog.info? 43).map (fun i => (i.zero, i.size, i.bytes)) = some (some (.agg #[.int .i64 0, .int .i64 0]), 2, 16) := by kernel_rfl
set_option maxHeartbeats 1000000 in
theorem to_LRg (a : Option Addr) (len cap : Nat) (l : (List Rg)) (w : World) (h : SlRd w a len cap l) (hn : Sz.sz l ≤ 1048576) :
    Calls Try.prog 17 #[.slice a len cap] w fun e w' => ∃ B, e = .returned (.slice (some ⟨B, 0, none⟩) len len) ∧ ∃ x, w' = ext w x ∧ Hid (Fresh w (ext w x) [.slice (some ⟨B, 0, none⟩) len len] l) := by
  have hlen := h.1
  have hn' : len ≤ 1048576 := by have : Sz.sz l = l.length + (l.map Sz.sz).sum := rfl; omega
  obtain ⟨i0, hi, hz0, hz1, hz2⟩ := info_parts info_impl_Rg
  have hmk := mkSlice Try.underlying29 hi hz0 len (by rw [hz2]; omega) (by unfold maxLen; omega)
  have HZ : Hid (l.length = len) := hlen
  have HN : Hid (Sz.sz l ≤ 1048576) := hn
  clear hlen hn
  go_enter Try.func17, Try.ntmps17
  go_wp2_with fail
  have hF : Fill (w.alloc (Obj.cells (madeCells #[.int .i64 0, .int .i64 0] (len * 2)) 43)) w.heap.size 43 len l 0 := Fill.start (Blk.new w _ _) (by simp [madeCells]; first | rfl | exact (Nat.mul_one len).symm)
  have hE : Ext w (w.alloc (Obj.cells (madeCells #[.int .i64 0, .int .i64 0] (len * 2)) 43)) := (by repeat (first | with_reducible exact Ext.refl _ | with_reducible apply Ext.and | with_reducible apply Ext.drewx | with_reducible apply Ext.alloc | with_reducible apply Ext.ext | with_reducible apply Ext.drew | with_reducible refine Ext.setCell ?_ (by simp) _))
  generalize (w.alloc (Obj.cells (madeCells #[.int .i64 0, .int .i64 0] (len * 2)) 43)) = w1 at *
  clear hmk
  go_loopw [4] (fun i wr => ∃ k : Nat, k ≤ len ∧ i = .int .i64 k ∧ Ext w wr ∧ Fill wr w.heap.size 43 len l k) (fun i _ => len - (intOf i).toNat)
  case atStart => exact ⟨0, Nat.zero_le _, rfl, hE, hF⟩
  case round =>
    obtain ⟨k, hk, rfl, hE, hF⟩ := hrel
    by_cases hlt : k < len
    · obtain ⟨d, hd, b, off, ys, rfl, hys, hcell, hrd⟩ := h.at hE hlt
      obtain ⟨rfl, g0, g1⟩ := hrd
      have c0 : wr.cell? ⟨b, off + k * 2, none⟩ = some (_) := hcell 0 _ rfl
      have c1 : wr.cell? ⟨b, off + k * 2 + 1, none⟩ = some (_) := hcell 1 _ rfl
      have lb := cell_lt c0
      obtain ⟨cs, hB, hL⟩ := hF.blk
      have lB := hB.lt
      have hL' : cs.length = len * 2 := hL
      obtain ⟨z0, s0⟩ := hB.get (j := k * 2) (by omega)
      have f0 := hB.frozen (k * 2)
      obtain ⟨z1, s1⟩ := hB.get (j := k * 2 + 1) (by omega)
      have f1 := hB.frozen (k * 2 + 1)
      have HL : Hid (cs.length = len * 2) := hL
      have HD : Hid (l[k]? = some d) := hd
      have HF : Hid (Fill wr w.heap.size 43 len l k) := hF
      clear hcell hys hL hL' hd hF
      go_wp2_with (first | (first | (go_at_call 29; (with_reducible refine (to_Rg d _).mono ?_); rintro _ _ ⟨rfl, x, rfl⟩)) | ((first | with_reducible refine wp_region_qe (by kernel_rfl) (by kernel_rfl) ?_ | with_reducible refine wp_region_q (by kernel_rfl) (by kernel_rfl) ?_); (repeat (go_big_quiet_step ((first | (go_at_call 29; first | with_reducible exact Calls.qb (by assumption) (to_Rg d _) | with_reducible exact Calls.q (to_Rg d _)))))); refine wpQuiet_nil ?_; intro x))
      go_roundw
      case rel => exact ⟨k + 1, by omega, by go_num, Ext.setW (Nat.le_refl _) [.int .i64 d.f, .int .i64 d.b] (k * 2) (hE.ext x), HF.out.step (w1 := ext wr x) (ys := [.int .i64 d.f, .int .i64 d.b]) HD.out hlt rfl ⟨⟨x, rfl⟩, [], ⟨⟨rfl, g0, g1⟩, rfl⟩, by simp, by simp⟩⟩
      case measure => simp [intOf]; omega
    · obtain rfl : k = len := by omega
      have hres := Fill.done hE (Nat.le_refl _) HZ.out (by unfold maxLen; omega) hF
      obtain ⟨x, rfl⟩ := hE
      clear hF
      go_wp2
      go_ret
      exact ⟨_, rfl, x, rfl, hres⟩

set_option maxHeartbeats 1000000 in
theorem eq_LRg (a : Option Addr) (len cap : Nat) (l : (List Rg)) (a' : Option Addr) (len' cap' : Nat) (l' : (List Rg)) (w : World) (h : SlRd w a len cap l) (h' : SlRd w a' len' cap' l') :
    Calls Try.prog 22 #[.slice a len cap, .slice a' len' cap'] w fun e w' => e = .returned (.bool (decide (l = l'))) ∧ Ext w w' := by
  have hm := h.2.2.1
  have hlc := h.2.1
  have hlen := h.1
  have hlen' := h'.1
  unfold maxLen at hm
  by_cases hne : len = len'
  · subst hne
    have HL : Hid (l.length = len) := hlen
    have HL' : Hid (l'.length = len) := hlen'
    clear hlen hlen'
    go_enter Try.func22, Try.ntmps22
    go_wp2_with fail
    go_loopw [5] (fun i wr => ∃ k : Nat, k ≤ len ∧ i = .int .i64 k ∧ Ext w wr ∧ Hid (l.take k = l'.take k)) (fun i _ => len - (intOf i).toNat)
    case atStart => exact ⟨0, Nat.zero_le _, rfl, Ext.refl _, rfl⟩
    case round =>
      obtain ⟨k, hk, rfl, hE, HT⟩ := hrel
      by_cases hlt : k < len
      · obtain ⟨d, hd, b, off, ys, rfl, hys, hcell, hrd⟩ := h.at hE hlt
        obtain ⟨d', hd', b', off', ys', rfl, hys', hcell', hrd'⟩ := h'.at hE hlt
        have HD : Hid (l[k]? = some d) := hd
        have HD' : Hid (l'[k]? = some d') := hd'
        clear hd hd'
        obtain ⟨rfl, g0, g1⟩ := hrd
        obtain ⟨rfl, g0', g1'⟩ := hrd'
        have c0 : wr.cell? ⟨b, off + k * 2, none⟩ = some (_) := hcell 0 _ rfl
        have c0' : wr.cell? ⟨b', off' + k * 2, none⟩ = some (_) := hcell' 0 _ rfl
        have c1 : wr.cell? ⟨b, off + k * 2 + 1, none⟩ = some (_) := hcell 1 _ rfl
        have c1' : wr.cell? ⟨b', off' + k * 2 + 1, none⟩ = some (_) := hcell' 1 _ rfl
        have lb := cell_lt c0
        have lb' := cell_lt c0'
        clear hcell hys hcell' hys'
        by_cases hdd : d = d'
        · have hb : decide (d = d') = true := by simpa using hdd
          have HDD : Hid (d = d') := hdd
          clear hdd
          go_wp2_with (first | (first | (go_at_call 32; (with_reducible refine (eq_Rg d d'  _).mono ?_); rintro _ _ ⟨rfl, x, rfl⟩)) | ((first | with_reducible refine wp_region_qe (by kernel_rfl) (by kernel_rfl) ?_ | with_reducible refine wp_region_q (by kernel_rfl) (by kernel_rfl) ?_); (repeat (go_big_quiet_step ((first | (go_at_call 32; first | with_reducible exact Calls.qb (by assumption) (eq_Rg d d'  _) | with_reducible exact Calls.q (eq_Rg d d'  _)))))); refine wpQuiet_nil ?_; intro x))
          go_roundw
          case rel => exact ⟨k + 1, by omega, by go_num, (by first | exact hE | exact hE.ext _ | exact hE.trans (by repeat (first | with_reducible exact Ext.refl _ | with_reducible apply Ext.and | with_reducible apply Ext.drewx | with_reducible apply Ext.alloc | with_reducible apply Ext.ext | with_reducible apply Ext.drew | with_reducible refine Ext.setCell ?_ (by simp) _))), take_succ_eq HT.out HD.out (HDD.out ▸ HD'.out)⟩
          case measure => simp [intOf]; omega
        · have hb : decide (d = d') = false := by simpa using hdd
          have HDD : Hid (¬ d = d') := hdd
          clear hdd
          go_wp2_with (first | (first | (go_at_call 32; (with_reducible refine (eq_Rg d d'  _).mono ?_); rintro _ _ ⟨rfl, x, rfl⟩)) | ((first | with_reducible refine wp_region_qe (by kernel_rfl) (by kernel_rfl) ?_ | with_reducible refine wp_region_q (by kernel_rfl) (by kernel_rfl) ?_); (repeat (go_big_quiet_step ((first | (go_at_call 32; first | with_reducible exact Calls.qb (by assumption) (eq_Rg d d'  _) | with_reducible exact Calls.q (eq_Rg d d'  _)))))); refine wpQuiet_nil ?_; intro x))
          go_ret
          exact ⟨ret_bool (by simpa using ne_at HD.out HD'.out HDD.out), (by first | exact hE | exact hE.ext _ | exact hE.trans (by repeat (first | with_reducible exact Ext.refl _ | with_reducible apply Ext.and | with_reducible apply Ext.drewx | with_reducible apply Ext.alloc | with_reducible apply Ext.ext | with_reducible apply Ext.drew | with_reducible refine Ext.setCell ?_ (by simp) _)))⟩
      · obtain rfl : k = len := by omega
        go_wp2_with (first | ((first | with_reducible refine wp_region_qe (by kernel_rfl) (by kernel_rfl) ?_ | with_reducible refine wp_region_q (by kernel_rfl) (by kernel_rfl) ?_); (repeat (go_big_quiet_step (fail))); refine wpQuiet_nil ?_; intro x))
        go_ret
        exact ⟨ret_bool (by simpa using eq_take HT.out HL.out HL'.out), (by first | exact hE | exact hE.ext _ | exact hE.trans (by repeat (first | with_reducible exact Ext.refl _ | with_reducible apply Ext.and | with_reducible apply Ext.drewx | with_reducible apply Ext.alloc | with_reducible apply Ext.ext | with_reducible apply Ext.drew | with_reducible refine Ext.setCell ?_ (by simp) _)))⟩
  · have hb : ((len : Int) != (len' : Int)) = true := by simpa using (by omega : ¬ (len : Int) = len')
    go_enter Try.func22, Try.ntmps22
    go_wp2_with (first | ((first | with_reducible refine wp_region_qe (by kernel_rfl) (by kernel_rfl) ?_ | with_reducible refine wp_region_q (by kernel_rfl) (by kernel_rfl) ?_); (repeat (go_big_quiet_step (fail))); refine wpQuiet_nil ?_; intro x))
    go_ret
    exact ⟨ret_bool (by simpa using (fun e : l = l' => hne (by rw [← hlen, ← hlen', e]))), Ext.refl _⟩



















set_option maxHeartbeats 1000000 in
theorem sz_Rt (d : Rt) (a_path : Option Addr) (n_path c_path : Nat) (a_marks : Option Addr) (n_marks c_marks : Nat) (left : Int) (w : World) (s2 : SlRd w a_path n_path c_path d.path) (s4 : SlRd w a_marks n_marks c_marks d.marks) (h0 : 0 ≤ left) (h1 : left ≤ 1048576) :
    Calls Try.prog 28 #[.agg #[.int .i64 d.r.f, .int .i64 d.r.b, .slice a_path n_path c_path, .int .i64 d.like, .slice a_marks n_marks c_marks], .int .i64 left] w fun e w' => e = .returned (.int .i64 (szR (Sz.sz d) left)) ∧ Ext w w' := by
  have HZ : Hid (Sz.sz d = Sz.sz d.path + Sz.sz d.marks) := rfl
  have tk : True := True.intro
  by_cases hz1 : (Sz.sz d.path : Int) ≤ left
  · have e1 := szR_le hz1
    by_cases hz2 : (Sz.sz d.marks : Int) ≤ left - Sz.sz d.path
    · have e2 := szR_le hz2
      go_enter Try.func28, Try.ntmps28
      go_wp2_with (first | (first | ((go_at_call 36; have _t := tk; (with_reducible refine (sz_Lint _ _ _ d.path _ _ (s2.stays ((by repeat (first | with_reducible exact Ext.refl _ | with_reducible apply Ext.and | with_reducible apply Ext.drewx | with_reducible apply Ext.alloc | with_reducible apply Ext.ext | with_reducible apply Ext.drew | with_reducible refine Ext.setCell ?_ (by simp) _)) : Ext _ _).below) (by omega) (by omega)).mono ?_); rintro _ _ ⟨rfl, x, rfl⟩; clear tk _t)) | (go_at_call 36; (with_reducible refine (sz_Lint _ _ _ d.marks _ _ (s4.stays ((by repeat (first | with_reducible exact Ext.refl _ | with_reducible apply Ext.and | with_reducible apply Ext.drewx | with_reducible apply Ext.alloc | with_reducible apply Ext.ext | with_reducible apply Ext.drew | with_reducible refine Ext.setCell ?_ (by simp) _)) : Ext _ _).below) (by omega) (by omega)).mono ?_); rintro _ _ ⟨rfl, x, rfl⟩)) | ((first | with_reducible refine wp_region_qe (by kernel_rfl) (by kernel_rfl) ?_ | with_reducible refine wp_region_q (by kernel_rfl) (by kernel_rfl) ?_); (repeat (go_big_quiet_step ((first | ((go_at_call 36; have _t := tk; (with_reducible refine (sz_Lint _ _ _ d.path _ _ (s2.stays ((by repeat (first | with_reducible exact Ext.refl _ | with_reducible apply Ext.and | with_reducible apply Ext.drewx | with_reducible apply Ext.alloc | with_reducible apply Ext.ext | with_reducible apply Ext.drew | with_reducible refine Ext.setCell ?_ (by simp) _)) : Ext _ _).below) (by omega) (by omega)).mono ?_); rintro _ _ ⟨rfl, x, rfl⟩; clear tk _t)) | (go_at_call 36; first | with_reducible exact Calls.qb (by assumption) (sz_Lint _ _ _ d.marks _ _ (s4.stays ((by repeat (first | with_reducible exact Ext.refl _ | with_reducible apply Ext.and | with_reducible apply Ext.drewx | with_reducible apply Ext.alloc | with_reducible apply Ext.ext | with_reducible apply Ext.drew | with_reducible refine Ext.setCell ?_ (by simp) _)) : Ext _ _).below) (by omega) (by omega)) | with_reducible exact Calls.q (sz_Lint _ _ _ d.marks _ _ (s4.stays ((by repeat (first | with_reducible exact Ext.refl _ | with_reducible apply Ext.and | with_reducible apply Ext.drewx | with_reducible apply Ext.alloc | with_reducible apply Ext.ext | with_reducible apply Ext.drew | with_reducible refine Ext.setCell ?_ (by simp) _)) : Ext _ _).below) (by omega) (by omega))))))); refine wpQuiet_nil ?_; intro x))
      go_ret
      exact ⟨ret_int (by have h3 := HZ.out; rw [h3]; (rw [szR_le (by omega)] <;> omega)), (by repeat (first | with_reducible exact Ext.refl _ | with_reducible apply Ext.and | with_reducible apply Ext.drewx | with_reducible apply Ext.alloc | with_reducible apply Ext.ext | with_reducible apply Ext.drew | with_reducible refine Ext.setCell ?_ (by simp) _))⟩
    · have e2 := szR_gt hz2
      go_enter Try.func28, Try.ntmps28
      go_wp2_with (first | (first | ((go_at_call 36; have _t := tk; (with_reducible refine (sz_Lint _ _ _ d.path _ _ (s2.stays ((by repeat (first | with_reducible exact Ext.refl _ | with_reducible apply Ext.and | with_reducible apply Ext.drewx | with_reducible apply Ext.alloc | with_reducible apply Ext.ext | with_reducible apply Ext.drew | with_reducible refine Ext.setCell ?_ (by simp) _)) : Ext _ _).below) (by omega) (by omega)).mono ?_); rintro _ _ ⟨rfl, x, rfl⟩; clear tk _t)) | (go_at_call 36; (with_reducible refine (sz_Lint _ _ _ d.marks _ _ (s4.stays ((by repeat (first | with_reducible exact Ext.refl _ | with_reducible apply Ext.and | with_reducible apply Ext.drewx | with_reducible apply Ext.alloc | with_reducible apply Ext.ext | with_reducible apply Ext.drew | with_reducible refine Ext.setCell ?_ (by simp) _)) : Ext _ _).below) (by omega) (by omega)).mono ?_); rintro _ _ ⟨rfl, x, rfl⟩)) | ((first | with_reducible refine wp_region_qe (by kernel_rfl) (by kernel_rfl) ?_ | with_reducible refine wp_region_q (by kernel_rfl) (by kernel_rfl) ?_); (repeat (go_big_quiet_step ((first | ((go_at_call 36; have _t := tk; (with_reducible refine (sz_Lint _ _ _ d.path _ _ (s2.stays ((by repeat (first | with_reducible exact Ext.refl _ | with_reducible apply Ext.and | with_reducible apply Ext.drewx | with_reducible apply Ext.alloc | with_reducible apply Ext.ext | with_reducible apply Ext.drew | with_reducible refine Ext.setCell ?_ (by simp) _)) : Ext _ _).below) (by omega) (by omega)).mono ?_); rintro _ _ ⟨rfl, x, rfl⟩; clear tk _t)) | (go_at_call 36; first | with_reducible exact Calls.qb (by assumption) (sz_Lint _ _ _ d.marks _ _ (s4.stays ((by repeat (first | with_reducible exact Ext.refl _ | with_reducible apply Ext.and | with_reducible apply Ext.drewx | with_reducible apply Ext.alloc | with_reducible apply Ext.ext | with_reducible apply Ext.drew | with_reducible refine Ext.setCell ?_ (by simp) _)) : Ext _ _).below) (by omega) (by omega)) | with_reducible exact Calls.q (sz_Lint _ _ _ d.marks _ _ (s4.stays ((by repeat (first | with_reducible exact Ext.refl _ | with_reducible apply Ext.and | with_reducible apply Ext.drewx | with_reducible apply Ext.alloc | with_reducible apply Ext.ext | with_reducible apply Ext.drew | with_reducible refine Ext.setCell ?_ (by simp) _)) : Ext _ _).below) (by omega) (by omega))))))); refine wpQuiet_nil ?_; intro x))
      go_ret
      exact ⟨ret_int (by have h3 := HZ.out; rw [h3]; exact (szR_gt (by omega)).symm), (by repeat (first | with_reducible exact Ext.refl _ | with_reducible apply Ext.and | with_reducible apply Ext.drewx | with_reducible apply Ext.alloc | with_reducible apply Ext.ext | with_reducible apply Ext.drew | with_reducible refine Ext.setCell ?_ (by simp) _))⟩
  · have e1 := szR_gt hz1
    go_enter Try.func28, Try.ntmps28
    go_wp2_with (first | (first | ((go_at_call 36; have _t := tk; (with_reducible refine (sz_Lint _ _ _ d.path _ _ (s2.stays ((by repeat (first | with_reducible exact Ext.refl _ | with_reducible apply Ext.and | with_reducible apply Ext.drewx | with_reducible apply Ext.alloc | with_reducible apply Ext.ext | with_reducible apply Ext.drew | with_reducible refine Ext.setCell ?_ (by simp) _)) : Ext _ _).below) (by omega) (by omega)).mono ?_); rintro _ _ ⟨rfl, x, rfl⟩; clear tk _t)) | (go_at_call 36; (with_reducible refine (sz_Lint _ _ _ d.marks _ _ (s4.stays ((by repeat (first | with_reducible exact Ext.refl _ | with_reducible apply Ext.and | with_reducible apply Ext.drewx | with_reducible apply Ext.alloc | with_reducible apply Ext.ext | with_reducible apply Ext.drew | with_reducible refine Ext.setCell ?_ (by simp) _)) : Ext _ _).below) (by omega) (by omega)).mono ?_); rintro _ _ ⟨rfl, x, rfl⟩)) | ((first | with_reducible refine wp_region_qe (by kernel_rfl) (by kernel_rfl) ?_ | with_reducible refine wp_region_q (by kernel_rfl) (by kernel_rfl) ?_); (repeat (go_big_quiet_step ((first | ((go_at_call 36; have _t := tk; (with_reducible refine (sz_Lint _ _ _ d.path _ _ (s2.stays ((by repeat (first | with_reducible exact Ext.refl _ | with_reducible apply Ext.and | with_reducible apply Ext.drewx | with_reducible apply Ext.alloc | with_reducible apply Ext.ext | with_reducible apply Ext.drew | with_reducible refine Ext.setCell ?_ (by simp) _)) : Ext _ _).below) (by omega) (by omega)).mono ?_); rintro _ _ ⟨rfl, x, rfl⟩; clear tk _t)) | (go_at_call 36; first | with_reducible exact Calls.qb (by assumption) (sz_Lint _ _ _ d.marks _ _ (s4.stays ((by repeat (first | with_reducible exact Ext.refl _ | with_reducible apply Ext.and | with_reducible apply Ext.drewx | with_reducible apply Ext.alloc | with_reducible apply Ext.ext | with_reducible apply Ext.drew | with_reducible refine Ext.setCell ?_ (by simp) _)) : Ext _ _).below) (by omega) (by omega)) | with_reducible exact Calls.q (sz_Lint _ _ _ d.marks _ _ (s4.stays ((by repeat (first | with_reducible exact Ext.refl _ | with_reducible apply Ext.and | with_reducible apply Ext.drewx | with_reducible apply Ext.alloc | with_reducible apply Ext.ext | with_reducible apply Ext.drew | with_reducible refine Ext.setCell ?_ (by simp) _)) : Ext _ _).below) (by omega) (by omega))))))); refine wpQuiet_nil ?_; intro x))
    go_ret
    exact ⟨ret_int (by have h3 := HZ.out; rw [h3]; exact (szR_gt (by omega)).symm), (by repeat (first | with_reducible exact Ext.refl _ | with_reducible apply Ext.and | with_reducible apply Ext.drewx | with_reducible apply Ext.alloc | with_reducible apply Ext.ext | with_reducible apply Ext.drew | with_reducible refine Ext.setCell ?_ (by simp) _))⟩

set_option linter.unusedSimpArgs false in
set_option maxHeartbeats 2000000 in
theorem to_Rt (d : Rt) (a_path : Option Addr) (n_path c_path : Nat) (a_marks : Option Addr) (n_marks c_marks : Nat) (w : World) (hn : Sz.sz d ≤ 1048576) (h0 : I64 d.r.f) (h1 : I64 d.r.b) (h2 : SlRd w a_path n_path c_path d.path) (h3 : I64 d.like) (h4 : SlRd w a_marks n_marks c_marks d.marks) :
    Calls Try.prog 30 #[.agg #[.int .i64 d.r.f, .int .i64 d.r.b, .slice a_path n_path c_path, .int .i64 d.like, .slice a_marks n_marks c_marks]] w fun e w' => ∃ a_pathq n_pathq c_pathq a_marksq n_marksq c_marksq, e = .returned (.agg #[.int .i64 d.r.f, .int .i64 d.r.b, .slice a_pathq n_pathq c_pathq, .int .i64 d.like, .slice a_marksq n_marksq c_marksq]) ∧ ∃ x, w' = ext w x ∧ Hid (Fresh w (ext w x) [.int .i64 d.r.f, .int .i64 d.r.b, .slice a_pathq n_pathq c_pathq, .int .i64 d.like, .slice a_marksq n_marksq c_marksq] d) := by
  have hz : Sz.sz d = Sz.sz d.path + Sz.sz d.marks := rfl
  have z0 : Sz.sz d.path ≤ 1048576 := by omega
  have tk0 : True := trivial
  have z1 : Sz.sz d.marks ≤ 1048576 := by omega
  have tk1 : True := trivial
  clear hz hn
  go_enter Try.func30, Try.ntmps30
  go_wp2_with (first | (first | (go_at_call 29; (with_reducible refine (to_Rg _ _).mono ?_); rintro _ _ ⟨rfl, x, rfl⟩) | ((go_at_call 37; have _t := tk0; (with_reducible refine (to_Lint _ _ _ _ _ ?_ z0).mono ?_); (exact h2.stays ((by repeat (first | with_reducible exact Ext.refl _ | with_reducible apply Ext.and | with_reducible apply Ext.drewx | with_reducible apply Ext.alloc | with_reducible apply Ext.ext | with_reducible apply Ext.drew | with_reducible refine Ext.setCell ?_ (by simp) _)) : Ext _ _).below); rintro _ _ ⟨B0, rfl, x0, rfl, F0⟩; (try rw [ext_ext] at F0); clear tk0 _t)) | ((go_at_call 37; have _t := tk1; (with_reducible refine (to_Lint _ _ _ _ _ ?_ z1).mono ?_); (exact h4.stays ((by repeat (first | with_reducible exact Ext.refl _ | with_reducible apply Ext.and | with_reducible apply Ext.drewx | with_reducible apply Ext.alloc | with_reducible apply Ext.ext | with_reducible apply Ext.drew | with_reducible refine Ext.setCell ?_ (by simp) _)) : Ext _ _).below); rintro _ _ ⟨B1, rfl, x1, rfl, F1⟩; (try rw [ext_ext] at F1); clear tk1 _t))) | ((first | with_reducible refine wp_region_qe (by kernel_rfl) (by kernel_rfl) ?_ | with_reducible refine wp_region_q (by kernel_rfl) (by kernel_rfl) ?_); (repeat (go_big_quiet_step ((first | (go_at_call 29; first | with_reducible exact Calls.qb (by assumption) (to_Rg _ _) | with_reducible exact Calls.q (to_Rg _ _)) | ((go_at_call 37; have _t := tk0; (with_reducible refine (to_Lint _ _ _ _ _ ?_ z0).mono ?_); (exact h2.stays ((by repeat (first | with_reducible exact Ext.refl _ | with_reducible apply Ext.and | with_reducible apply Ext.drewx | with_reducible apply Ext.alloc | with_reducible apply Ext.ext | with_reducible apply Ext.drew | with_reducible refine Ext.setCell ?_ (by simp) _)) : Ext _ _).below); rintro _ _ ⟨B0, rfl, x0, rfl, F0⟩; (try rw [ext_ext] at F0); clear tk0 _t)) | ((go_at_call 37; have _t := tk1; (with_reducible refine (to_Lint _ _ _ _ _ ?_ z1).mono ?_); (exact h4.stays ((by repeat (first | with_reducible exact Ext.refl _ | with_reducible apply Ext.and | with_reducible apply Ext.drewx | with_reducible apply Ext.alloc | with_reducible apply Ext.ext | with_reducible apply Ext.drew | with_reducible refine Ext.setCell ?_ (by simp) _)) : Ext _ _).below); rintro _ _ ⟨B1, rfl, x1, rfl, F1⟩; (try rw [ext_ext] at F1); clear tk1 _t)))))); refine wpQuiet_nil ?_; intro x))
  refine bodyPost_ret (v := .agg #[.int .i64 d.r.f, .int .i64 d.r.b, .slice (some ⟨B0, 0, none⟩) n_path n_path, .int .i64 d.like, .slice (some ⟨B1, 0, none⟩) n_marks n_marks]) (by simp [results, Try.results30, go_sem]) rfl ⟨_, _, _, _, _, _, rfl, fin_fresh ⟨(by repeat (first | with_reducible exact Ext.refl _ | with_reducible apply Ext.and | with_reducible apply Ext.drewx | with_reducible apply Ext.alloc | with_reducible apply Ext.ext | with_reducible apply Ext.drew | with_reducible refine Ext.setCell ?_ (by simp) _)), ?_⟩⟩
  refine own2 F0.out F1.out ?_ ?_ ?_ ?_ ?_
  · simp; try omega
  · simp; try omega
  · exact (by repeat (first | with_reducible exact Abv.refl _ _ | with_reducible apply Abv.and | with_reducible apply Abv.drewx | with_reducible apply Abv.alloc | with_reducible apply Abv.ext | with_reducible apply Abv.drew | with_reducible refine Abv.setCell ?_ (by simp) _))
  · exact (by repeat (first | with_reducible exact Abv.refl _ _ | with_reducible apply Abv.and | with_reducible apply Abv.drewx | with_reducible apply Abv.alloc | with_reducible apply Abv.ext | with_reducible apply Abv.drew | with_reducible refine Abv.setCell ?_ (by simp) _))
  · intro f0 f1 o0 o1
    have o0 := own_slice o0; have o1 := own_slice o1; exact ⟨_, _, _, _, _, _, f0, f1, rfl, h0, h1, o0, h3, o1, rfl⟩

set_option maxHeartbeats 1000000 in
theorem eq_Rt (d d' : Rt) (a_path : Option Addr) (n_path c_path : Nat) (a_marks : Option Addr) (n_marks c_marks : Nat) (a_path' : Option Addr) (n_path' c_path' : Nat) (a_marks' : Option Addr) (n_marks' c_marks' : Nat) (w : World) (h2 : SlRd w a_path n_path c_path d.path) (h2' : SlRd w a_path' n_path' c_path' d'.path) (h4 : SlRd w a_marks n_marks c_marks d.marks) (h4' : SlRd w a_marks' n_marks' c_marks' d'.marks) :
    Calls Try.prog 33 #[.agg #[.int .i64 d.r.f, .int .i64 d.r.b, .slice a_path n_path c_path, .int .i64 d.like, .slice a_marks n_marks c_marks], .agg #[.int .i64 (d'.r.f), .int .i64 (d'.r.b), .slice a_path' n_path' c_path', .int .i64 (d'.like), .slice a_marks' n_marks' c_marks']] w fun e w' => e = .returned (.bool (decide (d = d'))) ∧ Ext w w' := by
  go_enter Try.func33, Try.ntmps33
  go_wp2_with (first | (first | (go_at_call 32; (with_reducible refine (eq_Rg d.r d'.r  _).mono ?_); rintro _ _ ⟨rfl, x, rfl⟩) | (go_at_call 38; (with_reducible refine (eq_Lint _ _ _ d.path _ _ _ d'.path _ (h2.stays ((by repeat (first | with_reducible exact Ext.refl _ | with_reducible apply Ext.and | with_reducible apply Ext.drewx | with_reducible apply Ext.alloc | with_reducible apply Ext.ext | with_reducible apply Ext.drew | with_reducible refine Ext.setCell ?_ (by simp) _)) : Ext _ _).below) (h2'.stays ((by repeat (first | with_reducible exact Ext.refl _ | with_reducible apply Ext.and | with_reducible apply Ext.drewx | with_reducible apply Ext.alloc | with_reducible apply Ext.ext | with_reducible apply Ext.drew | with_reducible refine Ext.setCell ?_ (by simp) _)) : Ext _ _).below)).mono ?_); rintro _ _ ⟨rfl, x, rfl⟩) | (go_at_call 38; (with_reducible refine (eq_Lint _ _ _ d.marks _ _ _ d'.marks _ (h4.stays ((by repeat (first | with_reducible exact Ext.refl _ | with_reducible apply Ext.and | with_reducible apply Ext.drewx | with_reducible apply Ext.alloc | with_reducible apply Ext.ext | with_reducible apply Ext.drew | with_reducible refine Ext.setCell ?_ (by simp) _)) : Ext _ _).below) (h4'.stays ((by repeat (first | with_reducible exact Ext.refl _ | with_reducible apply Ext.and | with_reducible apply Ext.drewx | with_reducible apply Ext.alloc | with_reducible apply Ext.ext | with_reducible apply Ext.drew | with_reducible refine Ext.setCell ?_ (by simp) _)) : Ext _ _).below)).mono ?_); rintro _ _ ⟨rfl, x, rfl⟩)) | ((first | with_reducible refine wp_region_qe (by kernel_rfl) (by kernel_rfl) ?_ | with_reducible refine wp_region_q (by kernel_rfl) (by kernel_rfl) ?_); (repeat (go_big_quiet_step ((first | (go_at_call 32; first | with_reducible exact Calls.qb (by assumption) (eq_Rg d.r d'.r  _) | with_reducible exact Calls.q (eq_Rg d.r d'.r  _)) | (go_at_call 38; first | with_reducible exact Calls.qb (by assumption) (eq_Lint _ _ _ d.path _ _ _ d'.path _ (h2.stays ((by repeat (first | with_reducible exact Ext.refl _ | with_reducible apply Ext.and | with_reducible apply Ext.drewx | with_reducible apply Ext.alloc | with_reducible apply Ext.ext | with_reducible apply Ext.drew | with_reducible refine Ext.setCell ?_ (by simp) _)) : Ext _ _).below) (h2'.stays ((by repeat (first | with_reducible exact Ext.refl _ | with_reducible apply Ext.and | with_reducible apply Ext.drewx | with_reducible apply Ext.alloc | with_reducible apply Ext.ext | with_reducible apply Ext.drew | with_reducible refine Ext.setCell ?_ (by simp) _)) : Ext _ _).below)) | with_reducible exact Calls.q (eq_Lint _ _ _ d.path _ _ _ d'.path _ (h2.stays ((by repeat (first | with_reducible exact Ext.refl _ | with_reducible apply Ext.and | with_reducible apply Ext.drewx | with_reducible apply Ext.alloc | with_reducible apply Ext.ext | with_reducible apply Ext.drew | with_reducible refine Ext.setCell ?_ (by simp) _)) : Ext _ _).below) (h2'.stays ((by repeat (first | with_reducible exact Ext.refl _ | with_reducible apply Ext.and | with_reducible apply Ext.drewx | with_reducible apply Ext.alloc | with_reducible apply Ext.ext | with_reducible apply Ext.drew | with_reducible refine Ext.setCell ?_ (by simp) _)) : Ext _ _).below))) | (go_at_call 38; first | with_reducible exact Calls.qb (by assumption) (eq_Lint _ _ _ d.marks _ _ _ d'.marks _ (h4.stays ((by repeat (first | with_reducible exact Ext.refl _ | with_reducible apply Ext.and | with_reducible apply Ext.drewx | with_reducible apply Ext.alloc | with_reducible apply Ext.ext | with_reducible apply Ext.drew | with_reducible refine Ext.setCell ?_ (by simp) _)) : Ext _ _).below) (h4'.stays ((by repeat (first | with_reducible exact Ext.refl _ | with_reducible apply Ext.and | with_reducible apply Ext.drewx | with_reducible apply Ext.alloc | with_reducible apply Ext.ext | with_reducible apply Ext.drew | with_reducible refine Ext.setCell ?_ (by simp) _)) : Ext _ _).below)) | with_reducible exact Calls.q (eq_Lint _ _ _ d.marks _ _ _ d'.marks _ (h4.stays ((by repeat (first | with_reducible exact Ext.refl _ | with_reducible apply Ext.and | with_reducible apply Ext.drewx | with_reducible apply Ext.alloc | with_reducible apply Ext.ext | with_reducible apply Ext.drew | with_reducible refine Ext.setCell ?_ (by simp) _)) : Ext _ _).below) (h4'.stays ((by repeat (first | with_reducible exact Ext.refl _ | with_reducible apply Ext.and | with_reducible apply Ext.drewx | with_reducible apply Ext.alloc | with_reducible apply Ext.ext | with_reducible apply Ext.drew | with_reducible refine Ext.setCell ?_ (by simp) _)) : Ext _ _).below))))))); refine wpQuiet_nil ?_; intro x))
  all_goals
    go_ret
    exact ⟨ret_bool (by simp_all [Rt_eq]), (by repeat (first | with_reducible exact Ext.refl _ | with_reducible apply Ext.and | with_reducible apply Ext.drewx | with_reducible apply Ext.alloc | with_reducible apply Ext.ext | with_reducible apply Ext.drew | with_reducible refine Ext.setCell ?_ (by simp) _))⟩

set_option maxHeartbeats 1000000 in
theorem sz_LRt (a : Option Addr) (len cap : Nat) (l : (List Rt)) (left : Int) (w : World) (h : SlRd w a len cap l) (h0 : 0 ≤ left) (h1 : left ≤ 1048576) :
    Calls Try.prog 14 #[.slice a len cap, .int .i64 left] w fun e w' => e = .returned (.int .i64 (szR (Sz.sz l) left)) ∧ Ext w w' := by
  have hm := h.2.2.1
  have hlc := h.2.1
  have hlen := h.1
  unfold maxLen at hm
  have hsz : Sz.sz l = len + (l.map Sz.sz).sum := by rw [← hlen]; rfl
  have HZ : Hid (Sz.sz l = len + (l.map Sz.sz).sum) := hsz
  have HL : Hid (l.length = len) := hlen
  clear hlen hsz
  by_cases hle : (len : Int) ≤ left
  · go_enter Try.func14, Try.ntmps14
    go_wp2_with fail
    go_loopw [5, 1] (fun i lf wr => ∃ k : Nat, k ≤ len ∧ i = .int .i64 k ∧ lf = .int .i64 (left - len - ((l.take k).map Sz.sz).sum) ∧ (((l.take k).map Sz.sz).sum : Int) ≤ left - len ∧ Ext w wr) (fun i _ _ => len - (intOf i).toNat)
    case atStart => exact ⟨0, Nat.zero_le _, rfl, by simp, by simp; omega, Ext.refl _⟩
    case round =>
      obtain ⟨k, hk, rfl, rfl, hs, hE⟩ := hrel
      by_cases hlt : k < len
      · obtain ⟨d, hd, b, off, ys, rfl, hys, hcell, hrd⟩ := h.at hE hlt
        have HS := hidden (sum_take_succ hd)
        have HA := hidden (sum_take_le l (k + 1))
        obtain ⟨a_path, n_path, c_path, a_marks, n_marks, c_marks, rfl, g0, g1, g2, g3, g4⟩ := hrd
        have c0 : wr.cell? ⟨b, off + k * 5, none⟩ = some _ := hcell 0 _ rfl
        have c1 : wr.cell? ⟨b, off + k * 5 + 1, none⟩ = some _ := hcell 1 _ rfl
        have c2 : wr.cell? ⟨b, off + k * 5 + 2, none⟩ = some _ := hcell 2 _ rfl
        have c3 : wr.cell? ⟨b, off + k * 5 + 3, none⟩ = some _ := hcell 3 _ rfl
        have c4 : wr.cell? ⟨b, off + k * 5 + 4, none⟩ = some _ := hcell 4 _ rfl
        have lb := cell_lt c0
        clear hcell hys hd
        generalize ((l.take k).map Sz.sz).sum = q at *
        by_cases hq : (Sz.sz d : Int) ≤ left - len - q
        · have e1 := szR_le hq
          go_wp2_with (first | (first | (go_at_call 28; (with_reducible refine (sz_Rt d _ _ _ _ _ _ _ _ (g2.stays ((by repeat (first | with_reducible exact Ext.refl _ | with_reducible apply Ext.and | with_reducible apply Ext.drewx | with_reducible apply Ext.alloc | with_reducible apply Ext.ext | with_reducible apply Ext.drew | with_reducible refine Ext.setCell ?_ (by simp) _)) : Ext _ _).below) (g4.stays ((by repeat (first | with_reducible exact Ext.refl _ | with_reducible apply Ext.and | with_reducible apply Ext.drewx | with_reducible apply Ext.alloc | with_reducible apply Ext.ext | with_reducible apply Ext.drew | with_reducible refine Ext.setCell ?_ (by simp) _)) : Ext _ _).below) (by omega) (by omega)).mono ?_); rintro _ _ ⟨rfl, x, rfl⟩)) | ((first | with_reducible refine wp_region_qe (by kernel_rfl) (by kernel_rfl) ?_ | with_reducible refine wp_region_q (by kernel_rfl) (by kernel_rfl) ?_); (repeat (go_big_quiet_step ((first | (go_at_call 28; first | with_reducible exact Calls.qb (by assumption) (sz_Rt d _ _ _ _ _ _ _ _ (g2.stays ((by repeat (first | with_reducible exact Ext.refl _ | with_reducible apply Ext.and | with_reducible apply Ext.drewx | with_reducible apply Ext.alloc | with_reducible apply Ext.ext | with_reducible apply Ext.drew | with_reducible refine Ext.setCell ?_ (by simp) _)) : Ext _ _).below) (g4.stays ((by repeat (first | with_reducible exact Ext.refl _ | with_reducible apply Ext.and | with_reducible apply Ext.drewx | with_reducible apply Ext.alloc | with_reducible apply Ext.ext | with_reducible apply Ext.drew | with_reducible refine Ext.setCell ?_ (by simp) _)) : Ext _ _).below) (by omega) (by omega)) | with_reducible exact Calls.q (sz_Rt d _ _ _ _ _ _ _ _ (g2.stays ((by repeat (first | with_reducible exact Ext.refl _ | with_reducible apply Ext.and | with_reducible apply Ext.drewx | with_reducible apply Ext.alloc | with_reducible apply Ext.ext | with_reducible apply Ext.drew | with_reducible refine Ext.setCell ?_ (by simp) _)) : Ext _ _).below) (g4.stays ((by repeat (first | with_reducible exact Ext.refl _ | with_reducible apply Ext.and | with_reducible apply Ext.drewx | with_reducible apply Ext.alloc | with_reducible apply Ext.ext | with_reducible apply Ext.drew | with_reducible refine Ext.setCell ?_ (by simp) _)) : Ext _ _).below) (by omega) (by omega))))))); refine wpQuiet_nil ?_; intro x))
          go_roundw
          case rel => exact ⟨k + 1, by omega, by go_num, int_eq (by rw [HS.out]; omega), by rw [HS.out]; omega, (by first | exact hE | exact hE.ext _ | exact hE.trans (by repeat (first | with_reducible exact Ext.refl _ | with_reducible apply Ext.and | with_reducible apply Ext.drewx | with_reducible apply Ext.alloc | with_reducible apply Ext.ext | with_reducible apply Ext.drew | with_reducible refine Ext.setCell ?_ (by simp) _)))⟩
          case measure => simp [intOf]; omega
        · have e1 := szR_gt hq
          go_wp2_with (first | (first | (go_at_call 28; (with_reducible refine (sz_Rt d _ _ _ _ _ _ _ _ (g2.stays ((by repeat (first | with_reducible exact Ext.refl _ | with_reducible apply Ext.and | with_reducible apply Ext.drewx | with_reducible apply Ext.alloc | with_reducible apply Ext.ext | with_reducible apply Ext.drew | with_reducible refine Ext.setCell ?_ (by simp) _)) : Ext _ _).below) (g4.stays ((by repeat (first | with_reducible exact Ext.refl _ | with_reducible apply Ext.and | with_reducible apply Ext.drewx | with_reducible apply Ext.alloc | with_reducible apply Ext.ext | with_reducible apply Ext.drew | with_reducible refine Ext.setCell ?_ (by simp) _)) : Ext _ _).below) (by omega) (by omega)).mono ?_); rintro _ _ ⟨rfl, x, rfl⟩)) | ((first | with_reducible refine wp_region_qe (by kernel_rfl) (by kernel_rfl) ?_ | with_reducible refine wp_region_q (by kernel_rfl) (by kernel_rfl) ?_); (repeat (go_big_quiet_step ((first | (go_at_call 28; first | with_reducible exact Calls.qb (by assumption) (sz_Rt d _ _ _ _ _ _ _ _ (g2.stays ((by repeat (first | with_reducible exact Ext.refl _ | with_reducible apply Ext.and | with_reducible apply Ext.drewx | with_reducible apply Ext.alloc | with_reducible apply Ext.ext | with_reducible apply Ext.drew | with_reducible refine Ext.setCell ?_ (by simp) _)) : Ext _ _).below) (g4.stays ((by repeat (first | with_reducible exact Ext.refl _ | with_reducible apply Ext.and | with_reducible apply Ext.drewx | with_reducible apply Ext.alloc | with_reducible apply Ext.ext | with_reducible apply Ext.drew | with_reducible refine Ext.setCell ?_ (by simp) _)) : Ext _ _).below) (by omega) (by omega)) | with_reducible exact Calls.q (sz_Rt d _ _ _ _ _ _ _ _ (g2.stays ((by repeat (first | with_reducible exact Ext.refl _ | with_reducible apply Ext.and | with_reducible apply Ext.drewx | with_reducible apply Ext.alloc | with_reducible apply Ext.ext | with_reducible apply Ext.drew | with_reducible refine Ext.setCell ?_ (by simp) _)) : Ext _ _).below) (g4.stays ((by repeat (first | with_reducible exact Ext.refl _ | with_reducible apply Ext.and | with_reducible apply Ext.drewx | with_reducible apply Ext.alloc | with_reducible apply Ext.ext | with_reducible apply Ext.drew | with_reducible refine Ext.setCell ?_ (by simp) _)) : Ext _ _).below) (by omega) (by omega))))))); refine wpQuiet_nil ?_; intro x))
          go_ret
          exact ⟨ret_int (by have h1 := HS.out; have h2 := HA.out; have h3 := HZ.out; rw [h3]; exact (szR_gt (by omega)).symm), (by first | exact hE | exact hE.ext _ | exact hE.trans (by repeat (first | with_reducible exact Ext.refl _ | with_reducible apply Ext.and | with_reducible apply Ext.drewx | with_reducible apply Ext.alloc | with_reducible apply Ext.ext | with_reducible apply Ext.drew | with_reducible refine Ext.setCell ?_ (by simp) _)))⟩
      · obtain rfl : k = len := by omega
        have hall : (l.take k) = l := List.take_of_length_le (Nat.le_of_eq HL.out)
        have HT := hidden hall
        clear hall
        go_wp2_with (first | ((first | with_reducible refine wp_region_qe (by kernel_rfl) (by kernel_rfl) ?_ | with_reducible refine wp_region_q (by kernel_rfl) (by kernel_rfl) ?_); (repeat (go_big_quiet_step (fail))); refine wpQuiet_nil ?_; intro x))
        go_ret
        exact ⟨ret_int (by have h3 := HZ.out; have hs' := hs; rw [HT.out] at hs' ⊢; rw [h3, szR_le (by omega)]; omega), (by first | exact hE | exact hE.ext _ | exact hE.trans (by repeat (first | with_reducible exact Ext.refl _ | with_reducible apply Ext.and | with_reducible apply Ext.drewx | with_reducible apply Ext.alloc | with_reducible apply Ext.ext | with_reducible apply Ext.drew | with_reducible refine Ext.setCell ?_ (by simp) _)))⟩
  · go_enter Try.func14, Try.ntmps14
    go_wp2_with (first | ((first | with_reducible refine wp_region_qe (by kernel_rfl) (by kernel_rfl) ?_ | with_reducible refine wp_region_q (by kernel_rfl) (by kernel_rfl) ?_); (repeat (go_big_quiet_step (fail))); refine wpQuiet_nil ?_; intro x))
    go_ret
    exact ⟨ret_int (by have h3 := HZ.out; rw [h3]; exact (szR_gt (by omega)).symm), Ext.refl _⟩

theorem info_impl_Rt : (Try.prog.info? 46).map (fun i => (i.zero, i.size, i.bytes)) = some (some (.agg #[.int .i64 0, .int .i64 0, .slice none 0 0, .int .i64 0, .slice none 0 0]), 5, 72) := by kernel_rfl
set_option maxHeartbeats 1000000 in
theorem to_LRt (a : Option Addr) (len cap : Nat) (l : (List Rt)) (w : World) (h : SlRd w a len cap l) (hn : Sz.sz l ≤ 1048576) :
    Calls Try.prog 18 #[.slice a len cap] w fun e w' => ∃ B, e = .returned (.slice (some ⟨B, 0, none⟩) len len) ∧ ∃ x, w' = ext w x ∧ Hid (Fresh w (ext w x) [.slice (some ⟨B, 0, none⟩) len len] l) := by
  have hlen := h.1
  have hn' : len ≤ 1048576 := by have : Sz.sz l = l.length + (l.map Sz.sz).sum := rfl; omega
  obtain ⟨i0, hi, hz0, hz1, hz2⟩ := info_parts info_impl_Rt
  have hmk := mkSlice Try.underlying30 hi hz0 len (by rw [hz2]; omega) (by unfold maxLen; omega)
  have HZ : Hid (l.length = len) := hlen
  have HN : Hid (Sz.sz l ≤ 1048576) := hn
  clear hlen hn
  go_enter Try.func18, Try.ntmps18
  go_wp2_with fail
  have hF : Fill (w.alloc (Obj.cells (madeCells #[.int .i64 0, .int .i64 0, .slice none 0 0, .int .i64 0, .slice none 0 0] (len * 5)) 46)) w.heap.size 46 len l 0 := Fill.start (Blk.new w _ _) (by simp [madeCells]; first | rfl | exact (Nat.mul_one len).symm)
  have hE : Ext w (w.alloc (Obj.cells (madeCells #[.int .i64 0, .int .i64 0, .slice none 0 0, .int .i64 0, .slice none 0 0] (len * 5)) 46)) := (by repeat (first | with_reducible exact Ext.refl _ | with_reducible apply Ext.and | with_reducible apply Ext.drewx | with_reducible apply Ext.alloc | with_reducible apply Ext.ext | with_reducible apply Ext.drew | with_reducible refine Ext.setCell ?_ (by simp) _))
  generalize (w.alloc (Obj.cells (madeCells #[.int .i64 0, .int .i64 0, .slice none 0 0, .int .i64 0, .slice none 0 0] (len * 5)) 46)) = w1 at *
  clear hmk
  go_loopw [4] (fun i wr => ∃ k : Nat, k ≤ len ∧ i = .int .i64 k ∧ Ext w wr ∧ Fill wr w.heap.size 46 len l k) (fun i _ => len - (intOf i).toNat)
  case atStart => exact ⟨0, Nat.zero_le _, rfl, hE, hF⟩
  case round =>
    obtain ⟨k, hk, rfl, hE, hF⟩ := hrel
    by_cases hlt : k < len
    · obtain ⟨d, hd, b, off, ys, rfl, hys, hcell, hrd⟩ := h.at hE hlt
      obtain ⟨a_path, n_path, c_path, a_marks, n_marks, c_marks, rfl, g0, g1, g2, g3, g4⟩ := hrd
      have c0 : wr.cell? ⟨b, off + k * 5, none⟩ = some (_) := hcell 0 _ rfl
      have c1 : wr.cell? ⟨b, off + k * 5 + 1, none⟩ = some (_) := hcell 1 _ rfl
      have c2 : wr.cell? ⟨b, off + k * 5 + 2, none⟩ = some (_) := hcell 2 _ rfl
      have c3 : wr.cell? ⟨b, off + k * 5 + 3, none⟩ = some (_) := hcell 3 _ rfl
      have c4 : wr.cell? ⟨b, off + k * 5 + 4, none⟩ = some (_) := hcell 4 _ rfl
      have lb := cell_lt c0
      obtain ⟨cs, hB, hL⟩ := hF.blk
      have lB := hB.lt
      have hL' : cs.length = len * 5 := hL
      obtain ⟨z0, s0⟩ := hB.get (j := k * 5) (by omega)
      have f0 := hB.frozen (k * 5)
      obtain ⟨z1, s1⟩ := hB.get (j := k * 5 + 1) (by omega)
      have f1 := hB.frozen (k * 5 + 1)
      obtain ⟨z2, s2⟩ := hB.get (j := k * 5 + 2) (by omega)
      have f2 := hB.frozen (k * 5 + 2)
      obtain ⟨z3, s3⟩ := hB.get (j := k * 5 + 3) (by omega)
      have f3 := hB.frozen (k * 5 + 3)
      obtain ⟨z4, s4⟩ := hB.get (j := k * 5 + 4) (by omega)
      have f4 := hB.frozen (k * 5 + 4)
      have HL : Hid (cs.length = len * 5) := hL
      have HD : Hid (l[k]? = some d) := hd
      have HF : Hid (Fill wr w.heap.size 46 len l k) := hF
      clear hcell hys hL hL' hd hF
      have HZs := sz_at HD.out
      have zk : Sz.sz d ≤ 1048576 := by have := HN.out; omega
      clear HZs
      go_wp2_with (first | (first | ((go_at_call 30; refine (to_Rt d _ _ _ _ _ _ _ zk g0 g1 ?_ g3 ?_).mono ?_; (exact g2.stays ((by repeat (first | with_reducible exact Ext.refl _ | with_reducible apply Ext.and | with_reducible apply Ext.drewx | with_reducible apply Ext.alloc | with_reducible apply Ext.ext | with_reducible apply Ext.drew | with_reducible refine Ext.setCell ?_ (by simp) _)) : Ext _ _).below); (exact g4.stays ((by repeat (first | with_reducible exact Ext.refl _ | with_reducible apply Ext.and | with_reducible apply Ext.drewx | with_reducible apply Ext.alloc | with_reducible apply Ext.ext | with_reducible apply Ext.drew | with_reducible refine Ext.setCell ?_ (by simp) _)) : Ext _ _).below); rintro _ _ ⟨a_pathq, n_pathq, c_pathq, a_marksq, n_marksq, c_marksq, rfl, x, rfl, F0⟩; (try rw [ext_ext] at F0)))) | ((first | with_reducible refine wp_region_qe (by kernel_rfl) (by kernel_rfl) ?_ | with_reducible refine wp_region_q (by kernel_rfl) (by kernel_rfl) ?_); (repeat (go_big_quiet_step ((first | ((go_at_call 30; refine (to_Rt d _ _ _ _ _ _ _ zk g0 g1 ?_ g3 ?_).mono ?_; (exact g2.stays ((by repeat (first | with_reducible exact Ext.refl _ | with_reducible apply Ext.and | with_reducible apply Ext.drewx | with_reducible apply Ext.alloc | with_reducible apply Ext.ext | with_reducible apply Ext.drew | with_reducible refine Ext.setCell ?_ (by simp) _)) : Ext _ _).below); (exact g4.stays ((by repeat (first | with_reducible exact Ext.refl _ | with_reducible apply Ext.and | with_reducible apply Ext.drewx | with_reducible apply Ext.alloc | with_reducible apply Ext.ext | with_reducible apply Ext.drew | with_reducible refine Ext.setCell ?_ (by simp) _)) : Ext _ _).below); rintro _ _ ⟨a_pathq, n_pathq, c_pathq, a_marksq, n_marksq, c_marksq, rfl, x, rfl, F0⟩; (try rw [ext_ext] at F0))))))); refine wpQuiet_nil ?_; intro x))
      go_roundw
      case rel => exact ⟨k + 1, by omega, by go_num, Ext.setW (Nat.le_refl _) [.int .i64 d.r.f, .int .i64 d.r.b, .slice a_pathq n_pathq c_pathq, .int .i64 d.like, .slice a_marksq n_marksq c_marksq] (k * 5) (hE.ext x), HF.out.step (w1 := ext wr x) (ys := [.int .i64 d.r.f, .int .i64 d.r.b, .slice a_pathq n_pathq c_pathq, .int .i64 d.like, .slice a_marksq n_marksq c_marksq]) HD.out hlt rfl F0.out⟩
      case measure => simp [intOf]; omega
    · obtain rfl : k = len := by omega
      have hres := Fill.done hE (Nat.le_refl _) HZ.out (by unfold maxLen; omega) hF
      obtain ⟨x, rfl⟩ := hE
      clear hF
      go_wp2
      go_ret
      exact ⟨_, rfl, x, rfl, hres⟩

set_option maxHeartbeats 1000000 in
theorem eq_LRt (a : Option Addr) (len cap : Nat) (l : (List Rt)) (a' : Option Addr) (len' cap' : Nat) (l' : (List Rt)) (w : World) (h : SlRd w a len cap l) (h' : SlRd w a' len' cap' l') :
    Calls Try.prog 23 #[.slice a len cap, .slice a' len' cap'] w fun e w' => e = .returned (.bool (decide (l = l'))) ∧ Ext w w' := by
  have hm := h.2.2.1
  have hlc := h.2.1
  have hlen := h.1
  have hlen' := h'.1
  unfold maxLen at hm
  by_cases hne : len = len'
  · subst hne
    have HL : Hid (l.length = len) := hlen
    have HL' : Hid (l'.length = len) := hlen'
    clear hlen hlen'
    go_enter Try.func23, Try.ntmps23
    go_wp2_with fail
    go_loopw [5] (fun i wr => ∃ k : Nat, k ≤ len ∧ i = .int .i64 k ∧ Ext w wr ∧ Hid (l.take k = l'.take k)) (fun i _ => len - (intOf i).toNat)
    case atStart => exact ⟨0, Nat.zero_le _, rfl, Ext.refl _, rfl⟩
    case round =>
      obtain ⟨k, hk, rfl, hE, HT⟩ := hrel
      by_cases hlt : k < len
      · obtain ⟨d, hd, b, off, ys, rfl, hys, hcell, hrd⟩ := h.at hE hlt
        obtain ⟨d', hd', b', off', ys', rfl, hys', hcell', hrd'⟩ := h'.at hE hlt
        have HD : Hid (l[k]? = some d) := hd
        have HD' : Hid (l'[k]? = some d') := hd'
        clear hd hd'
        obtain ⟨a_path, n_path, c_path, a_marks, n_marks, c_marks, rfl, g0, g1, g2, g3, g4⟩ := hrd
        obtain ⟨a_path', n_path', c_path', a_marks', n_marks', c_marks', rfl, g0', g1', g2', g3', g4'⟩ := hrd'
        have c0 : wr.cell? ⟨b, off + k * 5, none⟩ = some (_) := hcell 0 _ rfl
        have c0' : wr.cell? ⟨b', off' + k * 5, none⟩ = some (_) := hcell' 0 _ rfl
        have c1 : wr.cell? ⟨b, off + k * 5 + 1, none⟩ = some (_) := hcell 1 _ rfl
        have c1' : wr.cell? ⟨b', off' + k * 5 + 1, none⟩ = some (_) := hcell' 1 _ rfl
        have c2 : wr.cell? ⟨b, off + k * 5 + 2, none⟩ = some (_) := hcell 2 _ rfl
        have c2' : wr.cell? ⟨b', off' + k * 5 + 2, none⟩ = some (_) := hcell' 2 _ rfl
        have c3 : wr.cell? ⟨b, off + k * 5 + 3, none⟩ = some (_) := hcell 3 _ rfl
        have c3' : wr.cell? ⟨b', off' + k * 5 + 3, none⟩ = some (_) := hcell' 3 _ rfl
        have c4 : wr.cell? ⟨b, off + k * 5 + 4, none⟩ = some (_) := hcell 4 _ rfl
        have c4' : wr.cell? ⟨b', off' + k * 5 + 4, none⟩ = some (_) := hcell' 4 _ rfl
        have lb := cell_lt c0
        have lb' := cell_lt c0'
        clear hcell hys hcell' hys'
        by_cases hdd : d = d'
        · have hb : decide (d = d') = true := by simpa using hdd
          have HDD : Hid (d = d') := hdd
          clear hdd
          go_wp2_with (first | (first | (go_at_call 33; (with_reducible refine (eq_Rt d d' _ _ _ _ _ _ _ _ _ _ _ _ _ (g2.stays ((by repeat (first | with_reducible exact Ext.refl _ | with_reducible apply Ext.and | with_reducible apply Ext.drewx | with_reducible apply Ext.alloc | with_reducible apply Ext.ext | with_reducible apply Ext.drew | with_reducible refine Ext.setCell ?_ (by simp) _)) : Ext _ _).below) (g2'.stays ((by repeat (first | with_reducible exact Ext.refl _ | with_reducible apply Ext.and | with_reducible apply Ext.drewx | with_reducible apply Ext.alloc | with_reducible apply Ext.ext | with_reducible apply Ext.drew | with_reducible refine Ext.setCell ?_ (by simp) _)) : Ext _ _).below) (g4.stays ((by repeat (first | with_reducible exact Ext.refl _ | with_reducible apply Ext.and | with_reducible apply Ext.drewx | with_reducible apply Ext.alloc | with_reducible apply Ext.ext | with_reducible apply Ext.drew | with_reducible refine Ext.setCell ?_ (by simp) _)) : Ext _ _).below) (g4'.stays ((by repeat (first | with_reducible exact Ext.refl _ | with_reducible apply Ext.and | with_reducible apply Ext.drewx | with_reducible apply Ext.alloc | with_reducible apply Ext.ext | with_reducible apply Ext.drew | with_reducible refine Ext.setCell ?_ (by simp) _)) : Ext _ _).below)).mono ?_); rintro _ _ ⟨rfl, x, rfl⟩)) | ((first | with_reducible refine wp_region_qe (by kernel_rfl) (by kernel_rfl) ?_ | with_reducible refine wp_region_q (by kernel_rfl) (by kernel_rfl) ?_); (repeat (go_big_quiet_step ((first | (go_at_call 33; first | with_reducible exact Calls.qb (by assumption) (eq_Rt d d' _ _ _ _ _ _ _ _ _ _ _ _ _ (g2.stays ((by repeat (first | with_reducible exact Ext.refl _ | with_reducible apply Ext.and | with_reducible apply Ext.drewx | with_reducible apply Ext.alloc | with_reducible apply Ext.ext | with_reducible apply Ext.drew | with_reducible refine Ext.setCell ?_ (by simp) _)) : Ext _ _).below) (g2'.stays ((by repeat (first | with_reducible exact Ext.refl _ | with_reducible apply Ext.and | with_reducible apply Ext.drewx | with_reducible apply Ext.alloc | with_reducible apply Ext.ext | with_reducible apply Ext.drew | with_reducible refine Ext.setCell ?_ (by simp) _)) : Ext _ _).below) (g4.stays ((by repeat (first | with_reducible exact Ext.refl _ | with_reducible apply Ext.and | with_reducible apply Ext.drewx | with_reducible apply Ext.alloc | with_reducible apply Ext.ext | with_reducible apply Ext.drew | with_reducible refine Ext.setCell ?_ (by simp) _)) : Ext _ _).below) (g4'.stays ((by repeat (first | with_reducible exact Ext.refl _ | with_reducible apply Ext.and | with_reducible apply Ext.drewx | with_reducible apply Ext.alloc | with_reducible apply Ext.ext | with_reducible apply Ext.drew | with_reducible refine Ext.setCell ?_ (by simp) _)) : Ext _ _).below)) | with_reducible exact Calls.q (eq_Rt d d' _ _ _ _ _ _ _ _ _ _ _ _ _ (g2.stays ((by repeat (first | with_reducible exact Ext.refl _ | with_reducible apply Ext.and | with_reducible apply Ext.drewx | with_reducible apply Ext.alloc | with_reducible apply Ext.ext | with_reducible apply Ext.drew | with_reducible refine Ext.setCell ?_ (by simp) _)) : Ext _ _).below) (g2'.stays ((by repeat (first | with_reducible exact Ext.refl _ | with_reducible apply Ext.and | with_reducible apply Ext.drewx | with_reducible apply Ext.alloc | with_reducible apply Ext.ext | with_reducible apply Ext.drew | with_reducible refine Ext.setCell ?_ (by simp) _)) : Ext _ _).below) (g4.stays ((by repeat (first | with_reducible exact Ext.refl _ | with_reducible apply Ext.and | with_reducible apply Ext.drewx | with_reducible apply Ext.alloc | with_reducible apply Ext.ext | with_reducible apply Ext.drew | with_reducible refine Ext.setCell ?_ (by simp) _)) : Ext _ _).below) (g4'.stays ((by repeat (first | with_reducible exact Ext.refl _ | with_reducible apply Ext.and | with_reducible apply Ext.drewx | with_reducible apply Ext.alloc | with_reducible apply Ext.ext | with_reducible apply Ext.drew | with_reducible refine Ext.setCell ?_ (by simp) _)) : Ext _ _).below))))))); refine wpQuiet_nil ?_; intro x))
          go_roundw
          case rel => exact ⟨k + 1, by omega, by go_num, (by first | exact hE | exact hE.ext _ | exact hE.trans (by repeat (first | with_reducible exact Ext.refl _ | with_reducible apply Ext.and | with_reducible apply Ext.drewx | with_reducible apply Ext.alloc | with_reducible apply Ext.ext | with_reducible apply Ext.drew | with_reducible refine Ext.setCell ?_ (by simp) _))), take_succ_eq HT.out HD.out (HDD.out ▸ HD'.out)⟩
          case measure => simp [intOf]; omega
        · have hb : decide (d = d') = false := by simpa using hdd
          have HDD : Hid (¬ d = d') := hdd
          clear hdd
          go_wp2_with (first | (first | (go_at_call 33; (with_reducible refine (eq_Rt d d' _ _ _ _ _ _ _ _ _ _ _ _ _ (g2.stays ((by repeat (first | with_reducible exact Ext.refl _ | with_reducible apply Ext.and | with_reducible apply Ext.drewx | with_reducible apply Ext.alloc | with_reducible apply Ext.ext | with_reducible apply Ext.drew | with_reducible refine Ext.setCell ?_ (by simp) _)) : Ext _ _).below) (g2'.stays ((by repeat (first | with_reducible exact Ext.refl _ | with_reducible apply Ext.and | with_reducible apply Ext.drewx | with_reducible apply Ext.alloc | with_reducible apply Ext.ext | with_reducible apply Ext.drew | with_reducible refine Ext.setCell ?_ (by simp) _)) : Ext _ _).below) (g4.stays ((by repeat (first | with_reducible exact Ext.refl _ | with_reducible apply Ext.and | with_reducible apply Ext.drewx | with_reducible apply Ext.alloc | with_reducible apply Ext.ext | with_reducible apply Ext.drew | with_reducible refine Ext.setCell ?_ (by simp) _)) : Ext _ _).below) (g4'.stays ((by repeat (first | with_reducible exact Ext.refl _ | with_reducible apply Ext.and | with_reducible apply Ext.drewx | with_reducible apply Ext.alloc | with_reducible apply Ext.ext | with_reducible apply Ext.drew | with_reducible refine Ext.setCell ?_ (by simp) _)) : Ext _ _).below)).mono ?_); rintro _ _ ⟨rfl, x, rfl⟩)) | ((first | with_reducible refine wp_region_qe (by kernel_rfl) (by kernel_rfl) ?_ | with_reducible refine wp_region_q (by kernel_rfl) (by kernel_rfl) ?_); (repeat (go_big_quiet_step ((first | (go_at_call 33; first | with_reducible exact Calls.qb (by assumption) (eq_Rt d d' _ _ _ _ _ _ _ _ _ _ _ _ _ (g2.stays ((by repeat (first | with_reducible exact Ext.refl _ | with_reducible apply Ext.and | with_reducible apply Ext.drewx | with_reducible apply Ext.alloc | with_reducible apply Ext.ext | with_reducible apply Ext.drew | with_reducible refine Ext.setCell ?_ (by simp) _)) : Ext _ _).below) (g2'.stays ((by repeat (first | with_reducible exact Ext.refl _ | with_reducible apply Ext.and | with_reducible apply Ext.drewx | with_reducible apply Ext.alloc | with_reducible apply Ext.ext | with_reducible apply Ext.drew | with_reducible refine Ext.setCell ?_ (by simp) _)) : Ext _ _).below) (g4.stays ((by repeat (first | with_reducible exact Ext.refl _ | with_reducible apply Ext.and | with_reducible apply Ext.drewx | with_reducible apply Ext.alloc | with_reducible apply Ext.ext | with_reducible apply Ext.drew | with_reducible refine Ext.setCell ?_ (by simp) _)) : Ext _ _).below) (g4'.stays ((by repeat (first | with_reducible exact Ext.refl _ | with_reducible apply Ext.and | with_reducible apply Ext.drewx | with_reducible apply Ext.alloc | with_reducible apply Ext.ext | with_reducible apply Ext.drew | with_reducible refine Ext.setCell ?_ (by simp) _)) : Ext _ _).below)) | with_reducible exact Calls.q (eq_Rt d d' _ _ _ _ _ _ _ _ _ _ _ _ _ (g2.stays ((by repeat (first | with_reducible exact Ext.refl _ | with_reducible apply Ext.and | with_reducible apply Ext.drewx | with_reducible apply Ext.alloc | with_reducible apply Ext.ext | with_reducible apply Ext.drew | with_reducible refine Ext.setCell ?_ (by simp) _)) : Ext _ _).below) (g2'.stays ((by repeat (first | with_reducible exact Ext.refl _ | with_reducible apply Ext.and | with_reducible apply Ext.drewx | with_reducible apply Ext.alloc | with_reducible apply Ext.ext | with_reducible apply Ext.drew | with_reducible refine Ext.setCell ?_ (by simp) _)) : Ext _ _).below) (g4.stays ((by repeat (first | with_reducible exact Ext.refl _ | with_reducible apply Ext.and | with_reducible apply Ext.drewx | with_reducible apply Ext.alloc | with_reducible apply Ext.ext | with_reducible apply Ext.drew | with_reducible refine Ext.setCell ?_ (by simp) _)) : Ext _ _).below) (g4'.stays ((by repeat (first | with_reducible exact Ext.refl _ | with_reducible apply Ext.and | with_reducible apply Ext.drewx | with_reducible apply Ext.alloc | with_reducible apply Ext.ext | with_reducible apply Ext.drew | with_reducible refine Ext.setCell ?_ (by simp) _)) : Ext _ _).below))))))); refine wpQuiet_nil ?_; intro x))
          go_ret
          exact ⟨ret_bool (by simpa using ne_at HD.out HD'.out HDD.out), (by first | exact hE | exact hE.ext _ | exact hE.trans (by repeat (first | with_reducible exact Ext.refl _ | with_reducible apply Ext.and | with_reducible apply Ext.drewx | with_reducible apply Ext.alloc | with_reducible apply Ext.ext | with_reducible apply Ext.drew | with_reducible refine Ext.setCell ?_ (by simp) _)))⟩
      · obtain rfl : k = len := by omega
        go_wp2_with (first | ((first | with_reducible refine wp_region_qe (by kernel_rfl) (by kernel_rfl) ?_ | with_reducible refine wp_region_q (by kernel_rfl) (by kernel_rfl) ?_); (repeat (go_big_quiet_step (fail))); refine wpQuiet_nil ?_; intro x))
        go_ret
        exact ⟨ret_bool (by simpa using eq_take HT.out HL.out HL'.out), (by first | exact hE | exact hE.ext _ | exact hE.trans (by repeat (first | with_reducible exact Ext.refl _ | with_reducible apply Ext.and | with_reducible apply Ext.drewx | with_reducible apply Ext.alloc | with_reducible apply Ext.ext | with_reducible apply Ext.drew | with_reducible refine Ext.setCell ?_ (by simp) _)))⟩
  · have hb : ((len : Int) != (len' : Int)) = true := by simpa using (by omega : ¬ (len : Int) = len')
    go_enter Try.func23, Try.ntmps23
    go_wp2_with (first | ((first | with_reducible refine wp_region_qe (by kernel_rfl) (by kernel_rfl) ?_ | with_reducible refine wp_region_q (by kernel_rfl) (by kernel_rfl) ?_); (repeat (go_big_quiet_step (fail))); refine wpQuiet_nil ?_; intro x))
    go_ret
    exact ⟨ret_bool (by simpa using (fun e : l = l' => hne (by rw [← hlen, ← hlen', e]))), Ext.refl _⟩





































set_option maxHeartbeats 1000000 in
theorem sz_Dl (d : Dl) (a_drop : Option Addr) (n_drop c_drop : Nat) (a_tell : Option Addr) (n_tell c_tell : Nat) (left : Int) (w : World) (s0 : SlRd w a_drop n_drop c_drop d.drop) (s1 : SlRd w a_tell n_tell c_tell d.tell) (h0 : 0 ≤ left) (h1 : left ≤ 1048576) :
    Calls Try.prog 4 #[.agg #[.slice a_drop n_drop c_drop, .slice a_tell n_tell c_tell], .int .i64 left] w fun e w' => e = .returned (.int .i64 (szR (Sz.sz d) left)) ∧ Ext w w' := by
  have HZ : Hid (Sz.sz d = Sz.sz d.drop + Sz.sz d.tell) := rfl
  by_cases hz1 : (Sz.sz d.drop : Int) ≤ left
  · have e1 := szR_le hz1
    by_cases hz2 : (Sz.sz d.tell : Int) ≤ left - Sz.sz d.drop
    · have e2 := szR_le hz2
      go_enter Try.func4, Try.ntmps4
      go_wp2_with (first | (first | (go_at_call 13; (with_reducible refine (sz_LRg _ _ _ d.drop _ _ (s0.stays ((by repeat (first | with_reducible exact Ext.refl _ | with_reducible apply Ext.and | with_reducible apply Ext.drewx | with_reducible apply Ext.alloc | with_reducible apply Ext.ext | with_reducible apply Ext.drew | with_reducible refine Ext.setCell ?_ (by simp) _)) : Ext _ _).below) (by omega) (by omega)).mono ?_); rintro _ _ ⟨rfl, x, rfl⟩) | (go_at_call 14; (with_reducible refine (sz_LRt _ _ _ d.tell _ _ (s1.stays ((by repeat (first | with_reducible exact Ext.refl _ | with_reducible apply Ext.and | with_reducible apply Ext.drewx | with_reducible apply Ext.alloc | with_reducible apply Ext.ext | with_reducible apply Ext.drew | with_reducible refine Ext.setCell ?_ (by simp) _)) : Ext _ _).below) (by omega) (by omega)).mono ?_); rintro _ _ ⟨rfl, x, rfl⟩)) | ((first | with_reducible refine wp_region_qe (by kernel_rfl) (by kernel_rfl) ?_ | with_reducible refine wp_region_q (by kernel_rfl) (by kernel_rfl) ?_); (repeat (go_big_quiet_step ((first | (go_at_call 13; first | with_reducible exact Calls.qb (by assumption) (sz_LRg _ _ _ d.drop _ _ (s0.stays ((by repeat (first | with_reducible exact Ext.refl _ | with_reducible apply Ext.and | with_reducible apply Ext.drewx | with_reducible apply Ext.alloc | with_reducible apply Ext.ext | with_reducible apply Ext.drew | with_reducible refine Ext.setCell ?_ (by simp) _)) : Ext _ _).below) (by omega) (by omega)) | with_reducible exact Calls.q (sz_LRg _ _ _ d.drop _ _ (s0.stays ((by repeat (first | with_reducible exact Ext.refl _ | with_reducible apply Ext.and | with_reducible apply Ext.drewx | with_reducible apply Ext.alloc | with_reducible apply Ext.ext | with_reducible apply Ext.drew | with_reducible refine Ext.setCell ?_ (by simp) _)) : Ext _ _).below) (by omega) (by omega))) | (go_at_call 14; first | with_reducible exact Calls.qb (by assumption) (sz_LRt _ _ _ d.tell _ _ (s1.stays ((by repeat (first | with_reducible exact Ext.refl _ | with_reducible apply Ext.and | with_reducible apply Ext.drewx | with_reducible apply Ext.alloc | with_reducible apply Ext.ext | with_reducible apply Ext.drew | with_reducible refine Ext.setCell ?_ (by simp) _)) : Ext _ _).below) (by omega) (by omega)) | with_reducible exact Calls.q (sz_LRt _ _ _ d.tell _ _ (s1.stays ((by repeat (first | with_reducible exact Ext.refl _ | with_reducible apply Ext.and | with_reducible apply Ext.drewx | with_reducible apply Ext.alloc | with_reducible apply Ext.ext | with_reducible apply Ext.drew | with_reducible refine Ext.setCell ?_ (by simp) _)) : Ext _ _).below) (by omega) (by omega))))))); refine wpQuiet_nil ?_; intro x))
      go_ret
      exact ⟨ret_int (by have h3 := HZ.out; rw [h3]; (rw [szR_le (by omega)] <;> omega)), (by repeat (first | with_reducible exact Ext.refl _ | with_reducible apply Ext.and | with_reducible apply Ext.drewx | with_reducible apply Ext.alloc | with_reducible apply Ext.ext | with_reducible apply Ext.drew | with_reducible refine Ext.setCell ?_ (by simp) _))⟩
    · have e2 := szR_gt hz2
      go_enter Try.func4, Try.ntmps4
      go_wp2_with (first | (first | (go_at_call 13; (with_reducible refine (sz_LRg _ _ _ d.drop _ _ (s0.stays ((by repeat (first | with_reducible exact Ext.refl _ | with_reducible apply Ext.and | with_reducible apply Ext.drewx | with_reducible apply Ext.alloc | with_reducible apply Ext.ext | with_reducible apply Ext.drew | with_reducible refine Ext.setCell ?_ (by simp) _)) : Ext _ _).below) (by omega) (by omega)).mono ?_); rintro _ _ ⟨rfl, x, rfl⟩) | (go_at_call 14; (with_reducible refine (sz_LRt _ _ _ d.tell _ _ (s1.stays ((by repeat (first | with_reducible exact Ext.refl _ | with_reducible apply Ext.and | with_reducible apply Ext.drewx | with_reducible apply Ext.alloc | with_reducible apply Ext.ext | with_reducible apply Ext.drew | with_reducible refine Ext.setCell ?_ (by simp) _)) : Ext _ _).below) (by omega) (by omega)).mono ?_); rintro _ _ ⟨rfl, x, rfl⟩)) | ((first | with_reducible refine wp_region_qe (by kernel_rfl) (by kernel_rfl) ?_ | with_reducible refine wp_region_q (by kernel_rfl) (by kernel_rfl) ?_); (repeat (go_big_quiet_step ((first | (go_at_call 13; first | with_reducible exact Calls.qb (by assumption) (sz_LRg _ _ _ d.drop _ _ (s0.stays ((by repeat (first | with_reducible exact Ext.refl _ | with_reducible apply Ext.and | with_reducible apply Ext.drewx | with_reducible apply Ext.alloc | with_reducible apply Ext.ext | with_reducible apply Ext.drew | with_reducible refine Ext.setCell ?_ (by simp) _)) : Ext _ _).below) (by omega) (by omega)) | with_reducible exact Calls.q (sz_LRg _ _ _ d.drop _ _ (s0.stays ((by repeat (first | with_reducible exact Ext.refl _ | with_reducible apply Ext.and | with_reducible apply Ext.drewx | with_reducible apply Ext.alloc | with_reducible apply Ext.ext | with_reducible apply Ext.drew | with_reducible refine Ext.setCell ?_ (by simp) _)) : Ext _ _).below) (by omega) (by omega))) | (go_at_call 14; first | with_reducible exact Calls.qb (by assumption) (sz_LRt _ _ _ d.tell _ _ (s1.stays ((by repeat (first | with_reducible exact Ext.refl _ | with_reducible apply Ext.and | with_reducible apply Ext.drewx | with_reducible apply Ext.alloc | with_reducible apply Ext.ext | with_reducible apply Ext.drew | with_reducible refine Ext.setCell ?_ (by simp) _)) : Ext _ _).below) (by omega) (by omega)) | with_reducible exact Calls.q (sz_LRt _ _ _ d.tell _ _ (s1.stays ((by repeat (first | with_reducible exact Ext.refl _ | with_reducible apply Ext.and | with_reducible apply Ext.drewx | with_reducible apply Ext.alloc | with_reducible apply Ext.ext | with_reducible apply Ext.drew | with_reducible refine Ext.setCell ?_ (by simp) _)) : Ext _ _).below) (by omega) (by omega))))))); refine wpQuiet_nil ?_; intro x))
      go_ret
      exact ⟨ret_int (by have h3 := HZ.out; rw [h3]; exact (szR_gt (by omega)).symm), (by repeat (first | with_reducible exact Ext.refl _ | with_reducible apply Ext.and | with_reducible apply Ext.drewx | with_reducible apply Ext.alloc | with_reducible apply Ext.ext | with_reducible apply Ext.drew | with_reducible refine Ext.setCell ?_ (by simp) _))⟩
  · have e1 := szR_gt hz1
    go_enter Try.func4, Try.ntmps4
    go_wp2_with (first | (first | (go_at_call 13; (with_reducible refine (sz_LRg _ _ _ d.drop _ _ (s0.stays ((by repeat (first | with_reducible exact Ext.refl _ | with_reducible apply Ext.and | with_reducible apply Ext.drewx | with_reducible apply Ext.alloc | with_reducible apply Ext.ext | with_reducible apply Ext.drew | with_reducible refine Ext.setCell ?_ (by simp) _)) : Ext _ _).below) (by omega) (by omega)).mono ?_); rintro _ _ ⟨rfl, x, rfl⟩) | (go_at_call 14; (with_reducible refine (sz_LRt _ _ _ d.tell _ _ (s1.stays ((by repeat (first | with_reducible exact Ext.refl _ | with_reducible apply Ext.and | with_reducible apply Ext.drewx | with_reducible apply Ext.alloc | with_reducible apply Ext.ext | with_reducible apply Ext.drew | with_reducible refine Ext.setCell ?_ (by simp) _)) : Ext _ _).below) (by omega) (by omega)).mono ?_); rintro _ _ ⟨rfl, x, rfl⟩)) | ((first | with_reducible refine wp_region_qe (by kernel_rfl) (by kernel_rfl) ?_ | with_reducible refine wp_region_q (by kernel_rfl) (by kernel_rfl) ?_); (repeat (go_big_quiet_step ((first | (go_at_call 13; first | with_reducible exact Calls.qb (by assumption) (sz_LRg _ _ _ d.drop _ _ (s0.stays ((by repeat (first | with_reducible exact Ext.refl _ | with_reducible apply Ext.and | with_reducible apply Ext.drewx | with_reducible apply Ext.alloc | with_reducible apply Ext.ext | with_reducible apply Ext.drew | with_reducible refine Ext.setCell ?_ (by simp) _)) : Ext _ _).below) (by omega) (by omega)) | with_reducible exact Calls.q (sz_LRg _ _ _ d.drop _ _ (s0.stays ((by repeat (first | with_reducible exact Ext.refl _ | with_reducible apply Ext.and | with_reducible apply Ext.drewx | with_reducible apply Ext.alloc | with_reducible apply Ext.ext | with_reducible apply Ext.drew | with_reducible refine Ext.setCell ?_ (by simp) _)) : Ext _ _).below) (by omega) (by omega))) | (go_at_call 14; first | with_reducible exact Calls.qb (by assumption) (sz_LRt _ _ _ d.tell _ _ (s1.stays ((by repeat (first | with_reducible exact Ext.refl _ | with_reducible apply Ext.and | with_reducible apply Ext.drewx | with_reducible apply Ext.alloc | with_reducible apply Ext.ext | with_reducible apply Ext.drew | with_reducible refine Ext.setCell ?_ (by simp) _)) : Ext _ _).below) (by omega) (by omega)) | with_reducible exact Calls.q (sz_LRt _ _ _ d.tell _ _ (s1.stays ((by repeat (first | with_reducible exact Ext.refl _ | with_reducible apply Ext.and | with_reducible apply Ext.drewx | with_reducible apply Ext.alloc | with_reducible apply Ext.ext | with_reducible apply Ext.drew | with_reducible refine Ext.setCell ?_ (by simp) _)) : Ext _ _).below) (by omega) (by omega))))))); refine wpQuiet_nil ?_; intro x))
    go_ret
    exact ⟨ret_int (by have h3 := HZ.out; rw [h3]; exact (szR_gt (by omega)).symm), (by repeat (first | with_reducible exact Ext.refl _ | with_reducible apply Ext.and | with_reducible apply Ext.drewx | with_reducible apply Ext.alloc | with_reducible apply Ext.ext | with_reducible apply Ext.drew | with_reducible refine Ext.setCell ?_ (by simp) _))⟩

set_option linter.unusedSimpArgs false in
set_option maxHeartbeats 2000000 in
theorem to_Dl (d : Dl) (a_drop : Option Addr) (n_drop c_drop : Nat) (a_tell : Option Addr) (n_tell c_tell : Nat) (w : World) (hn : Sz.sz d ≤ 1048576) (h0 : SlRd w a_drop n_drop c_drop d.drop) (h1 : SlRd w a_tell n_tell c_tell d.tell) :
    Calls Try.prog 6 #[.agg #[.slice a_drop n_drop c_drop, .slice a_tell n_tell c_tell]] w fun e w' => ∃ a_dropq n_dropq c_dropq a_tellq n_tellq c_tellq, e = .returned (.agg #[.slice a_dropq n_dropq c_dropq, .slice a_tellq n_tellq c_tellq]) ∧ ∃ x, w' = ext w x ∧ Hid (Fresh w (ext w x) [.slice a_dropq n_dropq c_dropq, .slice a_tellq n_tellq c_tellq] d) := by
  have hz : Sz.sz d = Sz.sz d.drop + Sz.sz d.tell := rfl
  have z0 : Sz.sz d.drop ≤ 1048576 := by omega
  have tk0 : True := trivial
  have z1 : Sz.sz d.tell ≤ 1048576 := by omega
  have tk1 : True := trivial
  clear hz hn
  go_enter Try.func6, Try.ntmps6
  go_wp2_with (first | (first | ((go_at_call 17; have _t := tk0; (with_reducible refine (to_LRg _ _ _ _ _ ?_ z0).mono ?_); (exact h0.stays ((by repeat (first | with_reducible exact Ext.refl _ | with_reducible apply Ext.and | with_reducible apply Ext.drewx | with_reducible apply Ext.alloc | with_reducible apply Ext.ext | with_reducible apply Ext.drew | with_reducible refine Ext.setCell ?_ (by simp) _)) : Ext _ _).below); rintro _ _ ⟨B0, rfl, x0, rfl, F0⟩; (try rw [ext_ext] at F0); clear tk0 _t)) | ((go_at_call 18; have _t := tk1; (with_reducible refine (to_LRt _ _ _ _ _ ?_ z1).mono ?_); (exact h1.stays ((by repeat (first | with_reducible exact Ext.refl _ | with_reducible apply Ext.and | with_reducible apply Ext.drewx | with_reducible apply Ext.alloc | with_reducible apply Ext.ext | with_reducible apply Ext.drew | with_reducible refine Ext.setCell ?_ (by simp) _)) : Ext _ _).below); rintro _ _ ⟨B1, rfl, x1, rfl, F1⟩; (try rw [ext_ext] at F1); clear tk1 _t))) | ((first | with_reducible refine wp_region_qe (by kernel_rfl) (by kernel_rfl) ?_ | with_reducible refine wp_region_q (by kernel_rfl) (by kernel_rfl) ?_); (repeat (go_big_quiet_step ((first | ((go_at_call 17; have _t := tk0; (with_reducible refine (to_LRg _ _ _ _ _ ?_ z0).mono ?_); (exact h0.stays ((by repeat (first | with_reducible exact Ext.refl _ | with_reducible apply Ext.and | with_reducible apply Ext.drewx | with_reducible apply Ext.alloc | with_reducible apply Ext.ext | with_reducible apply Ext.drew | with_reducible refine Ext.setCell ?_ (by simp) _)) : Ext _ _).below); rintro _ _ ⟨B0, rfl, x0, rfl, F0⟩; (try rw [ext_ext] at F0); clear tk0 _t)) | ((go_at_call 18; have _t := tk1; (with_reducible refine (to_LRt _ _ _ _ _ ?_ z1).mono ?_); (exact h1.stays ((by repeat (first | with_reducible exact Ext.refl _ | with_reducible apply Ext.and | with_reducible apply Ext.drewx | with_reducible apply Ext.alloc | with_reducible apply Ext.ext | with_reducible apply Ext.drew | with_reducible refine Ext.setCell ?_ (by simp) _)) : Ext _ _).below); rintro _ _ ⟨B1, rfl, x1, rfl, F1⟩; (try rw [ext_ext] at F1); clear tk1 _t)))))); refine wpQuiet_nil ?_; intro x))
  refine bodyPost_ret (v := .agg #[.slice (some ⟨B0, 0, none⟩) n_drop n_drop, .slice (some ⟨B1, 0, none⟩) n_tell n_tell]) (by simp [results, Try.results6, go_sem]) rfl ⟨_, _, _, _, _, _, rfl, fin_fresh ⟨(by repeat (first | with_reducible exact Ext.refl _ | with_reducible apply Ext.and | with_reducible apply Ext.drewx | with_reducible apply Ext.alloc | with_reducible apply Ext.ext | with_reducible apply Ext.drew | with_reducible refine Ext.setCell ?_ (by simp) _)), ?_⟩⟩
  refine own2 F0.out F1.out ?_ ?_ ?_ ?_ ?_
  · simp; try omega
  · simp; try omega
  · exact (by repeat (first | with_reducible exact Abv.refl _ _ | with_reducible apply Abv.and | with_reducible apply Abv.drewx | with_reducible apply Abv.alloc | with_reducible apply Abv.ext | with_reducible apply Abv.drew | with_reducible refine Abv.setCell ?_ (by simp) _))
  · exact (by repeat (first | with_reducible exact Abv.refl _ _ | with_reducible apply Abv.and | with_reducible apply Abv.drewx | with_reducible apply Abv.alloc | with_reducible apply Abv.ext | with_reducible apply Abv.drew | with_reducible refine Abv.setCell ?_ (by simp) _))
  · intro f0 f1 o0 o1
    have o0 := own_slice o0; have o1 := own_slice o1; exact ⟨_, _, _, _, _, _, f0, f1, rfl, o0, o1, rfl⟩

set_option maxHeartbeats 1000000 in
theorem eq_Dl (d d' : Dl) (a_drop : Option Addr) (n_drop c_drop : Nat) (a_tell : Option Addr) (n_tell c_tell : Nat) (a_drop' : Option Addr) (n_drop' c_drop' : Nat) (a_tell' : Option Addr) (n_tell' c_tell' : Nat) (w : World) (h0 : SlRd w a_drop n_drop c_drop d.drop) (h0' : SlRd w a_drop' n_drop' c_drop' d'.drop) (h1 : SlRd w a_tell n_tell c_tell d.tell) (h1' : SlRd w a_tell' n_tell' c_tell' d'.tell) :
    Calls Try.prog 9 #[.agg #[.slice a_drop n_drop c_drop, .slice a_tell n_tell c_tell], .agg #[.slice a_drop' n_drop' c_drop', .slice a_tell' n_tell' c_tell']] w fun e w' => e = .returned (.bool (decide (d = d'))) ∧ Ext w w' := by
  go_enter Try.func9, Try.ntmps9
  go_wp2_with (first | (first | (go_at_call 22; (with_reducible refine (eq_LRg _ _ _ d.drop _ _ _ d'.drop _ (h0.stays ((by repeat (first | with_reducible exact Ext.refl _ | with_reducible apply Ext.and | with_reducible apply Ext.drewx | with_reducible apply Ext.alloc | with_reducible apply Ext.ext | with_reducible apply Ext.drew | with_reducible refine Ext.setCell ?_ (by simp) _)) : Ext _ _).below) (h0'.stays ((by repeat (first | with_reducible exact Ext.refl _ | with_reducible apply Ext.and | with_reducible apply Ext.drewx | with_reducible apply Ext.alloc | with_reducible apply Ext.ext | with_reducible apply Ext.drew | with_reducible refine Ext.setCell ?_ (by simp) _)) : Ext _ _).below)).mono ?_); rintro _ _ ⟨rfl, x, rfl⟩) | (go_at_call 23; (with_reducible refine (eq_LRt _ _ _ d.tell _ _ _ d'.tell _ (h1.stays ((by repeat (first | with_reducible exact Ext.refl _ | with_reducible apply Ext.and | with_reducible apply Ext.drewx | with_reducible apply Ext.alloc | with_reducible apply Ext.ext | with_reducible apply Ext.drew | with_reducible refine Ext.setCell ?_ (by simp) _)) : Ext _ _).below) (h1'.stays ((by repeat (first | with_reducible exact Ext.refl _ | with_reducible apply Ext.and | with_reducible apply Ext.drewx | with_reducible apply Ext.alloc | with_reducible apply Ext.ext | with_reducible apply Ext.drew | with_reducible refine Ext.setCell ?_ (by simp) _)) : Ext _ _).below)).mono ?_); rintro _ _ ⟨rfl, x, rfl⟩)) | ((first | with_reducible refine wp_region_qe (by kernel_rfl) (by kernel_rfl) ?_ | with_reducible refine wp_region_q (by kernel_rfl) (by kernel_rfl) ?_); (repeat (go_big_quiet_step ((first | (go_at_call 22; first | with_reducible exact Calls.qb (by assumption) (eq_LRg _ _ _ d.drop _ _ _ d'.drop _ (h0.stays ((by repeat (first | with_reducible exact Ext.refl _ | with_reducible apply Ext.and | with_reducible apply Ext.drewx | with_reducible apply Ext.alloc | with_reducible apply Ext.ext | with_reducible apply Ext.drew | with_reducible refine Ext.setCell ?_ (by simp) _)) : Ext _ _).below) (h0'.stays ((by repeat (first | with_reducible exact Ext.refl _ | with_reducible apply Ext.and | with_reducible apply Ext.drewx | with_reducible apply Ext.alloc | with_reducible apply Ext.ext | with_reducible apply Ext.drew | with_reducible refine Ext.setCell ?_ (by simp) _)) : Ext _ _).below)) | with_reducible exact Calls.q (eq_LRg _ _ _ d.drop _ _ _ d'.drop _ (h0.stays ((by repeat (first | with_reducible exact Ext.refl _ | with_reducible apply Ext.and | with_reducible apply Ext.drewx | with_reducible apply Ext.alloc | with_reducible apply Ext.ext | with_reducible apply Ext.drew | with_reducible refine Ext.setCell ?_ (by simp) _)) : Ext _ _).below) (h0'.stays ((by repeat (first | with_reducible exact Ext.refl _ | with_reducible apply Ext.and | with_reducible apply Ext.drewx | with_reducible apply Ext.alloc | with_reducible apply Ext.ext | with_reducible apply Ext.drew | with_reducible refine Ext.setCell ?_ (by simp) _)) : Ext _ _).below))) | (go_at_call 23; first | with_reducible exact Calls.qb (by assumption) (eq_LRt _ _ _ d.tell _ _ _ d'.tell _ (h1.stays ((by repeat (first | with_reducible exact Ext.refl _ | with_reducible apply Ext.and | with_reducible apply Ext.drewx | with_reducible apply Ext.alloc | with_reducible apply Ext.ext | with_reducible apply Ext.drew | with_reducible refine Ext.setCell ?_ (by simp) _)) : Ext _ _).below) (h1'.stays ((by repeat (first | with_reducible exact Ext.refl _ | with_reducible apply Ext.and | with_reducible apply Ext.drewx | with_reducible apply Ext.alloc | with_reducible apply Ext.ext | with_reducible apply Ext.drew | with_reducible refine Ext.setCell ?_ (by simp) _)) : Ext _ _).below)) | with_reducible exact Calls.q (eq_LRt _ _ _ d.tell _ _ _ d'.tell _ (h1.stays ((by repeat (first | with_reducible exact Ext.refl _ | with_reducible apply Ext.and | with_reducible apply Ext.drewx | with_reducible apply Ext.alloc | with_reducible apply Ext.ext | with_reducible apply Ext.drew | with_reducible refine Ext.setCell ?_ (by simp) _)) : Ext _ _).below) (h1'.stays ((by repeat (first | with_reducible exact Ext.refl _ | with_reducible apply Ext.and | with_reducible apply Ext.drewx | with_reducible apply Ext.alloc | with_reducible apply Ext.ext | with_reducible apply Ext.drew | with_reducible refine Ext.setCell ?_ (by simp) _)) : Ext _ _).below))))))); refine wpQuiet_nil ?_; intro x))
  all_goals
    go_ret
    exact ⟨ret_bool (by simp_all [Dl_eq]), (by repeat (first | with_reducible exact Ext.refl _ | with_reducible apply Ext.and | with_reducible apply Ext.drewx | with_reducible apply Ext.alloc | with_reducible apply Ext.ext | with_reducible apply Ext.drew | with_reducible refine Ext.setCell ?_ (by simp) _))⟩

set_option maxHeartbeats 1000000 in
theorem eq_LDl (a : Option Addr) (len cap : Nat) (l : (List Dl)) (a' : Option Addr) (len' cap' : Nat) (l' : (List Dl)) (w : World) (h : SlRd w a len cap l) (h' : SlRd w a' len' cap' l') :
    Calls Try.prog 8 #[.slice a len cap, .slice a' len' cap'] w fun e w' => e = .returned (.bool (decide (l = l'))) ∧ Ext w w' := by
  have hm := h.2.2.1
  have hlc := h.2.1
  have hlen := h.1
  have hlen' := h'.1
  unfold maxLen at hm
  by_cases hne : len = len'
  · subst hne
    have HL : Hid (l.length = len) := hlen
    have HL' : Hid (l'.length = len) := hlen'
    clear hlen hlen'
    go_enter Try.func8, Try.ntmps8
    go_wp2_with fail
    go_loopw [5] (fun i wr => ∃ k : Nat, k ≤ len ∧ i = .int .i64 k ∧ Ext w wr ∧ Hid (l.take k = l'.take k)) (fun i _ => len - (intOf i).toNat)
    case atStart => exact ⟨0, Nat.zero_le _, rfl, Ext.refl _, rfl⟩
    case round =>
      obtain ⟨k, hk, rfl, hE, HT⟩ := hrel
      by_cases hlt : k < len
      · obtain ⟨d, hd, b, off, ys, rfl, hys, hcell, hrd⟩ := h.at hE hlt
        obtain ⟨d', hd', b', off', ys', rfl, hys', hcell', hrd'⟩ := h'.at hE hlt
        have HD : Hid (l[k]? = some d) := hd
        have HD' : Hid (l'[k]? = some d') := hd'
        clear hd hd'
        obtain ⟨a_drop, n_drop, c_drop, a_tell, n_tell, c_tell, rfl, g0, g1⟩ := hrd
        obtain ⟨a_drop', n_drop', c_drop', a_tell', n_tell', c_tell', rfl, g0', g1'⟩ := hrd'
        have c0 : wr.cell? ⟨b, off + k * 2, none⟩ = some (_) := hcell 0 _ rfl
        have c0' : wr.cell? ⟨b', off' + k * 2, none⟩ = some (_) := hcell' 0 _ rfl
        have c1 : wr.cell? ⟨b, off + k * 2 + 1, none⟩ = some (_) := hcell 1 _ rfl
        have c1' : wr.cell? ⟨b', off' + k * 2 + 1, none⟩ = some (_) := hcell' 1 _ rfl
        have lb := cell_lt c0
        have lb' := cell_lt c0'
        clear hcell hys hcell' hys'
        by_cases hdd : d = d'
        · have hb : decide (d = d') = true := by simpa using hdd
          have HDD : Hid (d = d') := hdd
          clear hdd
          go_wp2_with (first | (first | (go_at_call 9; (with_reducible refine (eq_Dl d d' _ _ _ _ _ _ _ _ _ _ _ _ _ (g0.stays ((by repeat (first | with_reducible exact Ext.refl _ | with_reducible apply Ext.and | with_reducible apply Ext.drewx | with_reducible apply Ext.alloc | with_reducible apply Ext.ext | with_reducible apply Ext.drew | with_reducible refine Ext.setCell ?_ (by simp) _)) : Ext _ _).below) (g0'.stays ((by repeat (first | with_reducible exact Ext.refl _ | with_reducible apply Ext.and | with_reducible apply Ext.drewx | with_reducible apply Ext.alloc | with_reducible apply Ext.ext | with_reducible apply Ext.drew | with_reducible refine Ext.setCell ?_ (by simp) _)) : Ext _ _).below) (g1.stays ((by repeat (first | with_reducible exact Ext.refl _ | with_reducible apply Ext.and | with_reducible apply Ext.drewx | with_reducible apply Ext.alloc | with_reducible apply Ext.ext | with_reducible apply Ext.drew | with_reducible refine Ext.setCell ?_ (by simp) _)) : Ext _ _).below) (g1'.stays ((by repeat (first | with_reducible exact Ext.refl _ | with_reducible apply Ext.and | with_reducible apply Ext.drewx | with_reducible apply Ext.alloc | with_reducible apply Ext.ext | with_reducible apply Ext.drew | with_reducible refine Ext.setCell ?_ (by simp) _)) : Ext _ _).below)).mono ?_); rintro _ _ ⟨rfl, x, rfl⟩)) | ((first | with_reducible refine wp_region_qe (by kernel_rfl) (by kernel_rfl) ?_ | with_reducible refine wp_region_q (by kernel_rfl) (by kernel_rfl) ?_); (repeat (go_big_quiet_step ((first | (go_at_call 9; first | with_reducible exact Calls.qb (by assumption) (eq_Dl d d' _ _ _ _ _ _ _ _ _ _ _ _ _ (g0.stays ((by repeat (first | with_reducible exact Ext.refl _ | with_reducible apply Ext.and | with_reducible apply Ext.drewx | with_reducible apply Ext.alloc | with_reducible apply Ext.ext | with_reducible apply Ext.drew | with_reducible refine Ext.setCell ?_ (by simp) _)) : Ext _ _).below) (g0'.stays ((by repeat (first | with_reducible exact Ext.refl _ | with_reducible apply Ext.and | with_reducible apply Ext.drewx | with_reducible apply Ext.alloc | with_reducible apply Ext.ext | with_reducible apply Ext.drew | with_reducible refine Ext.setCell ?_ (by simp) _)) : Ext _ _).below) (g1.stays ((by repeat (first | with_reducible exact Ext.refl _ | with_reducible apply Ext.and | with_reducible apply Ext.drewx | with_reducible apply Ext.alloc | with_reducible apply Ext.ext | with_reducible apply Ext.drew | with_reducible refine Ext.setCell ?_ (by simp) _)) : Ext _ _).below) (g1'.stays ((by repeat (first | with_reducible exact Ext.refl _ | with_reducible apply Ext.and | with_reducible apply Ext.drewx | with_reducible apply Ext.alloc | with_reducible apply Ext.ext | with_reducible apply Ext.drew | with_reducible refine Ext.setCell ?_ (by simp) _)) : Ext _ _).below)) | with_reducible exact Calls.q (eq_Dl d d' _ _ _ _ _ _ _ _ _ _ _ _ _ (g0.stays ((by repeat (first | with_reducible exact Ext.refl _ | with_reducible apply Ext.and | with_reducible apply Ext.drewx | with_reducible apply Ext.alloc | with_reducible apply Ext.ext | with_reducible apply Ext.drew | with_reducible refine Ext.setCell ?_ (by simp) _)) : Ext _ _).below) (g0'.stays ((by repeat (first | with_reducible exact Ext.refl _ | with_reducible apply Ext.and | with_reducible apply Ext.drewx | with_reducible apply Ext.alloc | with_reducible apply Ext.ext | with_reducible apply Ext.drew | with_reducible refine Ext.setCell ?_ (by simp) _)) : Ext _ _).below) (g1.stays ((by repeat (first | with_reducible exact Ext.refl _ | with_reducible apply Ext.and | with_reducible apply Ext.drewx | with_reducible apply Ext.alloc | with_reducible apply Ext.ext | with_reducible apply Ext.drew | with_reducible refine Ext.setCell ?_ (by simp) _)) : Ext _ _).below) (g1'.stays ((by repeat (first | with_reducible exact Ext.refl _ | with_reducible apply Ext.and | with_reducible apply Ext.drewx | with_reducible apply Ext.alloc | with_reducible apply Ext.ext | with_reducible apply Ext.drew | with_reducible refine Ext.setCell ?_ (by simp) _)) : Ext _ _).below))))))); refine wpQuiet_nil ?_; intro x))
          go_roundw
          case rel => exact ⟨k + 1, by omega, by go_num, (by first | exact hE | exact hE.ext _ | exact hE.trans (by repeat (first | with_reducible exact Ext.refl _ | with_reducible apply Ext.and | with_reducible apply Ext.drewx | with_reducible apply Ext.alloc | with_reducible apply Ext.ext | with_reducible apply Ext.drew | with_reducible refine Ext.setCell ?_ (by simp) _))), take_succ_eq HT.out HD.out (HDD.out ▸ HD'.out)⟩
          case measure => simp [intOf]; omega
        · have hb : decide (d = d') = false := by simpa using hdd
          have HDD : Hid (¬ d = d') := hdd
          clear hdd
          go_wp2_with (first | (first | (go_at_call 9; (with_reducible refine (eq_Dl d d' _ _ _ _ _ _ _ _ _ _ _ _ _ (g0.stays ((by repeat (first | with_reducible exact Ext.refl _ | with_reducible apply Ext.and | with_reducible apply Ext.drewx | with_reducible apply Ext.alloc | with_reducible apply Ext.ext | with_reducible apply Ext.drew | with_reducible refine Ext.setCell ?_ (by simp) _)) : Ext _ _).below) (g0'.stays ((by repeat (first | with_reducible exact Ext.refl _ | with_reducible apply Ext.and | with_reducible apply Ext.drewx | with_reducible apply Ext.alloc | with_reducible apply Ext.ext | with_reducible apply Ext.drew | with_reducible refine Ext.setCell ?_ (by simp) _)) : Ext _ _).below) (g1.stays ((by repeat (first | with_reducible exact Ext.refl _ | with_reducible apply Ext.and | with_reducible apply Ext.drewx | with_reducible apply Ext.alloc | with_reducible apply Ext.ext | with_reducible apply Ext.drew | with_reducible refine Ext.setCell ?_ (by simp) _)) : Ext _ _).below) (g1'.stays ((by repeat (first | with_reducible exact Ext.refl _ | with_reducible apply Ext.and | with_reducible apply Ext.drewx | with_reducible apply Ext.alloc | with_reducible apply Ext.ext | with_reducible apply Ext.drew | with_reducible refine Ext.setCell ?_ (by simp) _)) : Ext _ _).below)).mono ?_); rintro _ _ ⟨rfl, x, rfl⟩)) | ((first | with_reducible refine wp_region_qe (by kernel_rfl) (by kernel_rfl) ?_ | with_reducible refine wp_region_q (by kernel_rfl) (by kernel_rfl) ?_); (repeat (go_big_quiet_step ((first | (go_at_call 9; first | with_reducible exact Calls.qb (by assumption) (eq_Dl d d' _ _ _ _ _ _ _ _ _ _ _ _ _ (g0.stays ((by repeat (first | with_reducible exact Ext.refl _ | with_reducible apply Ext.and | with_reducible apply Ext.drewx | with_reducible apply Ext.alloc | with_reducible apply Ext.ext | with_reducible apply Ext.drew | with_reducible refine Ext.setCell ?_ (by simp) _)) : Ext _ _).below) (g0'.stays ((by repeat (first | with_reducible exact Ext.refl _ | with_reducible apply Ext.and | with_reducible apply Ext.drewx | with_reducible apply Ext.alloc | with_reducible apply Ext.ext | with_reducible apply Ext.drew | with_reducible refine Ext.setCell ?_ (by simp) _)) : Ext _ _).below) (g1.stays ((by repeat (first | with_reducible exact Ext.refl _ | with_reducible apply Ext.and | with_reducible apply Ext.drewx | with_reducible apply Ext.alloc | with_reducible apply Ext.ext | with_reducible apply Ext.drew | with_reducible refine Ext.setCell ?_ (by simp) _)) : Ext _ _).below) (g1'.stays ((by repeat (first | with_reducible exact Ext.refl _ | with_reducible apply Ext.and | with_reducible apply Ext.drewx | with_reducible apply Ext.alloc | with_reducible apply Ext.ext | with_reducible apply Ext.drew | with_reducible refine Ext.setCell ?_ (by simp) _)) : Ext _ _).below)) | with_reducible exact Calls.q (eq_Dl d d' _ _ _ _ _ _ _ _ _ _ _ _ _ (g0.stays ((by repeat (first | with_reducible exact Ext.refl _ | with_reducible apply Ext.and | with_reducible apply Ext.drewx | with_reducible apply Ext.alloc | with_reducible apply Ext.ext | with_reducible apply Ext.drew | with_reducible refine Ext.setCell ?_ (by simp) _)) : Ext _ _).below) (g0'.stays ((by repeat (first | with_reducible exact Ext.refl _ | with_reducible apply Ext.and | with_reducible apply Ext.drewx | with_reducible apply Ext.alloc | with_reducible apply Ext.ext | with_reducible apply Ext.drew | with_reducible refine Ext.setCell ?_ (by simp) _)) : Ext _ _).below) (g1.stays ((by repeat (first | with_reducible exact Ext.refl _ | with_reducible apply Ext.and | with_reducible apply Ext.drewx | with_reducible apply Ext.alloc | with_reducible apply Ext.ext | with_reducible apply Ext.drew | with_reducible refine Ext.setCell ?_ (by simp) _)) : Ext _ _).below) (g1'.stays ((by repeat (first | with_reducible exact Ext.refl _ | with_reducible apply Ext.and | with_reducible apply Ext.drewx | with_reducible apply Ext.alloc | with_reducible apply Ext.ext | with_reducible apply Ext.drew | with_reducible refine Ext.setCell ?_ (by simp) _)) : Ext _ _).below))))))); refine wpQuiet_nil ?_; intro x))
          go_ret
          exact ⟨ret_bool (by simpa using ne_at HD.out HD'.out HDD.out), (by first | exact hE | exact hE.ext _ | exact hE.trans (by repeat (first | with_reducible exact Ext.refl _ | with_reducible apply Ext.and | with_reducible apply Ext.drewx | with_reducible apply Ext.alloc | with_reducible apply Ext.ext | with_reducible apply Ext.drew | with_reducible refine Ext.setCell ?_ (by simp) _)))⟩
      · obtain rfl : k = len := by omega
        go_wp2_with (first | ((first | with_reducible refine wp_region_qe (by kernel_rfl) (by kernel_rfl) ?_ | with_reducible refine wp_region_q (by kernel_rfl) (by kernel_rfl) ?_); (repeat (go_big_quiet_step (fail))); refine wpQuiet_nil ?_; intro x))
        go_ret
        exact ⟨ret_bool (by simpa using eq_take HT.out HL.out HL'.out), (by first | exact hE | exact hE.ext _ | exact hE.trans (by repeat (first | with_reducible exact Ext.refl _ | with_reducible apply Ext.and | with_reducible apply Ext.drewx | with_reducible apply Ext.alloc | with_reducible apply Ext.ext | with_reducible apply Ext.drew | with_reducible refine Ext.setCell ?_ (by simp) _)))⟩
  · have hb : ((len : Int) != (len' : Int)) = true := by simpa using (by omega : ¬ (len : Int) = len')
    go_enter Try.func8, Try.ntmps8
    go_wp2_with (first | ((first | with_reducible refine wp_region_qe (by kernel_rfl) (by kernel_rfl) ?_ | with_reducible refine wp_region_q (by kernel_rfl) (by kernel_rfl) ?_); (repeat (go_big_quiet_step (fail))); refine wpQuiet_nil ?_; intro x))
    go_ret
    exact ⟨ret_bool (by simpa using (fun e : l = l' => hne (by rw [← hlen, ← hlen', e]))), Ext.refl _⟩







end Go.Proofs.Ytngehfhcnfobbaa
