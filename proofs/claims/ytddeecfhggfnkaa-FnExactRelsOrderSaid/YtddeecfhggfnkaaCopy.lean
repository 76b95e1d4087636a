/- The laws' own helpers: sizing, copying, comparing. No condition. -/
import Derived.Test.YtddeecfhggfnkaaRange
import Derived.Test.YtddeecfhggfnkaaSz
namespace Go.Proofs.Ytddeecfhggfnkaa
open Go Go.RowKit


set_option maxHeartbeats 1000000 in
theorem to_Rg (d : Rg) (w : World) :
    Calls Try.prog 42 #[.agg #[.int .i64 d.f, .int .i64 d.b]] w fun e w' => e = .returned (.agg #[.int .i64 d.f, .int .i64 d.b]) ∧ Ext w w' := by
  go_enter Try.func42, Try.ntmps42
  go_wp2_with (first | ((first | with_reducible refine wp_region_qe (by kernel_rfl) (by kernel_rfl) ?_ | with_reducible refine wp_region_q (by kernel_rfl) (by kernel_rfl) ?_); (repeat (go_big_quiet_step (fail))); refine wpQuiet_nil ?_; intro x))
  exact bodyPost_ret (v := .agg #[.int .i64 d.f, .int .i64 d.b]) (by simp [results, Try.results42, go_sem]) rfl ⟨rfl, (by repeat (first | with_reducible exact Ext.refl _ | with_reducible apply Ext.and | with_reducible apply Ext.drewx | with_reducible apply Ext.alloc | with_reducible apply Ext.ext | with_reducible apply Ext.drew | with_reducible refine Ext.setCell ?_ (by simp) _))⟩

set_option maxHeartbeats 1000000 in
theorem eq_Rg (d d' : Rg)   (w : World)  :
    Calls Try.prog 87 #[.agg #[.int .i64 d.f, .int .i64 d.b], .agg #[.int .i64 (d'.f), .int .i64 (d'.b)]] w fun e w' => e = .returned (.bool (decide (d = d'))) ∧ Ext w w' := by
  go_enter Try.func87, Try.ntmps87
  go_wp2_with (first | ((first | with_reducible refine wp_region_qe (by kernel_rfl) (by kernel_rfl) ?_ | with_reducible refine wp_region_q (by kernel_rfl) (by kernel_rfl) ?_); (repeat (go_big_quiet_step (fail))); refine wpQuiet_nil ?_; intro x))
  all_goals
    go_ret
    exact ⟨ret_bool (by simp_all [Rg_eq]), (by repeat (first | with_reducible exact Ext.refl _ | with_reducible apply Ext.and | with_reducible apply Ext.drewx | with_reducible apply Ext.alloc | with_reducible apply Ext.ext | with_reducible apply Ext.drew | with_reducible refine Ext.setCell ?_ (by simp) _))⟩









set_option maxHeartbeats 1000000 in
theorem to_En (d : En) (w : World) :
    Calls Try.prog 37 #[.agg #[.int .i64 d.r.f, .int .i64 d.r.b, .int .i64 d.via]] w fun e w' => e = .returned (.agg #[.int .i64 d.r.f, .int .i64 d.r.b, .int .i64 d.via]) ∧ Ext w w' := by
  go_enter Try.func37, Try.ntmps37
  go_wp2_with (first | (first | (go_at_call 42; (with_reducible refine (to_Rg _ _).mono ?_); rintro _ _ ⟨rfl, x, rfl⟩)) | ((first | with_reducible refine wp_region_qe (by kernel_rfl) (by kernel_rfl) ?_ | with_reducible refine wp_region_q (by kernel_rfl) (by kernel_rfl) ?_); (repeat (go_big_quiet_step ((first | (go_at_call 42; first | with_reducible exact Calls.qb (by assumption) (to_Rg _ _) | with_reducible exact Calls.q (to_Rg _ _)))))); refine wpQuiet_nil ?_; intro x))
  exact bodyPost_ret (v := .agg #[.int .i64 d.r.f, .int .i64 d.r.b, .int .i64 d.via]) (by simp [results, Try.results37, go_sem]) rfl ⟨rfl, (by repeat (first | with_reducible exact Ext.refl _ | with_reducible apply Ext.and | with_reducible apply Ext.drewx | with_reducible apply Ext.alloc | with_reducible apply Ext.ext | with_reducible apply Ext.drew | with_reducible refine Ext.setCell ?_ (by simp) _))⟩

set_option maxHeartbeats 1000000 in
theorem eq_En (d d' : En)   (w : World)  :
    Calls Try.prog 66 #[.agg #[.int .i64 d.r.f, .int .i64 d.r.b, .int .i64 d.via], .agg #[.int .i64 (d'.r.f), .int .i64 (d'.r.b), .int .i64 (d'.via)]] w fun e w' => e = .returned (.bool (decide (d = d'))) ∧ Ext w w' := by
  go_enter Try.func66, Try.ntmps66
  go_wp2_with (first | (first | (go_at_call 87; (with_reducible refine (eq_Rg d.r d'.r  _).mono ?_); rintro _ _ ⟨rfl, x, rfl⟩)) | ((first | with_reducible refine wp_region_qe (by kernel_rfl) (by kernel_rfl) ?_ | with_reducible refine wp_region_q (by kernel_rfl) (by kernel_rfl) ?_); (repeat (go_big_quiet_step ((first | (go_at_call 87; first | with_reducible exact Calls.qb (by assumption) (eq_Rg d.r d'.r  _) | with_reducible exact Calls.q (eq_Rg d.r d'.r  _)))))); refine wpQuiet_nil ?_; intro x))
  all_goals
    go_ret
    exact ⟨ret_bool (by simp_all [En_eq]), (by repeat (first | with_reducible exact Ext.refl _ | with_reducible apply Ext.and | with_reducible apply Ext.drewx | with_reducible apply Ext.alloc | with_reducible apply Ext.ext | with_reducible apply Ext.drew | with_reducible refine Ext.setCell ?_ (by simp) _))⟩

set_option maxHeartbeats 1000000 in
theorem sz_Lint (a : Option Addr) (len cap : Nat) (l : (List Int)) (left : Int) (w : World) (h : SlRd w a len cap l) (h0 : 0 ≤ left) (h1 : left ≤ 1048576) :
    Calls Try.prog 50 #[.slice a len cap, .int .i64 left] w fun e w' => e = .returned (.int .i64 (szR (Sz.sz l) left)) ∧ Ext w w' := by
  have hm := h.2.2.1
  have hlc := h.2.1
  have hlen := h.1
  unfold maxLen at hm
  have e : Sz.sz l = len := by rw [← hlen]; exact szL_flat l (fun _ => rfl)
  rw [e]
  clear e hlen
  by_cases hle : (len : Int) ≤ left
  all_goals
    go_enter Try.func50, Try.ntmps50
    go_wp2
    go_ret
    exact ⟨ret_int (by first | rw [szR_le hle] | rw [szR_gt (by omega)]), Ext.refl _⟩

theorem info_impl_int : (Try.prog.info? 3).map (fun i => (i.zero, i.size, i.bytes)) = some (some (.int .i64 0), 1, 8) := by kernel_rfl
set_option maxHeartbeats 1000000 in
theorem to_Lint (a : Option Addr) (len cap : Nat) (l : (List Int)) (w : World) (h : SlRd w a len cap l) (hn : Sz.sz l ≤ 1048576) :
    Calls Try.prog 53 #[.slice a len cap] w fun e w' => ∃ B, e = .returned (.slice (some ⟨B, 0, none⟩) len len) ∧ ∃ x, w' = ext w x ∧ Hid (Fresh w (ext w x) [.slice (some ⟨B, 0, none⟩) len len] l) := by
  have hlen := h.1
  have hn' : len ≤ 1048576 := by have : Sz.sz l = l.length + (l.map Sz.sz).sum := rfl; omega
  obtain ⟨i0, hi, hz0, hz1, hz2⟩ := info_parts info_impl_int
  have hmk := mkSlice Try.underlying30 hi hz0 len (by rw [hz2]; omega) (by unfold maxLen; omega)
  have HZ : Hid (l.length = len) := hlen
  have HN : Hid (Sz.sz l ≤ 1048576) := hn
  clear hlen hn
  go_enter Try.func53, Try.ntmps53
  go_wp2_with fail
  have hF : Fill (w.alloc (Obj.cells (madeCells #[.int .i64 0] (len)) 3)) w.heap.size 3 len l 0 := Fill.start (Blk.new w _ _) (by simp [madeCells]; first | rfl | exact (Nat.mul_one len).symm)
  have hE : Ext w (w.alloc (Obj.cells (madeCells #[.int .i64 0] (len)) 3)) := (by repeat (first | with_reducible exact Ext.refl _ | with_reducible apply Ext.and | with_reducible apply Ext.drewx | with_reducible apply Ext.alloc | with_reducible apply Ext.ext | with_reducible apply Ext.drew | with_reducible refine Ext.setCell ?_ (by simp) _))
  generalize (w.alloc (Obj.cells (madeCells #[.int .i64 0] (len)) 3)) = w1 at *
  clear hmk
  go_loopw [4] (fun i wr => ∃ k : Nat, k ≤ len ∧ i = .int .i64 k ∧ Ext w wr ∧ Fill wr w.heap.size 3 len l k) (fun i _ => len - (intOf i).toNat)
  case atStart => exact ⟨0, Nat.zero_le _, rfl, hE, hF⟩
  case round =>
    obtain ⟨k, hk, rfl, hE, hF⟩ := hrel
    by_cases hlt : k < len
    · obtain ⟨d, hd, b, off, ys, rfl, hys, hcell, hrd⟩ := h.at hE hlt
      obtain ⟨rfl, g0⟩ := hrd
      have c0 : wr.cell? ⟨b, off + k, none⟩ = some (.int .i64 d) := by have := hcell 0 _ rfl; simpa [Lay.n] using this
      have lb := cell_lt c0
      obtain ⟨cs, hB, hL⟩ := hF.blk
      have lB := hB.lt
      have hL' : cs.length = len * 1 := hL
      obtain ⟨z0, s0⟩ := hB.get (j := k) (by omega)
      have f0 := hB.frozen (k)
      have HL : Hid (cs.length = len * 1) := hL
      have HD : Hid (l[k]? = some d) := hd
      have HF : Hid (Fill wr w.heap.size 3 len l k) := hF
      clear hcell hys hL hL' hd hF
      go_wp2_with (first | ((first | with_reducible refine wp_region_qe (by kernel_rfl) (by kernel_rfl) ?_ | with_reducible refine wp_region_q (by kernel_rfl) (by kernel_rfl) ?_); (repeat (go_big_quiet_step (fail))); refine wpQuiet_nil ?_; intro x))
      go_roundw
      case rel => exact ⟨k + 1, by omega, by go_num, by simpa [setW] using (Ext.setW (Nat.le_refl _) [.int .i64 d] k hE), by have := HF.out.step (ys := [.int .i64 d]) HD.out hlt rfl ⟨Ext.refl wr, [], ⟨⟨rfl, g0⟩, rfl⟩, by simp, by simp⟩; simpa [setW, Lay.n] using this⟩
      case measure => simp [intOf]; omega
    · obtain rfl : k = len := by omega
      have hres := Fill.done hE (Nat.le_refl _) HZ.out (by unfold maxLen; omega) hF
      obtain ⟨x, rfl⟩ := hE
      clear hF
      go_wp2
      go_ret
      exact ⟨_, rfl, x, rfl, hres⟩

set_option maxHeartbeats 1000000 in
theorem eq_Lint (a : Option Addr) (len cap : Nat) (l : (List Int)) (a' : Option Addr) (len' cap' : Nat) (l' : (List Int)) (w : World) (h : SlRd w a len cap l) (h' : SlRd w a' len' cap' l') :
    Calls Try.prog 27 #[.slice a len cap, .slice a' len' cap'] w fun e w' => e = .returned (.bool (decide (l = l'))) ∧ Ext w w' := by
  have hm := h.2.2.1
  have hlc := h.2.1
  have hlen := h.1
  have hlen' := h'.1
  unfold maxLen at hm
  by_cases hne : len = len'
  · subst hne
    have HL : Hid (l.length = len) := hlen
    have HL' : Hid (l'.length = len) := hlen'
    clear hlen hlen'
    go_enter Try.func27, Try.ntmps27
    go_wp2_with fail
    go_loopw [5] (fun i wr => ∃ k : Nat, k ≤ len ∧ i = .int .i64 k ∧ Ext w wr ∧ Hid (l.take k = l'.take k)) (fun i _ => len - (intOf i).toNat)
    case atStart => exact ⟨0, Nat.zero_le _, rfl, Ext.refl _, rfl⟩
    case round =>
      obtain ⟨k, hk, rfl, hE, HT⟩ := hrel
      by_cases hlt : k < len
      · obtain ⟨d, hd, b, off, ys, rfl, hys, hcell, hrd⟩ := h.at hE hlt
        obtain ⟨d', hd', b', off', ys', rfl, hys', hcell', hrd'⟩ := h'.at hE hlt
        have HD : Hid (l[k]? = some d) := hd
        have HD' : Hid (l'[k]? = some d') := hd'
        clear hd hd'
        obtain ⟨rfl, g0⟩ := hrd
        obtain ⟨rfl, g0'⟩ := hrd'
        have c0 : wr.cell? ⟨b, off + k, none⟩ = some (.int .i64 d) := by have := hcell 0 _ rfl; simpa [Lay.n] using this
        have c0' : wr.cell? ⟨b', off' + k, none⟩ = some (.int .i64 d') := by have := hcell' 0 _ rfl; simpa [Lay.n] using this
        have lb := cell_lt c0
        have lb' := cell_lt c0'
        clear hcell hys hcell' hys'
        by_cases hdd : d = d'
        · subst hdd
          go_wp2_with (first | ((first | with_reducible refine wp_region_qe (by kernel_rfl) (by kernel_rfl) ?_ | with_reducible refine wp_region_q (by kernel_rfl) (by kernel_rfl) ?_); (repeat (go_big_quiet_step (fail))); refine wpQuiet_nil ?_; intro x))
          go_roundw
          case rel => exact ⟨k + 1, by omega, by go_num, (by first | exact hE | exact hE.ext _ | exact hE.trans (by repeat (first | with_reducible exact Ext.refl _ | with_reducible apply Ext.and | with_reducible apply Ext.drewx | with_reducible apply Ext.alloc | with_reducible apply Ext.ext | with_reducible apply Ext.drew | with_reducible refine Ext.setCell ?_ (by simp) _))), take_succ_eq HT.out HD.out HD'.out⟩
          case measure => simp [intOf]; omega
        · have hb : (d != d') = true := by simpa using hdd
          go_wp2_with (first | ((first | with_reducible refine wp_region_qe (by kernel_rfl) (by kernel_rfl) ?_ | with_reducible refine wp_region_q (by kernel_rfl) (by kernel_rfl) ?_); (repeat (go_big_quiet_step (fail))); refine wpQuiet_nil ?_; intro x))
          go_ret
          exact ⟨ret_bool (by simpa using ne_at HD.out HD'.out hdd), (by first | exact hE | exact hE.ext _ | exact hE.trans (by repeat (first | with_reducible exact Ext.refl _ | with_reducible apply Ext.and | with_reducible apply Ext.drewx | with_reducible apply Ext.alloc | with_reducible apply Ext.ext | with_reducible apply Ext.drew | with_reducible refine Ext.setCell ?_ (by simp) _)))⟩
      · obtain rfl : k = len := by omega
        go_wp2_with (first | ((first | with_reducible refine wp_region_qe (by kernel_rfl) (by kernel_rfl) ?_ | with_reducible refine wp_region_q (by kernel_rfl) (by kernel_rfl) ?_); (repeat (go_big_quiet_step (fail))); refine wpQuiet_nil ?_; intro x))
        go_ret
        exact ⟨ret_bool (by simpa using eq_take HT.out HL.out HL'.out), (by first | exact hE | exact hE.ext _ | exact hE.trans (by repeat (first | with_reducible exact Ext.refl _ | with_reducible apply Ext.and | with_reducible apply Ext.drewx | with_reducible apply Ext.alloc | with_reducible apply Ext.ext | with_reducible apply Ext.drew | with_reducible refine Ext.setCell ?_ (by simp) _)))⟩
  · have hb : ((len : Int) != (len' : Int)) = true := by simpa using (by omega : ¬ (len : Int) = len')
    go_enter Try.func27, Try.ntmps27
    go_wp2_with (first | ((first | with_reducible refine wp_region_qe (by kernel_rfl) (by kernel_rfl) ?_ | with_reducible refine wp_region_q (by kernel_rfl) (by kernel_rfl) ?_); (repeat (go_big_quiet_step (fail))); refine wpQuiet_nil ?_; intro x))
    go_ret
    exact ⟨ret_bool (by simpa using (fun e : l = l' => hne (by rw [← hlen, ← hlen', e]))), Ext.refl _⟩

set_option maxHeartbeats 1000000 in
theorem sz_LLint (a : Option Addr) (len cap : Nat) (l : (List (List Int))) (left : Int) (w : World) (h : SlRd w a len cap l) (h0 : 0 ≤ left) (h1 : left ≤ 1048576) :
    Calls Try.prog 14 #[.slice a len cap, .int .i64 left] w fun e w' => e = .returned (.int .i64 (szR (Sz.sz l) left)) ∧ Ext w w' := by
  have hm := h.2.2.1
  have hlc := h.2.1
  have hlen := h.1
  unfold maxLen at hm
  have hsz : Sz.sz l = len + (l.map Sz.sz).sum := by rw [← hlen]; rfl
  have HZ : Hid (Sz.sz l = len + (l.map Sz.sz).sum) := hsz
  have HL : Hid (l.length = len) := hlen
  clear hlen hsz
  by_cases hle : (len : Int) ≤ left
  · go_enter Try.func14, Try.ntmps14
    go_wp2_with fail
    go_loopw [5, 1] (fun i lf wr => ∃ k : Nat, k ≤ len ∧ i = .int .i64 k ∧ lf = .int .i64 (left - len - ((l.take k).map Sz.sz).sum) ∧ (((l.take k).map Sz.sz).sum : Int) ≤ left - len ∧ Ext w wr) (fun i _ _ => len - (intOf i).toNat)
    case atStart => exact ⟨0, Nat.zero_le _, rfl, by simp, by simp; omega, Ext.refl _⟩
    case round =>
      obtain ⟨k, hk, rfl, rfl, hs, hE⟩ := hrel
      by_cases hlt : k < len
      · obtain ⟨d, hd, b, off, ys, rfl, hys, hcell, hrd⟩ := h.at hE hlt
        have HS := hidden (sum_take_succ hd)
        have HA := hidden (sum_take_le l (k + 1))
        obtain ⟨a', len', cap', rfl, g0⟩ := hrd
        have c0 : wr.cell? ⟨b, off + k, none⟩ = some (.slice a' len' cap') := by have := hcell 0 _ rfl; simpa [Lay.n] using this
        have lb := cell_lt c0
        clear hcell hys hd
        generalize ((l.take k).map Sz.sz).sum = q at *
        by_cases hq : (Sz.sz d : Int) ≤ left - len - q
        · have e1 := szR_le hq
          go_wp2_with (first | (first | (go_at_call 50; (with_reducible refine (sz_Lint _ _ _ d _ _ (g0.stays ((by repeat (first | with_reducible exact Ext.refl _ | with_reducible apply Ext.and | with_reducible apply Ext.drewx | with_reducible apply Ext.alloc | with_reducible apply Ext.ext | with_reducible apply Ext.drew | with_reducible refine Ext.setCell ?_ (by simp) _)) : Ext _ _).below) (by omega) (by omega)).mono ?_); rintro _ _ ⟨rfl, x, rfl⟩)) | ((first | with_reducible refine wp_region_qe (by kernel_rfl) (by kernel_rfl) ?_ | with_reducible refine wp_region_q (by kernel_rfl) (by kernel_rfl) ?_); (repeat (go_big_quiet_step ((first | (go_at_call 50; first | with_reducible exact Calls.qb (by assumption) (sz_Lint _ _ _ d _ _ (g0.stays ((by repeat (first | with_reducible exact Ext.refl _ | with_reducible apply Ext.and | with_reducible apply Ext.drewx | with_reducible apply Ext.alloc | with_reducible apply Ext.ext | with_reducible apply Ext.drew | with_reducible refine Ext.setCell ?_ (by simp) _)) : Ext _ _).below) (by omega) (by omega)) | with_reducible exact Calls.q (sz_Lint _ _ _ d _ _ (g0.stays ((by repeat (first | with_reducible exact Ext.refl _ | with_reducible apply Ext.and | with_reducible apply Ext.drewx | with_reducible apply Ext.alloc | with_reducible apply Ext.ext | with_reducible apply Ext.drew | with_reducible refine Ext.setCell ?_ (by simp) _)) : Ext _ _).below) (by omega) (by omega))))))); refine wpQuiet_nil ?_; intro x))
          go_roundw
          case rel => exact ⟨k + 1, by omega, by go_num, int_eq (by rw [HS.out]; omega), by rw [HS.out]; omega, (by first | exact hE | exact hE.ext _ | exact hE.trans (by repeat (first | with_reducible exact Ext.refl _ | with_reducible apply Ext.and | with_reducible apply Ext.drewx | with_reducible apply Ext.alloc | with_reducible apply Ext.ext | with_reducible apply Ext.drew | with_reducible refine Ext.setCell ?_ (by simp) _)))⟩
          case measure => simp [intOf]; omega
        · have e1 := szR_gt hq
          go_wp2_with (first | (first | (go_at_call 50; (with_reducible refine (sz_Lint _ _ _ d _ _ (g0.stays ((by repeat (first | with_reducible exact Ext.refl _ | with_reducible apply Ext.and | with_reducible apply Ext.drewx | with_reducible apply Ext.alloc | with_reducible apply Ext.ext | with_reducible apply Ext.drew | with_reducible refine Ext.setCell ?_ (by simp) _)) : Ext _ _).below) (by omega) (by omega)).mono ?_); rintro _ _ ⟨rfl, x, rfl⟩)) | ((first | with_reducible refine wp_region_qe (by kernel_rfl) (by kernel_rfl) ?_ | with_reducible refine wp_region_q (by kernel_rfl) (by kernel_rfl) ?_); (repeat (go_big_quiet_step ((first | (go_at_call 50; first | with_reducible exact Calls.qb (by assumption) (sz_Lint _ _ _ d _ _ (g0.stays ((by repeat (first | with_reducible exact Ext.refl _ | with_reducible apply Ext.and | with_reducible apply Ext.drewx | with_reducible apply Ext.alloc | with_reducible apply Ext.ext | with_reducible apply Ext.drew | with_reducible refine Ext.setCell ?_ (by simp) _)) : Ext _ _).below) (by omega) (by omega)) | with_reducible exact Calls.q (sz_Lint _ _ _ d _ _ (g0.stays ((by repeat (first | with_reducible exact Ext.refl _ | with_reducible apply Ext.and | with_reducible apply Ext.drewx | with_reducible apply Ext.alloc | with_reducible apply Ext.ext | with_reducible apply Ext.drew | with_reducible refine Ext.setCell ?_ (by simp) _)) : Ext _ _).below) (by omega) (by omega))))))); refine wpQuiet_nil ?_; intro x))
          go_ret
          exact ⟨ret_int (by have h1 := HS.out; have h2 := HA.out; have h3 := HZ.out; rw [h3]; exact (szR_gt (by omega)).symm), (by first | exact hE | exact hE.ext _ | exact hE.trans (by repeat (first | with_reducible exact Ext.refl _ | with_reducible apply Ext.and | with_reducible apply Ext.drewx | with_reducible apply Ext.alloc | with_reducible apply Ext.ext | with_reducible apply Ext.drew | with_reducible refine Ext.setCell ?_ (by simp) _)))⟩
      · obtain rfl : k = len := by omega
        have hall : (l.take k) = l := List.take_of_length_le (Nat.le_of_eq HL.out)
        have HT := hidden hall
        clear hall
        go_wp2_with (first | ((first | with_reducible refine wp_region_qe (by kernel_rfl) (by kernel_rfl) ?_ | with_reducible refine wp_region_q (by kernel_rfl) (by kernel_rfl) ?_); (repeat (go_big_quiet_step (fail))); refine wpQuiet_nil ?_; intro x))
        go_ret
        exact ⟨ret_int (by have h3 := HZ.out; have hs' := hs; rw [HT.out] at hs' ⊢; rw [h3, szR_le (by omega)]; omega), (by first | exact hE | exact hE.ext _ | exact hE.trans (by repeat (first | with_reducible exact Ext.refl _ | with_reducible apply Ext.and | with_reducible apply Ext.drewx | with_reducible apply Ext.alloc | with_reducible apply Ext.ext | with_reducible apply Ext.drew | with_reducible refine Ext.setCell ?_ (by simp) _)))⟩
  · go_enter Try.func14, Try.ntmps14
    go_wp2_with (first | ((first | with_reducible refine wp_region_qe (by kernel_rfl) (by kernel_rfl) ?_ | with_reducible refine wp_region_q (by kernel_rfl) (by kernel_rfl) ?_); (repeat (go_big_quiet_step (fail))); refine wpQuiet_nil ?_; intro x))
    go_ret
    exact ⟨ret_int (by have h3 := HZ.out; rw [h3]; exact (szR_gt (by omega)).symm), Ext.refl _⟩

theorem info_impl_Lint : (Try.prog.info? 30).map (fun i => (i.zero, i.size, i.bytes)) = some (some (.slice none 0 0), 1, 24) := by kernel_rfl
set_option maxHeartbeats 1000000 in
theorem to_LLint (a : Option Addr) (len cap : Nat) (l : (List (List Int))) (w : World) (h : SlRd w a len cap l) (hn : Sz.sz l ≤ 1048576) :
    Calls Try.prog 16 #[.slice a len cap] w fun e w' => ∃ B, e = .returned (.slice (some ⟨B, 0, none⟩) len len) ∧ ∃ x, w' = ext w x ∧ Hid (Fresh w (ext w x) [.slice (some ⟨B, 0, none⟩) len len] l) := by
  have hlen := h.1
  have hn' : len ≤ 1048576 := by have : Sz.sz l = l.length + (l.map Sz.sz).sum := rfl; omega
  obtain ⟨i0, hi, hz0, hz1, hz2⟩ := info_parts info_impl_Lint
  have hmk := mkSlice Try.underlying22 hi hz0 len (by rw [hz2]; omega) (by unfold maxLen; omega)
  have HZ : Hid (l.length = len) := hlen
  have HN : Hid (Sz.sz l ≤ 1048576) := hn
  clear hlen hn
  go_enter Try.func16, Try.ntmps16
  go_wp2_with fail
  have hF : Fill (w.alloc (Obj.cells (madeCells #[.slice none 0 0] (len)) 30)) w.heap.size 30 len l 0 := Fill.start (Blk.new w _ _) (by simp [madeCells]; first | rfl | exact (Nat.mul_one len).symm)
  have hE : Ext w (w.alloc (Obj.cells (madeCells #[.slice none 0 0] (len)) 30)) := (by repeat (first | with_reducible exact Ext.refl _ | with_reducible apply Ext.and | with_reducible apply Ext.drewx | with_reducible apply Ext.alloc | with_reducible apply Ext.ext | with_reducible apply Ext.drew | with_reducible refine Ext.setCell ?_ (by simp) _))
  generalize (w.alloc (Obj.cells (madeCells #[.slice none 0 0] (len)) 30)) = w1 at *
  clear hmk
  go_loopw [4] (fun i wr => ∃ k : Nat, k ≤ len ∧ i = .int .i64 k ∧ Ext w wr ∧ Fill wr w.heap.size 30 len l k) (fun i _ => len - (intOf i).toNat)
  case atStart => exact ⟨0, Nat.zero_le _, rfl, hE, hF⟩
  case round =>
    obtain ⟨k, hk, rfl, hE, hF⟩ := hrel
    by_cases hlt : k < len
    · obtain ⟨d, hd, b, off, ys, rfl, hys, hcell, hrd⟩ := h.at hE hlt
      obtain ⟨a', len', cap', rfl, g0⟩ := hrd
      have c0 : wr.cell? ⟨b, off + k, none⟩ = some (.slice a' len' cap') := by have := hcell 0 _ rfl; simpa [Lay.n] using this
      have lb := cell_lt c0
      obtain ⟨cs, hB, hL⟩ := hF.blk
      have lB := hB.lt
      have hL' : cs.length = len * 1 := hL
      obtain ⟨z0, s0⟩ := hB.get (j := k) (by omega)
      have f0 := hB.frozen (k)
      have HL : Hid (cs.length = len * 1) := hL
      have HD : Hid (l[k]? = some d) := hd
      have HF : Hid (Fill wr w.heap.size 30 len l k) := hF
      clear hcell hys hL hL' hd hF
      have HZs := sz_at HD.out
      have zk : Sz.sz d ≤ 1048576 := by have := HN.out; omega
      clear HZs
      go_wp2_with (first | (first | ((go_at_call 53; refine (to_Lint _ _ _ _ _ ?_ zk).mono ?_; (exact g0.stays ((by repeat (first | with_reducible exact Ext.refl _ | with_reducible apply Ext.and | with_reducible apply Ext.drewx | with_reducible apply Ext.alloc | with_reducible apply Ext.ext | with_reducible apply Ext.drew | with_reducible refine Ext.setCell ?_ (by simp) _)) : Ext _ _).below); rintro _ _ ⟨B', rfl, x, rfl, F0⟩; (try rw [ext_ext] at F0)))) | ((first | with_reducible refine wp_region_qe (by kernel_rfl) (by kernel_rfl) ?_ | with_reducible refine wp_region_q (by kernel_rfl) (by kernel_rfl) ?_); (repeat (go_big_quiet_step ((first | ((go_at_call 53; refine (to_Lint _ _ _ _ _ ?_ zk).mono ?_; (exact g0.stays ((by repeat (first | with_reducible exact Ext.refl _ | with_reducible apply Ext.and | with_reducible apply Ext.drewx | with_reducible apply Ext.alloc | with_reducible apply Ext.ext | with_reducible apply Ext.drew | with_reducible refine Ext.setCell ?_ (by simp) _)) : Ext _ _).below); rintro _ _ ⟨B', rfl, x, rfl, F0⟩; (try rw [ext_ext] at F0))))))); refine wpQuiet_nil ?_; intro x))
      go_roundw
      case rel => exact ⟨k + 1, by omega, by go_num, by simpa [setW] using (Ext.setW (Nat.le_refl _) [.slice (some ⟨B', 0, none⟩) len' len'] k (hE.ext x)), by have := HF.out.step (w1 := ext wr x) (ys := [.slice (some ⟨B', 0, none⟩) len' len']) HD.out hlt rfl F0.out; simpa [setW, Lay.n] using this⟩
      case measure => simp [intOf]; omega
    · obtain rfl : k = len := by omega
      have hres := Fill.done hE (Nat.le_refl _) HZ.out (by unfold maxLen; omega) hF
      obtain ⟨x, rfl⟩ := hE
      clear hF
      go_wp2
      go_ret
      exact ⟨_, rfl, x, rfl, hres⟩

set_option maxHeartbeats 1000000 in
theorem eq_LLint (a : Option Addr) (len cap : Nat) (l : (List (List Int))) (a' : Option Addr) (len' cap' : Nat) (l' : (List (List Int))) (w : World) (h : SlRd w a len cap l) (h' : SlRd w a' len' cap' l') :
    Calls Try.prog 18 #[.slice a len cap, .slice a' len' cap'] w fun e w' => e = .returned (.bool (decide (l = l'))) ∧ Ext w w' := by
  have hm := h.2.2.1
  have hlc := h.2.1
  have hlen := h.1
  have hlen' := h'.1
  unfold maxLen at hm
  by_cases hne : len = len'
  · subst hne
    have HL : Hid (l.length = len) := hlen
    have HL' : Hid (l'.length = len) := hlen'
    clear hlen hlen'
    go_enter Try.func18, Try.ntmps18
    go_wp2_with fail
    go_loopw [5] (fun i wr => ∃ k : Nat, k ≤ len ∧ i = .int .i64 k ∧ Ext w wr ∧ Hid (l.take k = l'.take k)) (fun i _ => len - (intOf i).toNat)
    case atStart => exact ⟨0, Nat.zero_le _, rfl, Ext.refl _, rfl⟩
    case round =>
      obtain ⟨k, hk, rfl, hE, HT⟩ := hrel
      by_cases hlt : k < len
      · obtain ⟨d, hd, b, off, ys, rfl, hys, hcell, hrd⟩ := h.at hE hlt
        obtain ⟨d', hd', b', off', ys', rfl, hys', hcell', hrd'⟩ := h'.at hE hlt
        have HD : Hid (l[k]? = some d) := hd
        have HD' : Hid (l'[k]? = some d') := hd'
        clear hd hd'
        obtain ⟨q, qn, qc, rfl, g0⟩ := hrd
        obtain ⟨q', qn', qc', rfl, g0'⟩ := hrd'
        have c0 : wr.cell? ⟨b, off + k, none⟩ = some (.slice q qn qc) := by have := hcell 0 _ rfl; simpa [Lay.n] using this
        have c0' : wr.cell? ⟨b', off' + k, none⟩ = some (.slice q' qn' qc') := by have := hcell' 0 _ rfl; simpa [Lay.n] using this
        have lb := cell_lt c0
        have lb' := cell_lt c0'
        clear hcell hys hcell' hys'
        by_cases hdd : d = d'
        · have hb : decide (d = d') = true := by simpa using hdd
          have HDD : Hid (d = d') := hdd
          clear hdd
          go_wp2_with (first | (first | (go_at_call 27; (with_reducible refine (eq_Lint _ _ _ d _ _ _ d' _ (g0.stays ((by repeat (first | with_reducible exact Ext.refl _ | with_reducible apply Ext.and | with_reducible apply Ext.drewx | with_reducible apply Ext.alloc | with_reducible apply Ext.ext | with_reducible apply Ext.drew | with_reducible refine Ext.setCell ?_ (by simp) _)) : Ext _ _).below) (g0'.stays ((by repeat (first | with_reducible exact Ext.refl _ | with_reducible apply Ext.and | with_reducible apply Ext.drewx | with_reducible apply Ext.alloc | with_reducible apply Ext.ext | with_reducible apply Ext.drew | with_reducible refine Ext.setCell ?_ (by simp) _)) : Ext _ _).below)).mono ?_); rintro _ _ ⟨rfl, x, rfl⟩)) | ((first | with_reducible refine wp_region_qe (by kernel_rfl) (by kernel_rfl) ?_ | with_reducible refine wp_region_q (by kernel_rfl) (by kernel_rfl) ?_); (repeat (go_big_quiet_step ((first | (go_at_call 27; first | with_reducible exact Calls.qb (by assumption) (eq_Lint _ _ _ d _ _ _ d' _ (g0.stays ((by repeat (first | with_reducible exact Ext.refl _ | with_reducible apply Ext.and | with_reducible apply Ext.drewx | with_reducible apply Ext.alloc | with_reducible apply Ext.ext | with_reducible apply Ext.drew | with_reducible refine Ext.setCell ?_ (by simp) _)) : Ext _ _).below) (g0'.stays ((by repeat (first | with_reducible exact Ext.refl _ | with_reducible apply Ext.and | with_reducible apply Ext.drewx | with_reducible apply Ext.alloc | with_reducible apply Ext.ext | with_reducible apply Ext.drew | with_reducible refine Ext.setCell ?_ (by simp) _)) : Ext _ _).below)) | with_reducible exact Calls.q (eq_Lint _ _ _ d _ _ _ d' _ (g0.stays ((by repeat (first | with_reducible exact Ext.refl _ | with_reducible apply Ext.and | with_reducible apply Ext.drewx | with_reducible apply Ext.alloc | with_reducible apply Ext.ext | with_reducible apply Ext.drew | with_reducible refine Ext.setCell ?_ (by simp) _)) : Ext _ _).below) (g0'.stays ((by repeat (first | with_reducible exact Ext.refl _ | with_reducible apply Ext.and | with_reducible apply Ext.drewx | with_reducible apply Ext.alloc | with_reducible apply Ext.ext | with_reducible apply Ext.drew | with_reducible refine Ext.setCell ?_ (by simp) _)) : Ext _ _).below))))))); refine wpQuiet_nil ?_; intro x))
          go_roundw
          case rel => exact ⟨k + 1, by omega, by go_num, (by first | exact hE | exact hE.ext _ | exact hE.trans (by repeat (first | with_reducible exact Ext.refl _ | with_reducible apply Ext.and | with_reducible apply Ext.drewx | with_reducible apply Ext.alloc | with_reducible apply Ext.ext | with_reducible apply Ext.drew | with_reducible refine Ext.setCell ?_ (by simp) _))), take_succ_eq HT.out HD.out (HDD.out ▸ HD'.out)⟩
          case measure => simp [intOf]; omega
        · have hb : decide (d = d') = false := by simpa using hdd
          have HDD : Hid (¬ d = d') := hdd
          clear hdd
          go_wp2_with (first | (first | (go_at_call 27; (with_reducible refine (eq_Lint _ _ _ d _ _ _ d' _ (g0.stays ((by repeat (first | with_reducible exact Ext.refl _ | with_reducible apply Ext.and | with_reducible apply Ext.drewx | with_reducible apply Ext.alloc | with_reducible apply Ext.ext | with_reducible apply Ext.drew | with_reducible refine Ext.setCell ?_ (by simp) _)) : Ext _ _).below) (g0'.stays ((by repeat (first | with_reducible exact Ext.refl _ | with_reducible apply Ext.and | with_reducible apply Ext.drewx | with_reducible apply Ext.alloc | with_reducible apply Ext.ext | with_reducible apply Ext.drew | with_reducible refine Ext.setCell ?_ (by simp) _)) : Ext _ _).below)).mono ?_); rintro _ _ ⟨rfl, x, rfl⟩)) | ((first | with_reducible refine wp_region_qe (by kernel_rfl) (by kernel_rfl) ?_ | with_reducible refine wp_region_q (by kernel_rfl) (by kernel_rfl) ?_); (repeat (go_big_quiet_step ((first | (go_at_call 27; first | with_reducible exact Calls.qb (by assumption) (eq_Lint _ _ _ d _ _ _ d' _ (g0.stays ((by repeat (first | with_reducible exact Ext.refl _ | with_reducible apply Ext.and | with_reducible apply Ext.drewx | with_reducible apply Ext.alloc | with_reducible apply Ext.ext | with_reducible apply Ext.drew | with_reducible refine Ext.setCell ?_ (by simp) _)) : Ext _ _).below) (g0'.stays ((by repeat (first | with_reducible exact Ext.refl _ | with_reducible apply Ext.and | with_reducible apply Ext.drewx | with_reducible apply Ext.alloc | with_reducible apply Ext.ext | with_reducible apply Ext.drew | with_reducible refine Ext.setCell ?_ (by simp) _)) : Ext _ _).below)) | with_reducible exact Calls.q (eq_Lint _ _ _ d _ _ _ d' _ (g0.stays ((by repeat (first | with_reducible exact Ext.refl _ | with_reducible apply Ext.and | with_reducible apply Ext.drewx | with_reducible apply Ext.alloc | with_reducible apply Ext.ext | with_reducible apply Ext.drew | with_reducible refine Ext.setCell ?_ (by simp) _)) : Ext _ _).below) (g0'.stays ((by repeat (first | with_reducible exact Ext.refl _ | with_reducible apply Ext.and | with_reducible apply Ext.drewx | with_reducible apply Ext.alloc | with_reducible apply Ext.ext | with_reducible apply Ext.drew | with_reducible refine Ext.setCell ?_ (by simp) _)) : Ext _ _).below))))))); refine wpQuiet_nil ?_; intro x))
          go_ret
          exact ⟨ret_bool (by simpa using ne_at HD.out HD'.out HDD.out), (by first | exact hE | exact hE.ext _ | exact hE.trans (by repeat (first | with_reducible exact Ext.refl _ | with_reducible apply Ext.and | with_reducible apply Ext.drewx | with_reducible apply Ext.alloc | with_reducible apply Ext.ext | with_reducible apply Ext.drew | with_reducible refine Ext.setCell ?_ (by simp) _)))⟩
      · obtain rfl : k = len := by omega
        go_wp2_with (first | ((first | with_reducible refine wp_region_qe (by kernel_rfl) (by kernel_rfl) ?_ | with_reducible refine wp_region_q (by kernel_rfl) (by kernel_rfl) ?_); (repeat (go_big_quiet_step (fail))); refine wpQuiet_nil ?_; intro x))
        go_ret
        exact ⟨ret_bool (by simpa using eq_take HT.out HL.out HL'.out), (by first | exact hE | exact hE.ext _ | exact hE.trans (by repeat (first | with_reducible exact Ext.refl _ | with_reducible apply Ext.and | with_reducible apply Ext.drewx | with_reducible apply Ext.alloc | with_reducible apply Ext.ext | with_reducible apply Ext.drew | with_reducible refine Ext.setCell ?_ (by simp) _)))⟩
  · have hb : ((len : Int) != (len' : Int)) = true := by simpa using (by omega : ¬ (len : Int) = len')
    go_enter Try.func18, Try.ntmps18
    go_wp2_with (first | ((first | with_reducible refine wp_region_qe (by kernel_rfl) (by kernel_rfl) ?_ | with_reducible refine wp_region_q (by kernel_rfl) (by kernel_rfl) ?_); (repeat (go_big_quiet_step (fail))); refine wpQuiet_nil ?_; intro x))
    go_ret
    exact ⟨ret_bool (by simpa using (fun e : l = l' => hne (by rw [← hlen, ← hlen', e]))), Ext.refl _⟩



















set_option maxHeartbeats 1000000 in
theorem sz_LEn (a : Option Addr) (len cap : Nat) (l : (List En)) (left : Int) (w : World) (h : SlRd w a len cap l) (h0 : 0 ≤ left) (h1 : left ≤ 1048576) :
    Calls Try.prog 31 #[.slice a len cap, .int .i64 left] w fun e w' => e = .returned (.int .i64 (szR (Sz.sz l) left)) ∧ Ext w w' := by
  have hm := h.2.2.1
  have hlc := h.2.1
  have hlen := h.1
  unfold maxLen at hm
  have e : Sz.sz l = len := by rw [← hlen]; exact szL_flat l (fun _ => rfl)
  rw [e]
  clear e hlen
  by_cases hle : (len : Int) ≤ left
  all_goals
    go_enter Try.func31, Try.ntmps31
    go_wp2
    go_ret
    exact ⟨ret_int (by first | rw [szR_le hle] | rw [szR_gt (by omega)]), Ext.refl _⟩

theorem info_impl_En : (Try.prog.info? 50).map (fun i => (i.zero, i.size, i.bytes)) = some (some (.agg #[.int .i64 0, .int .i64 0, .int .i64 0]), 3, 24) := by kernel_rfl
set_option maxHeartbeats 1000000 in
theorem to_LEn (a : Option Addr) (len cap : Nat) (l : (List En)) (w : World) (h : SlRd w a len cap l) (hn : Sz.sz l ≤ 1048576) :
    Calls Try.prog 33 #[.slice a len cap] w fun e w' => ∃ B, e = .returned (.slice (some ⟨B, 0, none⟩) len len) ∧ ∃ x, w' = ext w x ∧ Hid (Fresh w (ext w x) [.slice (some ⟨B, 0, none⟩) len len] l) := by
  have hlen := h.1
  have hn' : len ≤ 1048576 := by have : Sz.sz l = l.length + (l.map Sz.sz).sum := rfl; omega
  obtain ⟨i0, hi, hz0, hz1, hz2⟩ := info_parts info_impl_En
  have hmk := mkSlice Try.underlying38 hi hz0 len (by rw [hz2]; omega) (by unfold maxLen; omega)
  have HZ : Hid (l.length = len) := hlen
  have HN : Hid (Sz.sz l ≤ 1048576) := hn
  clear hlen hn
  go_enter Try.func33, Try.ntmps33
  go_wp2_with fail
  have hF : Fill (w.alloc (Obj.cells (madeCells #[.int .i64 0, .int .i64 0, .int .i64 0] (len * 3)) 50)) w.heap.size 50 len l 0 := Fill.start (Blk.new w _ _) (by simp [madeCells]; first | rfl | exact (Nat.mul_one len).symm)
  have hE : Ext w (w.alloc (Obj.cells (madeCells #[.int .i64 0, .int .i64 0, .int .i64 0] (len * 3)) 50)) := (by repeat (first | with_reducible exact Ext.refl _ | with_reducible apply Ext.and | with_reducible apply Ext.drewx | with_reducible apply Ext.alloc | with_reducible apply Ext.ext | with_reducible apply Ext.drew | with_reducible refine Ext.setCell ?_ (by simp) _))
  generalize (w.alloc (Obj.cells (madeCells #[.int .i64 0, .int .i64 0, .int .i64 0] (len * 3)) 50)) = w1 at *
  clear hmk
  go_loopw [4] (fun i wr => ∃ k : Nat, k ≤ len ∧ i = .int .i64 k ∧ Ext w wr ∧ Fill wr w.heap.size 50 len l k) (fun i _ => len - (intOf i).toNat)
  case atStart => exact ⟨0, Nat.zero_le _, rfl, hE, hF⟩
  case round =>
    obtain ⟨k, hk, rfl, hE, hF⟩ := hrel
    by_cases hlt : k < len
    · obtain ⟨d, hd, b, off, ys, rfl, hys, hcell, hrd⟩ := h.at hE hlt
      obtain ⟨rfl, g0, g1, g2⟩ := hrd
      have c0 : wr.cell? ⟨b, off + k * 3, none⟩ = some (_) := hcell 0 _ rfl
      have c1 : wr.cell? ⟨b, off + k * 3 + 1, none⟩ = some (_) := hcell 1 _ rfl
      have c2 : wr.cell? ⟨b, off + k * 3 + 2, none⟩ = some (_) := hcell 2 _ rfl
      have lb := cell_lt c0
      obtain ⟨cs, hB, hL⟩ := hF.blk
      have lB := hB.lt
      have hL' : cs.length = len * 3 := hL
      obtain ⟨z0, s0⟩ := hB.get (j := k * 3) (by omega)
      have f0 := hB.frozen (k * 3)
      obtain ⟨z1, s1⟩ := hB.get (j := k * 3 + 1) (by omega)
      have f1 := hB.frozen (k * 3 + 1)
      obtain ⟨z2, s2⟩ := hB.get (j := k * 3 + 2) (by omega)
      have f2 := hB.frozen (k * 3 + 2)
      have HL : Hid (cs.length = len * 3) := hL
      have HD : Hid (l[k]? = some d) := hd
      have HF : Hid (Fill wr w.heap.size 50 len l k) := hF
      clear hcell hys hL hL' hd hF
      go_wp2_with (first | (first | (go_at_call 37; (with_reducible refine (to_En d _).mono ?_); rintro _ _ ⟨rfl, x, rfl⟩)) | ((first | with_reducible refine wp_region_qe (by kernel_rfl) (by kernel_rfl) ?_ | with_reducible refine wp_region_q (by kernel_rfl) (by kernel_rfl) ?_); (repeat (go_big_quiet_step ((first | (go_at_call 37; first | with_reducible exact Calls.qb (by assumption) (to_En d _) | with_reducible exact Calls.q (to_En d _)))))); refine wpQuiet_nil ?_; intro x))
      go_roundw
      case rel => exact ⟨k + 1, by omega, by go_num, Ext.setW (Nat.le_refl _) [.int .i64 d.r.f, .int .i64 d.r.b, .int .i64 d.via] (k * 3) (hE.ext x), HF.out.step (w1 := ext wr x) (ys := [.int .i64 d.r.f, .int .i64 d.r.b, .int .i64 d.via]) HD.out hlt rfl ⟨⟨x, rfl⟩, [], ⟨⟨rfl, g0, g1, g2⟩, rfl⟩, by simp, by simp⟩⟩
      case measure => simp [intOf]; omega
    · obtain rfl : k = len := by omega
      have hres := Fill.done hE (Nat.le_refl _) HZ.out (by unfold maxLen; omega) hF
      obtain ⟨x, rfl⟩ := hE
      clear hF
      go_wp2
      go_ret
      exact ⟨_, rfl, x, rfl, hres⟩

set_option maxHeartbeats 1000000 in
theorem eq_LEn (a : Option Addr) (len cap : Nat) (l : (List En)) (a' : Option Addr) (len' cap' : Nat) (l' : (List En)) (w : World) (h : SlRd w a len cap l) (h' : SlRd w a' len' cap' l') :
    Calls Try.prog 35 #[.slice a len cap, .slice a' len' cap'] w fun e w' => e = .returned (.bool (decide (l = l'))) ∧ Ext w w' := by
  have hm := h.2.2.1
  have hlc := h.2.1
  have hlen := h.1
  have hlen' := h'.1
  unfold maxLen at hm
  by_cases hne : len = len'
  · subst hne
    have HL : Hid (l.length = len) := hlen
    have HL' : Hid (l'.length = len) := hlen'
    clear hlen hlen'
    go_enter Try.func35, Try.ntmps35
    go_wp2_with fail
    go_loopw [5] (fun i wr => ∃ k : Nat, k ≤ len ∧ i = .int .i64 k ∧ Ext w wr ∧ Hid (l.take k = l'.take k)) (fun i _ => len - (intOf i).toNat)
    case atStart => exact ⟨0, Nat.zero_le _, rfl, Ext.refl _, rfl⟩
    case round =>
      obtain ⟨k, hk, rfl, hE, HT⟩ := hrel
      by_cases hlt : k < len
      · obtain ⟨d, hd, b, off, ys, rfl, hys, hcell, hrd⟩ := h.at hE hlt
        obtain ⟨d', hd', b', off', ys', rfl, hys', hcell', hrd'⟩ := h'.at hE hlt
        have HD : Hid (l[k]? = some d) := hd
        have HD' : Hid (l'[k]? = some d') := hd'
        clear hd hd'
        obtain ⟨rfl, g0, g1, g2⟩ := hrd
        obtain ⟨rfl, g0', g1', g2'⟩ := hrd'
        have c0 : wr.cell? ⟨b, off + k * 3, none⟩ = some (_) := hcell 0 _ rfl
        have c0' : wr.cell? ⟨b', off' + k * 3, none⟩ = some (_) := hcell' 0 _ rfl
        have c1 : wr.cell? ⟨b, off + k * 3 + 1, none⟩ = some (_) := hcell 1 _ rfl
        have c1' : wr.cell? ⟨b', off' + k * 3 + 1, none⟩ = some (_) := hcell' 1 _ rfl
        have c2 : wr.cell? ⟨b, off + k * 3 + 2, none⟩ = some (_) := hcell 2 _ rfl
        have c2' : wr.cell? ⟨b', off' + k * 3 + 2, none⟩ = some (_) := hcell' 2 _ rfl
        have lb := cell_lt c0
        have lb' := cell_lt c0'
        clear hcell hys hcell' hys'
        by_cases hdd : d = d'
        · have hb : decide (d = d') = true := by simpa using hdd
          have HDD : Hid (d = d') := hdd
          clear hdd
          go_wp2_with (first | (first | (go_at_call 66; (with_reducible refine (eq_En d d'  _).mono ?_); rintro _ _ ⟨rfl, x, rfl⟩)) | ((first | with_reducible refine wp_region_qe (by kernel_rfl) (by kernel_rfl) ?_ | with_reducible refine wp_region_q (by kernel_rfl) (by kernel_rfl) ?_); (repeat (go_big_quiet_step ((first | (go_at_call 66; first | with_reducible exact Calls.qb (by assumption) (eq_En d d'  _) | with_reducible exact Calls.q (eq_En d d'  _)))))); refine wpQuiet_nil ?_; intro x))
          go_roundw
          case rel => exact ⟨k + 1, by omega, by go_num, (by first | exact hE | exact hE.ext _ | exact hE.trans (by repeat (first | with_reducible exact Ext.refl _ | with_reducible apply Ext.and | with_reducible apply Ext.drewx | with_reducible apply Ext.alloc | with_reducible apply Ext.ext | with_reducible apply Ext.drew | with_reducible refine Ext.setCell ?_ (by simp) _))), take_succ_eq HT.out HD.out (HDD.out ▸ HD'.out)⟩
          case measure => simp [intOf]; omega
        · have hb : decide (d = d') = false := by simpa using hdd
          have HDD : Hid (¬ d = d') := hdd
          clear hdd
          go_wp2_with (first | (first | (go_at_call 66; (with_reducible refine (eq_En d d'  _).mono ?_); rintro _ _ ⟨rfl, x, rfl⟩)) | ((first | with_reducible refine wp_region_qe (by kernel_rfl) (by kernel_rfl) ?_ | with_reducible refine wp_region_q (by kernel_rfl) (by kernel_rfl) ?_); (repeat (go_big_quiet_step ((first | (go_at_call 66; first | with_reducible exact Calls.qb (by assumption) (eq_En d d'  _) | with_reducible exact Calls.q (eq_En d d'  _)))))); refine wpQuiet_nil ?_; intro x))
          go_ret
          exact ⟨ret_bool (by simpa using ne_at HD.out HD'.out HDD.out), (by first | exact hE | exact hE.ext _ | exact hE.trans (by repeat (first | with_reducible exact Ext.refl _ | with_reducible apply Ext.and | with_reducible apply Ext.drewx | with_reducible apply Ext.alloc | with_reducible apply Ext.ext | with_reducible apply Ext.drew | with_reducible refine Ext.setCell ?_ (by simp) _)))⟩
      · obtain rfl : k = len := by omega
        go_wp2_with (first | ((first | with_reducible refine wp_region_qe (by kernel_rfl) (by kernel_rfl) ?_ | with_reducible refine wp_region_q (by kernel_rfl) (by kernel_rfl) ?_); (repeat (go_big_quiet_step (fail))); refine wpQuiet_nil ?_; intro x))
        go_ret
        exact ⟨ret_bool (by simpa using eq_take HT.out HL.out HL'.out), (by first | exact hE | exact hE.ext _ | exact hE.trans (by repeat (first | with_reducible exact Ext.refl _ | with_reducible apply Ext.and | with_reducible apply Ext.drewx | with_reducible apply Ext.alloc | with_reducible apply Ext.ext | with_reducible apply Ext.drew | with_reducible refine Ext.setCell ?_ (by simp) _)))⟩
  · have hb : ((len : Int) != (len' : Int)) = true := by simpa using (by omega : ¬ (len : Int) = len')
    go_enter Try.func35, Try.ntmps35
    go_wp2_with (first | ((first | with_reducible refine wp_region_qe (by kernel_rfl) (by kernel_rfl) ?_ | with_reducible refine wp_region_q (by kernel_rfl) (by kernel_rfl) ?_); (repeat (go_big_quiet_step (fail))); refine wpQuiet_nil ?_; intro x))
    go_ret
    exact ⟨ret_bool (by simpa using (fun e : l = l' => hne (by rw [← hlen, ← hlen', e]))), Ext.refl _⟩





























































end Go.Proofs.Ytddeecfhggfnkaa
