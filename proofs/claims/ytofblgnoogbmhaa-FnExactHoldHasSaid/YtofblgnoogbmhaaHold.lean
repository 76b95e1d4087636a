/- Holdings: copying, comparing, looking. No condition. -/
import Derived.Test.YtofblgnoogbmhaaRange
import Derived.Test.YtofblgnoogbmhaaSz
namespace Go.Proofs.Ytofblgnoogbmhaa
open Go Go.RowKit

set_option maxHeartbeats 1000000 in
theorem to_Rg (d : Rg) (w : World) :
    Calls Try.prog 16 #[.agg #[.int .i64 d.f, .int .i64 d.b]] w fun e w' => e = .returned (.agg #[.int .i64 d.f, .int .i64 d.b]) ∧ Ext w w' := by
  go_enter Try.func16, Try.ntmps16
  go_wp2_with (first | ((first | refine wp_region_qe (by kernel_rfl) (by kernel_rfl) ?_ | refine wp_region_q (by kernel_rfl) (by kernel_rfl) ?_); (repeat (go_big_quiet_step (fail))); refine wpQuiet_nil ?_; intro x))
  exact bodyPost_ret (v := .agg #[.int .i64 d.f, .int .i64 d.b]) (by simp [results, Try.results16, go_sem]) rfl ⟨rfl, (by repeat (first | with_reducible exact Ext.refl _ | with_reducible apply Ext.and | with_reducible apply Ext.drewx | with_reducible apply Ext.alloc | with_reducible apply Ext.ext | with_reducible apply Ext.drew | with_reducible refine Ext.setCell ?_ (by simp) _))⟩
set_option maxHeartbeats 1000000 in
theorem to_Hd (d : Hd) (w : World) :
    Calls Try.prog 52 #[.agg #[.int .i64 d.house, .int .i64 d.r.f, .int .i64 d.r.b]] w fun e w' => e = .returned (.agg #[.int .i64 d.house, .int .i64 d.r.f, .int .i64 d.r.b]) ∧ Ext w w' := by
  go_enter Try.func52, Try.ntmps52
  go_wp2_with (first | (first | (go_at_call 16; refine (to_Rg _ _).mono ?_; rintro _ _ ⟨rfl, x, rfl⟩)) | ((first | refine wp_region_qe (by kernel_rfl) (by kernel_rfl) ?_ | refine wp_region_q (by kernel_rfl) (by kernel_rfl) ?_); (repeat (go_big_quiet_step ((first | (go_at_call 16; first | exact Calls.qb (by assumption) (to_Rg _ _) | exact Calls.q (to_Rg _ _)))))); refine wpQuiet_nil ?_; intro x))
  exact bodyPost_ret (v := .agg #[.int .i64 d.house, .int .i64 d.r.f, .int .i64 d.r.b]) (by simp [results, Try.results52, go_sem]) rfl ⟨rfl, (by repeat (first | with_reducible exact Ext.refl _ | with_reducible apply Ext.and | with_reducible apply Ext.drewx | with_reducible apply Ext.alloc | with_reducible apply Ext.ext | with_reducible apply Ext.drew | with_reducible refine Ext.setCell ?_ (by simp) _))⟩
set_option maxHeartbeats 1000000 in
theorem eq_Rg (d d' : Rg)   (w : World)  :
    Calls Try.prog 28 #[.agg #[.int .i64 d.f, .int .i64 d.b], .agg #[.int .i64 (d'.f), .int .i64 (d'.b)]] w fun e w' => e = .returned (.bool (decide (d = d'))) ∧ Ext w w' := by
  go_enter Try.func28, Try.ntmps28
  go_wp2_with (first | ((first | refine wp_region_qe (by kernel_rfl) (by kernel_rfl) ?_ | refine wp_region_q (by kernel_rfl) (by kernel_rfl) ?_); (repeat (go_big_quiet_step (fail))); refine wpQuiet_nil ?_; intro x))
  all_goals
    go_ret
    exact ⟨ret_bool (by simp_all [Rg_eq]), (by repeat (first | with_reducible exact Ext.refl _ | with_reducible apply Ext.and | with_reducible apply Ext.drewx | with_reducible apply Ext.alloc | with_reducible apply Ext.ext | with_reducible apply Ext.drew | with_reducible refine Ext.setCell ?_ (by simp) _))⟩
set_option maxHeartbeats 1000000 in
theorem eq_Hd (d d' : Hd)   (w : World)  :
    Calls Try.prog 55 #[.agg #[.int .i64 d.house, .int .i64 d.r.f, .int .i64 d.r.b], .agg #[.int .i64 (d'.house), .int .i64 (d'.r.f), .int .i64 (d'.r.b)]] w fun e w' => e = .returned (.bool (decide (d = d'))) ∧ Ext w w' := by
  go_enter Try.func55, Try.ntmps55
  go_wp2_with (first | (first | (go_at_call 28; refine (eq_Rg d.r d'.r  _).mono ?_; rintro _ _ ⟨rfl, x, rfl⟩)) | ((first | refine wp_region_qe (by kernel_rfl) (by kernel_rfl) ?_ | refine wp_region_q (by kernel_rfl) (by kernel_rfl) ?_); (repeat (go_big_quiet_step ((first | (go_at_call 28; first | exact Calls.qb (by assumption) (eq_Rg d.r d'.r  _) | exact Calls.q (eq_Rg d.r d'.r  _)))))); refine wpQuiet_nil ?_; intro x))
  all_goals
    go_ret
    exact ⟨ret_bool (by simp_all [Hd_eq]), (by repeat (first | with_reducible exact Ext.refl _ | with_reducible apply Ext.and | with_reducible apply Ext.drewx | with_reducible apply Ext.alloc | with_reducible apply Ext.ext | with_reducible apply Ext.drew | with_reducible refine Ext.setCell ?_ (by simp) _))⟩
set_option maxHeartbeats 1000000 in
theorem sz_LHd (a : Option Addr) (len cap : Nat) (l : (List Hd)) (left : Int) (w : World) (h : SlRd w a len cap l) (h0 : 0 ≤ left) (h1 : left ≤ 1048576) :
    Calls Try.prog 32 #[.slice a len cap, .int .i64 left] w fun e w' => e = .returned (.int .i64 (szR (Sz.sz l) left)) ∧ Ext w w' := by
  have hm := h.2.2.1
  have hlc := h.2.1
  have hlen := h.1
  unfold maxLen at hm
  have e : Sz.sz l = len := by rw [← hlen]; exact szL_flat l (fun _ => rfl)
  rw [e]
  clear e hlen
  by_cases hle : (len : Int) ≤ left
  all_goals
    go_enter Try.func32, Try.ntmps32
    go_wp2
    go_ret
    exact ⟨ret_int (by first | rw [szR_le hle] | rw [szR_gt (by omega)]), Ext.refl _⟩
theorem info_impl_Hd : (Try.prog.info? 64).map (fun i => (i.zero, i.size, i.bytes)) = some (some (.agg #[.int .i64 0, .int .i64 0, .int .i64 0]), 3, 24) := by kernel_rfl
set_option maxHeartbeats 1000000 in
theorem to_LHd (a : Option Addr) (len cap : Nat) (l : (List Hd)) (w : World) (h : SlRd w a len cap l) (hn : Sz.sz l ≤ 1048576) :
    Calls Try.prog 34 #[.slice a len cap] w fun e w' => ∃ B, e = .returned (.slice (some ⟨B, 0, none⟩) len len) ∧ ∃ x, w' = ext w x ∧ Hid (Fresh w (ext w x) [.slice (some ⟨B, 0, none⟩) len len] l) := by
  have hlen := h.1
  have hn' : len ≤ 1048576 := by have : Sz.sz l = l.length + (l.map Sz.sz).sum := rfl; omega
  obtain ⟨i0, hi, hz0, hz1, hz2⟩ := info_parts info_impl_Hd
  have hmk := mkSlice Try.underlying47 hi hz0 len (by rw [hz2]; omega) (by unfold maxLen; omega)
  have HZ : Hid (l.length = len) := hlen
  have HN : Hid (Sz.sz l ≤ 1048576) := hn
  clear hlen hn
  go_enter Try.func34, Try.ntmps34
  go_wp2_with fail
  have hF : Fill (w.alloc (Obj.cells (madeCells #[.int .i64 0, .int .i64 0, .int .i64 0] (len * 3)) 64)) w.heap.size 64 len l 0 := Fill.start (Blk.new w _ _) (by simp [madeCells]; rfl)
  have hE : Ext w (w.alloc (Obj.cells (madeCells #[.int .i64 0, .int .i64 0, .int .i64 0] (len * 3)) 64)) := (by repeat (first | with_reducible exact Ext.refl _ | with_reducible apply Ext.and | with_reducible apply Ext.drewx | with_reducible apply Ext.alloc | with_reducible apply Ext.ext | with_reducible apply Ext.drew | with_reducible refine Ext.setCell ?_ (by simp) _))
  generalize (w.alloc (Obj.cells (madeCells #[.int .i64 0, .int .i64 0, .int .i64 0] (len * 3)) 64)) = w1 at *
  clear hmk
  go_loopw [4] (fun i wr => ∃ k : Nat, k ≤ len ∧ i = .int .i64 k ∧ Ext w wr ∧ Fill wr w.heap.size 64 len l k) (fun i _ => len - (intOf i).toNat)
  case atStart => exact ⟨0, Nat.zero_le _, rfl, hE, hF⟩
  case round =>
    obtain ⟨k, hk, rfl, hE, hF⟩ := hrel
    by_cases hlt : k < len
    · obtain ⟨d, hd, b, off, ys, rfl, hys, hcell, hrd⟩ := h.at hE hlt
      obtain ⟨rfl, g0, g1, g2⟩ := hrd
      have c0 : wr.cell? ⟨b, off + k * 3, none⟩ = some _ := hcell 0 _ rfl
      have c1 : wr.cell? ⟨b, off + k * 3 + 1, none⟩ = some _ := hcell 1 _ rfl
      have c2 : wr.cell? ⟨b, off + k * 3 + 2, none⟩ = some _ := hcell 2 _ rfl
      have lb := cell_lt c0
      obtain ⟨cs, hB, hL⟩ := hF.blk
      have lB := hB.lt
      have hL' : cs.length = len * 3 := hL
      obtain ⟨z0, s0⟩ := hB.get (j := k * 3) (by omega)
      have f0 := hB.frozen (k * 3)
      obtain ⟨z1, s1⟩ := hB.get (j := k * 3 + 1) (by omega)
      have f1 := hB.frozen (k * 3 + 1)
      obtain ⟨z2, s2⟩ := hB.get (j := k * 3 + 2) (by omega)
      have f2 := hB.frozen (k * 3 + 2)
      have HL : Hid (cs.length = len * 3) := hL
      have HD : Hid (l[k]? = some d) := hd
      have HF : Hid (Fill wr w.heap.size 64 len l k) := hF
      clear hcell hys hL hL' hd hF
      go_wp2_with (first | (first | (go_at_call 52; refine (to_Hd d _).mono ?_; rintro _ _ ⟨rfl, x, rfl⟩)) | ((first | refine wp_region_qe (by kernel_rfl) (by kernel_rfl) ?_ | refine wp_region_q (by kernel_rfl) (by kernel_rfl) ?_); (repeat (go_big_quiet_step ((first | (go_at_call 52; first | exact Calls.qb (by assumption) (to_Hd d _) | exact Calls.q (to_Hd d _)))))); refine wpQuiet_nil ?_; intro x))
      go_roundw
      case rel => exact ⟨k + 1, by omega, by go_num, Ext.setW (Nat.le_refl _) [.int .i64 d.house, .int .i64 d.r.f, .int .i64 d.r.b] (k * 3) (hE.ext x), HF.out.step (w1 := ext wr x) (ys := [.int .i64 d.house, .int .i64 d.r.f, .int .i64 d.r.b]) HD.out hlt rfl ⟨⟨x, rfl⟩, [], ⟨⟨rfl, g0, g1, g2⟩, rfl⟩, by simp, by simp⟩⟩
      case measure => simp [intOf]; omega
    · obtain rfl : k = len := by omega
      have hres := Fill.done hE (Nat.le_refl _) HZ.out (by unfold maxLen; omega) hF
      obtain ⟨x, rfl⟩ := hE
      clear hF
      go_wp2
      go_ret
      exact ⟨_, rfl, x, rfl, hres⟩
set_option maxHeartbeats 1000000 in
theorem eq_LHd (a : Option Addr) (len cap : Nat) (l : (List Hd)) (a' : Option Addr) (len' cap' : Nat) (l' : (List Hd)) (w : World) (h : SlRd w a len cap l) (h' : SlRd w a' len' cap' l') :
    Calls Try.prog 36 #[.slice a len cap, .slice a' len' cap'] w fun e w' => e = .returned (.bool (decide (l = l'))) ∧ Ext w w' := by
  have hm := h.2.2.1
  have hlc := h.2.1
  have hlen := h.1
  have hlen' := h'.1
  unfold maxLen at hm
  by_cases hne : len = len'
  · subst hne
    have HL : Hid (l.length = len) := hlen
    have HL' : Hid (l'.length = len) := hlen'
    clear hlen hlen'
    go_enter Try.func36, Try.ntmps36
    go_wp2_with fail
    go_loopw [5] (fun i wr => ∃ k : Nat, k ≤ len ∧ i = .int .i64 k ∧ Ext w wr ∧ Hid (l.take k = l'.take k)) (fun i _ => len - (intOf i).toNat)
    case atStart => exact ⟨0, Nat.zero_le _, rfl, Ext.refl _, rfl⟩
    case round =>
      obtain ⟨k, hk, rfl, hE, HT⟩ := hrel
      by_cases hlt : k < len
      · obtain ⟨d, hd, b, off, ys, rfl, hys, hcell, hrd⟩ := h.at hE hlt
        obtain ⟨d', hd', b', off', ys', rfl, hys', hcell', hrd'⟩ := h'.at hE hlt
        have HD : Hid (l[k]? = some d) := hd
        have HD' : Hid (l'[k]? = some d') := hd'
        clear hd hd'
        obtain ⟨rfl, g0, g1, g2⟩ := hrd
        obtain ⟨rfl, g0', g1', g2'⟩ := hrd'
        have c0 : wr.cell? ⟨b, off + k * 3, none⟩ = some _ := hcell 0 _ rfl
        have c0' : wr.cell? ⟨b', off' + k * 3, none⟩ = some _ := hcell' 0 _ rfl
        have c1 : wr.cell? ⟨b, off + k * 3 + 1, none⟩ = some _ := hcell 1 _ rfl
        have c1' : wr.cell? ⟨b', off' + k * 3 + 1, none⟩ = some _ := hcell' 1 _ rfl
        have c2 : wr.cell? ⟨b, off + k * 3 + 2, none⟩ = some _ := hcell 2 _ rfl
        have c2' : wr.cell? ⟨b', off' + k * 3 + 2, none⟩ = some _ := hcell' 2 _ rfl
        have lb := cell_lt c0
        have lb' := cell_lt c0'
        clear hcell hys hcell' hys'
        by_cases hdd : d = d'
        · have hb : decide (d = d') = true := by simpa using hdd
          have HDD : Hid (d = d') := hdd
          clear hdd
          go_wp2_with (first | (first | (go_at_call 55; refine (eq_Hd d d'  _).mono ?_; rintro _ _ ⟨rfl, x, rfl⟩)) | ((first | refine wp_region_qe (by kernel_rfl) (by kernel_rfl) ?_ | refine wp_region_q (by kernel_rfl) (by kernel_rfl) ?_); (repeat (go_big_quiet_step ((first | (go_at_call 55; first | exact Calls.qb (by assumption) (eq_Hd d d'  _) | exact Calls.q (eq_Hd d d'  _)))))); refine wpQuiet_nil ?_; intro x))
          go_roundw
          case rel => exact ⟨k + 1, by omega, by go_num, (by first | exact hE | exact hE.ext _ | exact hE.trans (by repeat (first | with_reducible exact Ext.refl _ | with_reducible apply Ext.and | with_reducible apply Ext.drewx | with_reducible apply Ext.alloc | with_reducible apply Ext.ext | with_reducible apply Ext.drew | with_reducible refine Ext.setCell ?_ (by simp) _))), take_succ_eq HT.out HD.out (HDD.out ▸ HD'.out)⟩
          case measure => simp [intOf]; omega
        · have hb : decide (d = d') = false := by simpa using hdd
          have HDD : Hid (¬ d = d') := hdd
          clear hdd
          go_wp2_with (first | (first | (go_at_call 55; refine (eq_Hd d d'  _).mono ?_; rintro _ _ ⟨rfl, x, rfl⟩)) | ((first | refine wp_region_qe (by kernel_rfl) (by kernel_rfl) ?_ | refine wp_region_q (by kernel_rfl) (by kernel_rfl) ?_); (repeat (go_big_quiet_step ((first | (go_at_call 55; first | exact Calls.qb (by assumption) (eq_Hd d d'  _) | exact Calls.q (eq_Hd d d'  _)))))); refine wpQuiet_nil ?_; intro x))
          go_ret
          exact ⟨ret_bool (by simpa using ne_at HD.out HD'.out HDD.out), (by first | exact hE | exact hE.ext _ | exact hE.trans (by repeat (first | with_reducible exact Ext.refl _ | with_reducible apply Ext.and | with_reducible apply Ext.drewx | with_reducible apply Ext.alloc | with_reducible apply Ext.ext | with_reducible apply Ext.drew | with_reducible refine Ext.setCell ?_ (by simp) _)))⟩
      · obtain rfl : k = len := by omega
        go_wp2_with (first | ((first | refine wp_region_qe (by kernel_rfl) (by kernel_rfl) ?_ | refine wp_region_q (by kernel_rfl) (by kernel_rfl) ?_); (repeat (go_big_quiet_step (fail))); refine wpQuiet_nil ?_; intro x))
        go_ret
        exact ⟨ret_bool (by simpa using eq_take HT.out HL.out HL'.out), (by first | exact hE | exact hE.ext _ | exact hE.trans (by repeat (first | with_reducible exact Ext.refl _ | with_reducible apply Ext.and | with_reducible apply Ext.drewx | with_reducible apply Ext.alloc | with_reducible apply Ext.ext | with_reducible apply Ext.drew | with_reducible refine Ext.setCell ?_ (by simp) _)))⟩
  · have hb : ((len : Int) != (len' : Int)) = true := by simpa using (by omega : ¬ (len : Int) = len')
    go_enter Try.func36, Try.ntmps36
    go_wp2_with (first | ((first | refine wp_region_qe (by kernel_rfl) (by kernel_rfl) ?_ | refine wp_region_q (by kernel_rfl) (by kernel_rfl) ?_); (repeat (go_big_quiet_step (fail))); refine wpQuiet_nil ?_; intro x))
    go_ret
    exact ⟨ret_bool (by simpa using (fun e : l = l' => hne (by rw [← hlen, ← hlen', e]))), Ext.refl _⟩

def hfit (house : Int) (r : Rg) (h : Hd) : Bool := decide (h.house = house) && rin r.f r.b h.r.f h.r.b

set_option maxHeartbeats 1000000 in
theorem l13Holds_any (a : Option Addr) (len cap : Nat) (l : List Hd) (house : Int) (r : Rg) (w : World) (h : SlRd w a len cap l) :
    Calls Try.prog 51 #[.slice a len cap, .int .i64 house, .agg #[.int .i64 r.f, .int .i64 r.b]] w fun e w' => e = .returned (.bool (l.any (hfit house r))) ∧ Ext w w' := by
  have hm := h.2.2.1
  have hlc := h.2.1
  have HL : Hid (l.length = len) := h.1
  unfold maxLen at hm
  go_enter Try.func51, Try.ntmps51
  go_wp2_with fail
  obtain ⟨W, hW⟩ : ∃ W, W = w.alloc (Obj.cells #[Value.int IntKind.i64 r.f, Value.int IntKind.i64 r.b] 26) := ⟨_, rfl⟩
  have hE0 : Ext w W := by rw [hW]; exact (by repeat (first | with_reducible exact Ext.refl _ | with_reducible apply Ext.and | with_reducible apply Ext.drewx | with_reducible apply Ext.alloc | with_reducible apply Ext.ext | with_reducible apply Ext.drew | with_reducible refine Ext.setCell ?_ (by simp) _))
  have b0 : W.cell? ⟨w.heap.size, 0, none⟩ = some (.int .i64 r.f) := by rw [hW]; go_simp
  have b1 : W.cell? ⟨w.heap.size, 1, none⟩ = some (.int .i64 r.b) := by rw [hW]; go_simp
  rw [← hW]
  clear hW
  go_loopw [7] (fun i wr => ∃ k : Nat, k ≤ len ∧ i = .int .i64 k ∧ Ext W wr ∧ Hid ((l.take k).any (hfit house r) = false)) (fun i _ => len - (intOf i).toNat)
  case atStart => exact ⟨0, Nat.zero_le _, rfl, Ext.refl _, rfl⟩
  case round =>
    obtain ⟨k, hk, rfl, hE, HT⟩ := hrel
    have hE' := hE0.trans hE
    by_cases hlt : k < len
    · obtain ⟨d, hd, b, off, ys, rfl, hys, hcell, hrd⟩ := h.at hE' hlt
      obtain ⟨rfl, g0, g1, g2⟩ := hrd
      have c0 : wr.cell? ⟨b, off + k * 3, none⟩ = some _ := hcell 0 _ rfl
      have c1 : wr.cell? ⟨b, off + k * 3 + 1, none⟩ = some _ := hcell 1 _ rfl
      have c2 : wr.cell? ⟨b, off + k * 3 + 2, none⟩ = some _ := hcell 2 _ rfl
      have b0' := (hE.below.cell (p := ⟨w.heap.size, 0, none⟩) (cell_lt b0)).trans b0
      have b1' := (hE.below.cell (p := ⟨w.heap.size, 1, none⟩) (cell_lt b1)).trans b1
      have lb := cell_lt c0
      have lb' := cell_lt b0'
      have HD : Hid (l[k]? = some d) := hd
      clear hcell hys hd b0 b1
      by_cases hh : d.house = house
      · have hh1 : (d.house == house) = true := by simpa using hh
        have HH : Hid (d.house = house) := hh
        clear hh
        cases hr : rin r.f r.b d.r.f d.r.b
        · go_wp2_with (first | (first | (go_at_call 22; refine (sRangeIn_any _ _ _ _ _).mono ?_; rintro _ _ ⟨rfl, x, rfl⟩)) | ((first | refine wp_region_qe (by kernel_rfl) (by kernel_rfl) ?_ | refine wp_region_q (by kernel_rfl) (by kernel_rfl) ?_); (repeat (go_big_quiet_step ((first | (go_at_call 22; first | exact Calls.qb (by assumption) (sRangeIn_any _ _ _ _ _) | exact Calls.q (sRangeIn_any _ _ _ _ _)))))); refine wpQuiet_nil ?_; intro x))
          go_roundw
          case rel => exact ⟨k + 1, by omega, by go_num, (by first | exact hE | exact hE.ext _ | exact hE.trans (by repeat (first | with_reducible exact Ext.refl _ | with_reducible apply Ext.and | with_reducible apply Ext.drewx | with_reducible apply Ext.alloc | with_reducible apply Ext.ext | with_reducible apply Ext.drew | with_reducible refine Ext.setCell ?_ (by simp) _))), any_succ HT.out HD.out (by simp [hfit, hr])⟩
          case measure => simp [intOf]; omega
        · go_wp2_with (first | (first | (go_at_call 22; refine (sRangeIn_any _ _ _ _ _).mono ?_; rintro _ _ ⟨rfl, x, rfl⟩)) | ((first | refine wp_region_qe (by kernel_rfl) (by kernel_rfl) ?_ | refine wp_region_q (by kernel_rfl) (by kernel_rfl) ?_); (repeat (go_big_quiet_step ((first | (go_at_call 22; first | exact Calls.qb (by assumption) (sRangeIn_any _ _ _ _ _) | exact Calls.q (sRangeIn_any _ _ _ _ _)))))); refine wpQuiet_nil ?_; intro x))
          go_ret
          exact ⟨ret_bool (any_at HD.out (by simp [hfit, hr, HH.out])).symm, hE0.trans (by first | exact hE | exact hE.ext _ | exact hE.trans (by repeat (first | with_reducible exact Ext.refl _ | with_reducible apply Ext.and | with_reducible apply Ext.drewx | with_reducible apply Ext.alloc | with_reducible apply Ext.ext | with_reducible apply Ext.drew | with_reducible refine Ext.setCell ?_ (by simp) _)))⟩
      · have hh1 : (d.house == house) = false := by simpa using hh
        have HH : Hid (¬ d.house = house) := hh
        clear hh
        go_wp2_with (first | (first | (go_at_call 22; refine (sRangeIn_any _ _ _ _ _).mono ?_; rintro _ _ ⟨rfl, x, rfl⟩)) | ((first | refine wp_region_qe (by kernel_rfl) (by kernel_rfl) ?_ | refine wp_region_q (by kernel_rfl) (by kernel_rfl) ?_); (repeat (go_big_quiet_step ((first | (go_at_call 22; first | exact Calls.qb (by assumption) (sRangeIn_any _ _ _ _ _) | exact Calls.q (sRangeIn_any _ _ _ _ _)))))); refine wpQuiet_nil ?_; intro x))
        go_roundw
        case rel => exact ⟨k + 1, by omega, by go_num, (by first | exact hE | exact hE.ext _ | exact hE.trans (by repeat (first | with_reducible exact Ext.refl _ | with_reducible apply Ext.and | with_reducible apply Ext.drewx | with_reducible apply Ext.alloc | with_reducible apply Ext.ext | with_reducible apply Ext.drew | with_reducible refine Ext.setCell ?_ (by simp) _))), any_succ HT.out HD.out (by simp [hfit, HH.out])⟩
        case measure => simp [intOf]; omega
    · obtain rfl : k = len := by omega
      go_wp2_with (first | ((first | refine wp_region_qe (by kernel_rfl) (by kernel_rfl) ?_ | refine wp_region_q (by kernel_rfl) (by kernel_rfl) ?_); (repeat (go_big_quiet_step (fail))); refine wpQuiet_nil ?_; intro x))
      go_ret
      exact ⟨ret_bool (by have := HT.out; rwa [List.take_of_length_le (Nat.le_of_eq HL.out), eq_comm] at this), hE0.trans (by first | exact hE | exact hE.ext _ | exact hE.trans (by repeat (first | with_reducible exact Ext.refl _ | with_reducible apply Ext.and | with_reducible apply Ext.drewx | with_reducible apply Ext.alloc | with_reducible apply Ext.ext | with_reducible apply Ext.drew | with_reducible refine Ext.setCell ?_ (by simp) _)))⟩

set_option maxHeartbeats 1000000 in
theorem holdFn_any (house : Int) (r : Rg) (d : Hd) (b1 b2 : Nat) (w : World) (h1 : w.cell? ⟨b1, 0, none⟩ = some (.int .i64 house)) (h2 : w.cell? ⟨b2, 0, none⟩ = some (.int .i64 r.f)) (h3 : w.cell? ⟨b2, 1, none⟩ = some (.int .i64 r.b)) :
    Calls Try.prog 54 #[.agg #[.int .i64 d.house, .int .i64 d.r.f, .int .i64 d.r.b], .pointer (some ⟨b1, 0, none⟩), .pointer (some ⟨b2, 0, none⟩)] w fun e w' => e = .returned (.bool (hfit house r d)) ∧ Ext w w' := by
  have l1 := cell_lt h1
  have l2 := cell_lt h2
  by_cases hh : d.house = house
  · have hh1 : (d.house == house) = true := by simpa using hh
    go_enter Try.func54, Try.ntmps54
    go_wp2_with (first | (first | (go_at_call 23; refine (iRangeIn_any _ _ _ _ _).mono ?_; rintro _ _ ⟨rfl, x, rfl⟩)) | ((first | refine wp_region_qe (by kernel_rfl) (by kernel_rfl) ?_ | refine wp_region_q (by kernel_rfl) (by kernel_rfl) ?_); (repeat (go_big_quiet_step ((first | (go_at_call 23; first | exact Calls.qb (by assumption) (iRangeIn_any _ _ _ _ _) | exact Calls.q (iRangeIn_any _ _ _ _ _)))))); refine wpQuiet_nil ?_; intro x))
    go_ret
    exact ⟨ret_bool (by simp [hfit, hh]), (by repeat (first | with_reducible exact Ext.refl _ | with_reducible apply Ext.and | with_reducible apply Ext.drewx | with_reducible apply Ext.alloc | with_reducible apply Ext.ext | with_reducible apply Ext.drew | with_reducible refine Ext.setCell ?_ (by simp) _))⟩
  · have hh1 : (d.house == house) = false := by simpa using hh
    go_enter Try.func54, Try.ntmps54
    go_wp2_with (first | (first | (go_at_call 23; refine (iRangeIn_any _ _ _ _ _).mono ?_; rintro _ _ ⟨rfl, x, rfl⟩)) | ((first | refine wp_region_qe (by kernel_rfl) (by kernel_rfl) ?_ | refine wp_region_q (by kernel_rfl) (by kernel_rfl) ?_); (repeat (go_big_quiet_step ((first | (go_at_call 23; first | exact Calls.qb (by assumption) (iRangeIn_any _ _ _ _ _) | exact Calls.q (iRangeIn_any _ _ _ _ _)))))); refine wpQuiet_nil ?_; intro x))
    go_ret
    exact ⟨ret_bool (by simp [hfit, hh]), (by repeat (first | with_reducible exact Ext.refl _ | with_reducible apply Ext.and | with_reducible apply Ext.drewx | with_reducible apply Ext.alloc | with_reducible apply Ext.ext | with_reducible apply Ext.drew | with_reducible refine Ext.setCell ?_ (by simp) _))⟩

theorem callBody {P : Program} {f : FuncId} {fn : Func} (hf : P.funcs[f]? = some fn) (hn : (fn.name == "runtime.NumGoroutine") = false) (hb : fn.body.isNone = false) (args : Array Value) (w : World) :
    (callFunc f args).run P w = .ok (.enter f args) w := by
  have h1 : fn.name ≠ "runtime.NumGoroutine" := by simpa using hn
  have h2 : fn.body ≠ none := by intro e; rw [e] at hb; cases hb
  simp [callFunc, hf, h1, h2]

/-- Where the first is that a function of the program says yes to; -1: none. -/
def findI {α : Type} (p : α → Bool) (l : List α) : Int := if l.any p = true then (l.findIdx p : Int) else -1
theorem findI_no {α : Type} {p : α → Bool} {l : List α} (h : l.any p = false) : findI p l = -1 := by simp [findI, h]
theorem findI_at {α : Type} {p : α → Bool} {l : List α} {k : Nat} {d : α} (h : (l.take k).any p = false) (hd : l[k]? = some d) (hp : p d = true) : findI p l = k := by
  have hk := (List.getElem?_eq_some_iff.1 hd).1
  have hdk : l[k] = d := (List.getElem?_eq_some_iff.1 hd).2
  have : l.findIdx p = k := by
    rw [List.findIdx_eq hk]
    refine ⟨by rw [hdk]; exact hp, fun j hj => ?_⟩
    have h1 : l[j] ∈ l.take k := List.mem_take_iff_getElem.2 ⟨j, by omega, rfl⟩
    have := List.any_eq_false.1 h _ h1
    simpa using this
  simp [findI, any_at hd hp, this]

set_option maxHeartbeats 1000000 in
theorem indexHold_any (a : Option Addr) (len cap : Nat) (l : List Hd) (p : Hd → Bool) (g : FuncId) (cs : Array Value) (w : World) (hg : ∀ args w, (callFunc g args).run Try.prog w = .ok (.enter g args) w) (h : SlRd w a len cap l)
    (hf : ∀ (w' : World) (d : Hd), Ext w w' → Calls Try.prog g (#[.agg #[.int .i64 d.house, .int .i64 d.r.f, .int .i64 d.r.b]] ++ cs) w' fun e w2 => e = .returned (.bool (p d)) ∧ Ext w' w2) :
    Calls Try.prog 58 #[.slice a len cap, .func (.func g) #[] cs] w fun e w' => e = .returned (.int .i64 (findI p l)) ∧ Ext w w' := by
  have hm := h.2.2.1
  have hlc := h.2.1
  have HL : Hid (l.length = len) := h.1
  have HF : Hid (∀ (w' : World) (d : Hd), Ext w w' → Calls Try.prog g (#[.agg #[.int .i64 d.house, .int .i64 d.r.f, .int .i64 d.r.b]] ++ cs) w' fun e w2 => e = .returned (.bool (p d)) ∧ Ext w' w2) := hf
  clear hf
  unfold maxLen at hm
  go_enter Try.func58, Try.ntmps58
  go_wp2_with fail
  go_loopw [8] (fun i wr => ∃ k : Nat, k ≤ len ∧ i = .int .i64 k ∧ Ext w wr ∧ Hid ((l.take k).any p = false)) (fun i _ => len - (intOf i).toNat)
  case atStart => exact ⟨0, Nat.zero_le _, rfl, Ext.refl _, rfl⟩
  case round =>
    obtain ⟨k, hk, rfl, hE, HT⟩ := hrel
    by_cases hlt : k < len
    · obtain ⟨d, hd, b, off, ys, rfl, hys, hcell, hrd⟩ := h.at hE hlt
      obtain ⟨rfl, g0, g1, g2⟩ := hrd
      have c0 : wr.cell? ⟨b, off + k * 3, none⟩ = some _ := hcell 0 _ rfl
      have c1 : wr.cell? ⟨b, off + k * 3 + 1, none⟩ = some _ := hcell 1 _ rfl
      have c2 : wr.cell? ⟨b, off + k * 3 + 2, none⟩ = some _ := hcell 2 _ rfl
      have lb := cell_lt c0
      have HD : Hid (l[k]? = some d) := hd
      clear hcell hys hd
      cases hp : p d
      · go_wp2_with (first | (refine (HF.out _ _ (by first | exact hE | exact hE.ext _ | exact hE.trans (by repeat (first | with_reducible exact Ext.refl _ | with_reducible apply Ext.and | with_reducible apply Ext.drewx | with_reducible apply Ext.alloc | with_reducible apply Ext.ext | with_reducible apply Ext.drew | with_reducible refine Ext.setCell ?_ (by simp) _)))).mono ?_; rintro _ _ ⟨rfl, x, rfl⟩))
        go_roundw
        case rel => exact ⟨k + 1, by omega, by go_num, (by first | exact hE | exact hE.ext _ | exact hE.trans (by repeat (first | with_reducible exact Ext.refl _ | with_reducible apply Ext.and | with_reducible apply Ext.drewx | with_reducible apply Ext.alloc | with_reducible apply Ext.ext | with_reducible apply Ext.drew | with_reducible refine Ext.setCell ?_ (by simp) _))), any_succ HT.out HD.out hp⟩
        case measure => simp [intOf]; omega
      · go_wp2_with (first | (refine (HF.out _ _ (by first | exact hE | exact hE.ext _ | exact hE.trans (by repeat (first | with_reducible exact Ext.refl _ | with_reducible apply Ext.and | with_reducible apply Ext.drewx | with_reducible apply Ext.alloc | with_reducible apply Ext.ext | with_reducible apply Ext.drew | with_reducible refine Ext.setCell ?_ (by simp) _)))).mono ?_; rintro _ _ ⟨rfl, x, rfl⟩))
        go_ret
        exact ⟨ret_int (findI_at HT.out HD.out hp).symm, (by first | exact hE | exact hE.ext _ | exact hE.trans (by repeat (first | with_reducible exact Ext.refl _ | with_reducible apply Ext.and | with_reducible apply Ext.drewx | with_reducible apply Ext.alloc | with_reducible apply Ext.ext | with_reducible apply Ext.drew | with_reducible refine Ext.setCell ?_ (by simp) _)))⟩
    · obtain rfl : k = len := by omega
      go_wp2_with (first | ((first | refine wp_region_qe (by kernel_rfl) (by kernel_rfl) ?_ | refine wp_region_q (by kernel_rfl) (by kernel_rfl) ?_); (repeat (go_big_quiet_step (fail))); refine wpQuiet_nil ?_; intro x))
      go_ret
      exact ⟨ret_int (by have := HT.out; rw [List.take_of_length_le (Nat.le_of_eq HL.out)] at this; exact (findI_no this).symm), (by first | exact hE | exact hE.ext _ | exact hE.trans (by repeat (first | with_reducible exact Ext.refl _ | with_reducible apply Ext.and | with_reducible apply Ext.drewx | with_reducible apply Ext.alloc | with_reducible apply Ext.ext | with_reducible apply Ext.drew | with_reducible refine Ext.setCell ?_ (by simp) _)))⟩

theorem findI_ge {α : Type} (p : α → Bool) (l : List α) : decide (0 ≤ findI p l) = l.any p := by
  unfold findI
  cases h : l.any p <;> simp
set_option maxHeartbeats 1000000 in
theorem containsHold_any (a : Option Addr) (len cap : Nat) (l : List Hd) (p : Hd → Bool) (g : FuncId) (cs : Array Value) (w : World) (hg : ∀ args w, (callFunc g args).run Try.prog w = .ok (.enter g args) w) (h : SlRd w a len cap l)
    (hf : ∀ (w' : World) (d : Hd), Ext w w' → Calls Try.prog g (#[.agg #[.int .i64 d.house, .int .i64 d.r.f, .int .i64 d.r.b]] ++ cs) w' fun e w2 => e = .returned (.bool (p d)) ∧ Ext w' w2) :
    Calls Try.prog 53 #[.slice a len cap, .func (.func g) #[] cs] w fun e w' => e = .returned (.bool (l.any p)) ∧ Ext w w' := by
  have H := indexHold_any a len cap l p g cs w hg h hf
  have H := hidden H
  clear hg hf
  rw [← findI_ge]
  go_enter Try.func53, Try.ntmps53
  go_wp2_with (first | (go_at_call 58; refine H.out.mono ?_; rintro _ _ ⟨rfl, x, rfl⟩))
  all_goals
    go_ret
    exact ⟨ret_bool (by simp [*]), (by repeat (first | with_reducible exact Ext.refl _ | with_reducible apply Ext.and | with_reducible apply Ext.drewx | with_reducible apply Ext.alloc | with_reducible apply Ext.ext | with_reducible apply Ext.drew | with_reducible refine Ext.setCell ?_ (by simp) _))⟩

set_option maxHeartbeats 1000000 in
theorem iHoldHas_any (a : Option Addr) (len cap : Nat) (l : List Hd) (house : Int) (r : Rg) (w : World) (h : SlRd w a len cap l) :
    Calls Try.prog 35 #[.slice a len cap, .int .i64 house, .agg #[.int .i64 r.f, .int .i64 r.b]] w fun e w' => e = .returned (.bool (l.any (hfit house r))) ∧ Ext w w' := by
  go_enter Try.func35, Try.ntmps35
  go_wp2_with (first | (go_at_call 53; refine (containsHold_any _ _ _ l (hfit house r) 54 _ _ (callBody Try.func54 (by kernel_rfl) (by kernel_rfl)) (h.stays ((by repeat (first | with_reducible exact Ext.refl _ | with_reducible apply Ext.and | with_reducible apply Ext.drewx | with_reducible apply Ext.alloc | with_reducible apply Ext.ext | with_reducible apply Ext.drew | with_reducible refine Ext.setCell ?_ (by simp) _)) : Ext _ _).below) ?_).mono ?_; rotate_left; rintro _ _ ⟨rfl, x, rfl⟩))
  · go_ret
    exact ⟨rfl, (by repeat (first | with_reducible exact Ext.refl _ | with_reducible apply Ext.and | with_reducible apply Ext.drewx | with_reducible apply Ext.alloc | with_reducible apply Ext.ext | with_reducible apply Ext.drew | with_reducible refine Ext.setCell ?_ (by simp) _))⟩
  · intro w' d hE
    exact holdFn_any house r d _ _ w' ((hE.below.cell (p := ⟨_, 0, none⟩) (by simp)).trans (by go_simp)) ((hE.below.cell (p := ⟨_, 0, none⟩) (by simp)).trans (by go_simp)) ((hE.below.cell (p := ⟨_, 1, none⟩) (by simp)).trans (by go_simp))

end Go.Proofs.Ytofblgnoogbmhaa
