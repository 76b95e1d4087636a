/- What houses are to each other: which tables are valid. No condition. -/
import Derived.Test.YtddeecfhggfnkaaCopy
import Derived.Test.YtddeecfhggfnkaaRelsP
namespace Go.Proofs.Ytddeecfhggfnkaa
open Go Go.RowKit

theorem below_succ {p : Nat → Prop} {i : Nat} (h : ∀ j, j < i → p j) (hi : p i) : ∀ j, j < i + 1 → p j := fun j hj => by
  rcases Nat.lt_or_ge j i with h1 | h1
  · exact h j h1
  · obtain rfl : j = i := by omega
    exact hi

set_option maxHeartbeats 400000 in
theorem l12Back_any (r : Int) (h0 : 0 ≤ r) (h3 : r ≤ 3) (w : World) : Calls Try.prog 52 #[.int .i64 r] w fun e w' => e = .returned (.int .i64 (bk r)) ∧ Ext w w' := by
  obtain rfl | rfl | rfl | rfl : r = 0 ∨ r = 1 ∨ r = 2 ∨ r = 3 := by omega
  all_goals
    go_enter Try.func52, Try.ntmps52
    go_wp2_with (first | ((first | with_reducible refine wp_region_qe (by kernel_rfl) (by kernel_rfl) ?_ | with_reducible refine wp_region_q (by kernel_rfl) (by kernel_rfl) ?_); (repeat (go_big_quiet_step (fail))); refine wpQuiet_nil ?_; intro x))
    go_ret
    exact ⟨rfl, (by repeat (first | with_reducible exact Ext.refl _ | with_reducible apply Ext.and | with_reducible apply Ext.drewx | with_reducible apply Ext.alloc | with_reducible apply Ext.ext | with_reducible apply Ext.drew | with_reducible refine Ext.setCell ?_ (by simp) _))⟩

set_option maxHeartbeats 1000000 in
theorem sRelsOk_any (a : Option Addr) (len cap : Nat) (m : List (List Int)) (w : World) (h : SlRd w a len cap m) :
    Calls Try.prog 15 #[.slice a len cap] w fun e w' => e = .returned (.bool (rls m)) ∧ Ext w w' := by
  have hm := h.2.2.1
  have hlc := h.2.1
  have hl := h.1
  unfold maxLen at hm
  have HL : Hid (m.length = len) := hl
  clear hl
  go_enter Try.func15, Try.ntmps15
  go_wp2_with fail
  go_loopw [3] (fun i wr => ∃ k : Nat, k ≤ len ∧ i = .int .i64 k ∧ Ext w wr ∧ Hid (∀ j, j < k → (m.getD j []).length = m.length ∧ ∀ t, t < m.length → cg m j t)) (fun i _ => len - (intOf i).toNat)
  case atStart => exact ⟨0, Nat.zero_le _, rfl, Ext.refl _, fun j hj => absurd hj (Nat.not_lt_zero _)⟩
  case round =>
    obtain ⟨i, hi, rfl, hE, HT⟩ := hrel
    by_cases hlt : i < len
    · obtain ⟨d, hd, b, off, ys, rfl, hys, hcell, hrd⟩ := h.at hE hlt
      obtain ⟨a1, n1, c1, rfl, g1⟩ := hrd
      have c0 : wr.cell? ⟨b, off + i, none⟩ = some (.slice a1 n1 c1) := by have := hcell 0 _ rfl; simpa [Lay.n] using this
      have lb := cell_lt c0
      have HD : Hid (m[i]? = some d) := hd
      clear hcell hys hd
      by_cases hn : n1 = len
      · subst hn
        have HR : Hid ((m.getD i []).length = m.length) := by
          have h1 := g1.1; have h2 := HD.out; have h3 := HL.out
          rw [show m.getD i [] = d from row_at h2]; unfold Hid; omega
        obtain ⟨w1, rfl⟩ : ∃ w1, w1 = wr := ⟨wr, rfl⟩
        go_wp2_with (first | ((first | with_reducible refine wp_region_qe (by kernel_rfl) (by kernel_rfl) ?_ | with_reducible refine wp_region_q (by kernel_rfl) (by kernel_rfl) ?_); (repeat (go_big_quiet_step (fail))); refine wpQuiet_nil ?_; intro x))
        go_loopw [4] (fun i2 wr => ∃ k : Nat, k ≤ n1 ∧ i2 = .int .i64 k ∧ Ext w1 wr ∧ Hid (∀ t, t < k → cg m i t)) (fun i2 _ => n1 - (intOf i2).toNat)
        case atStart => exact ⟨0, Nat.zero_le _, rfl, Ext.refl _, fun j hj => absurd hj (Nat.not_lt_zero _)⟩
        case round =>
          obtain ⟨k, hk, rfl, hE2, HT2⟩ := hrel
          by_cases hlt2 : k < n1
          · have c0' : wr.cell? ⟨b, off + i, none⟩ = some (.slice a1 n1 c1) := (hE2.below.cell (p := ⟨b, off + i, none⟩) lb).trans c0
            obtain ⟨v, hv, b3, off3, ys, rfl, hys, hcell, hrd⟩ := (g1.stays hE2.below).at (Ext.refl _) hlt2
            obtain ⟨rfl, wv⟩ := hrd
            have q1 : wr.cell? ⟨b3, off3 + k, none⟩ = some (.int .i64 v) := by have := hcell 0 _ rfl; simpa [Lay.n] using this
            have HV : Hid (gI m i k = v) := gI_at HD.out hv
            clear hcell hys hv
            by_cases hik : i = k
            · subst hik
              have lb1 := cell_lt c0'
              have lb3 := cell_lt q1
              have HC : Hid (cg m i i ↔ v = 0) := by
                have h1 := HV.out; have h2 := HR.out
                unfold Hid cg; rw [h1]; constructor
                · intro h3; exact h3.2.2.2.2 rfl
                · rintro rfl; exact ⟨h2, by omega, by omega, by decide, fun _ => rfl⟩
              cases hin : inB v 0 3
              · have HN : Hid (¬ cg m i i) := fun h1 => by have := HC.out.1 h1; subst this; cases hin
                go_wp2_with (first | (first | (go_at_call 51; (with_reducible refine (l6In_any _ _ _ _).mono ?_); rintro _ _ ⟨rfl, x, rfl⟩)) | ((first | with_reducible refine wp_region_qe (by kernel_rfl) (by kernel_rfl) ?_ | with_reducible refine wp_region_q (by kernel_rfl) (by kernel_rfl) ?_); (repeat (go_big_quiet_step ((first | (go_at_call 51; first | with_reducible exact Calls.qb (by assumption) (l6In_any _ _ _ _) | with_reducible exact Calls.q (l6In_any _ _ _ _)))))); refine wpQuiet_nil ?_; intro x))
                go_ret
                exact ⟨ret_bool (rls_no (by have := HL.out; omega) (by have := HL.out; omega) HN.out).symm, (hE.trans hE2).trans (by repeat (first | with_reducible exact Ext.refl _ | with_reducible apply Ext.and | with_reducible apply Ext.drewx | with_reducible apply Ext.alloc | with_reducible apply Ext.ext | with_reducible apply Ext.drew | with_reducible refine Ext.setCell ?_ (by simp) _))⟩
              · have hv3 := inB_true.1 hin
                by_cases hbv : v = bk v
                · have hb1 : (v != bk v) = false := by simpa using hbv
                  have HB : Hid (v = bk v) := hbv
                  clear hbv
                  by_cases hv0 : v = 0
                  · have hv1 : (v != 0) = false := by simpa using hv0
                    have HN : Hid (cg m i i) := HC.out.2 hv0
                    clear hv0
                    go_wp2_with (first | (first | (go_at_call 51; (with_reducible refine (l6In_any _ _ _ _).mono ?_); rintro _ _ ⟨rfl, x, rfl⟩) | (go_at_call 52; (with_reducible refine (l12Back_any _ hv3.1 hv3.2 _).mono ?_); rintro _ _ ⟨rfl, x, rfl⟩)) | ((first | with_reducible refine wp_region_qe (by kernel_rfl) (by kernel_rfl) ?_ | with_reducible refine wp_region_q (by kernel_rfl) (by kernel_rfl) ?_); (repeat (go_big_quiet_step ((first | (go_at_call 51; first | with_reducible exact Calls.qb (by assumption) (l6In_any _ _ _ _) | with_reducible exact Calls.q (l6In_any _ _ _ _)) | (go_at_call 52; first | with_reducible exact Calls.qb (by assumption) (l12Back_any _ hv3.1 hv3.2 _) | with_reducible exact Calls.q (l12Back_any _ hv3.1 hv3.2 _)))))); refine wpQuiet_nil ?_; intro x))
                    go_roundw
                    case rel => exact ⟨i + 1, by omega, by go_num, hE2.trans (by repeat (first | with_reducible exact Ext.refl _ | with_reducible apply Ext.and | with_reducible apply Ext.drewx | with_reducible apply Ext.alloc | with_reducible apply Ext.ext | with_reducible apply Ext.drew | with_reducible refine Ext.setCell ?_ (by simp) _)), below_succ HT2.out HN.out⟩
                    case measure => simp [intOf]; omega
                  · have hv1 : (v != 0) = true := by simpa using hv0
                    have HN : Hid (¬ cg m i i) := fun h1 => hv0 (HC.out.1 h1)
                    clear hv0
                    go_wp2_with (first | (first | (go_at_call 51; (with_reducible refine (l6In_any _ _ _ _).mono ?_); rintro _ _ ⟨rfl, x, rfl⟩) | (go_at_call 52; (with_reducible refine (l12Back_any _ hv3.1 hv3.2 _).mono ?_); rintro _ _ ⟨rfl, x, rfl⟩)) | ((first | with_reducible refine wp_region_qe (by kernel_rfl) (by kernel_rfl) ?_ | with_reducible refine wp_region_q (by kernel_rfl) (by kernel_rfl) ?_); (repeat (go_big_quiet_step ((first | (go_at_call 51; first | with_reducible exact Calls.qb (by assumption) (l6In_any _ _ _ _) | with_reducible exact Calls.q (l6In_any _ _ _ _)) | (go_at_call 52; first | with_reducible exact Calls.qb (by assumption) (l12Back_any _ hv3.1 hv3.2 _) | with_reducible exact Calls.q (l12Back_any _ hv3.1 hv3.2 _)))))); refine wpQuiet_nil ?_; intro x))
                    go_ret
                    exact ⟨ret_bool (rls_no (by have := HL.out; omega) (by have := HL.out; omega) HN.out).symm, (hE.trans hE2).trans (by repeat (first | with_reducible exact Ext.refl _ | with_reducible apply Ext.and | with_reducible apply Ext.drewx | with_reducible apply Ext.alloc | with_reducible apply Ext.ext | with_reducible apply Ext.drew | with_reducible refine Ext.setCell ?_ (by simp) _))⟩
                · have hb1 : (v != bk v) = true := by simpa using hbv
                  have HN : Hid (¬ cg m i i) := fun h1 => hbv (by have := HC.out.1 h1; subst this; rfl)
                  clear hbv
                  go_wp2_with (first | (first | (go_at_call 51; (with_reducible refine (l6In_any _ _ _ _).mono ?_); rintro _ _ ⟨rfl, x, rfl⟩) | (go_at_call 52; (with_reducible refine (l12Back_any _ hv3.1 hv3.2 _).mono ?_); rintro _ _ ⟨rfl, x, rfl⟩)) | ((first | with_reducible refine wp_region_qe (by kernel_rfl) (by kernel_rfl) ?_ | with_reducible refine wp_region_q (by kernel_rfl) (by kernel_rfl) ?_); (repeat (go_big_quiet_step ((first | (go_at_call 51; first | with_reducible exact Calls.qb (by assumption) (l6In_any _ _ _ _) | with_reducible exact Calls.q (l6In_any _ _ _ _)) | (go_at_call 52; first | with_reducible exact Calls.qb (by assumption) (l12Back_any _ hv3.1 hv3.2 _) | with_reducible exact Calls.q (l12Back_any _ hv3.1 hv3.2 _)))))); refine wpQuiet_nil ?_; intro x))
                  go_ret
                  exact ⟨ret_bool (rls_no (by have := HL.out; omega) (by have := HL.out; omega) HN.out).symm, (hE.trans hE2).trans (by repeat (first | with_reducible exact Ext.refl _ | with_reducible apply Ext.and | with_reducible apply Ext.drewx | with_reducible apply Ext.alloc | with_reducible apply Ext.ext | with_reducible apply Ext.drew | with_reducible refine Ext.setCell ?_ (by simp) _))⟩
            · have hik1 : ((i : Int) == (k : Int)) = false := by simp; omega
              obtain ⟨e, he, b2, off2, ys, hbb, hys, hcell, hrd⟩ := h.at (hE.trans hE2) hlt2
              obtain ⟨rfl, rfl⟩ : b = b2 ∧ off = off2 := by simpa using hbb
              obtain ⟨a2, n2, c2, rfl, g2⟩ := hrd
              have q0 : wr.cell? ⟨b, off + k, none⟩ = some (.slice a2 n2 c2) := by have := hcell 0 _ rfl; simpa [Lay.n] using this
              have HK : Hid (m[k]? = some e) := he
              clear hcell hys he hbb
              have lb1 := cell_lt c0'
              have lb3 := cell_lt q1
              have HI : Hid (¬ i = k) := hik
              clear hik
              by_cases hn2 : n2 = n1
              · obtain ⟨u, hu, b4, off4, ys, rfl, hys, hcell, hrd⟩ := g2.at (Ext.refl _) (show i < n2 by omega)
                obtain ⟨rfl, wu⟩ := hrd
                have q2 : wr.cell? ⟨b4, off4 + i, none⟩ = some (.int .i64 u) := by have := hcell 0 _ rfl; simpa [Lay.n] using this
                have lb4 := cell_lt q2
                have HC : Hid (cg m i k ↔ 0 ≤ v ∧ v ≤ 3 ∧ u = bk v) := by
                  have h1 := HV.out; have h2 : gI m k i = u := gI_at HK.out hu; have h3 := HI.out
                  have h4 : (m.getD k []).length = m.length := by rw [row_at HK.out, HL.out, g2.1]; exact hn2
                  unfold Hid cg; rw [h1, h2]; constructor
                  · rintro ⟨_, a, b, c, _⟩; exact ⟨a, b, c⟩
                  · rintro ⟨a, b, c⟩; exact ⟨h4, a, b, c, fun h => absurd h h3⟩
                have hn2' : ((n2 : Int) != (n1 : Int)) = false := by simp; omega
                clear hcell hys hu
                cases hin : inB v 0 3
                · have HN : Hid (¬ cg m i k) := fun h1 => by have := HC.out.1 h1; rw [inB_t this.1 this.2.1] at hin; cases hin
                  go_wp2_with (first | (first | (go_at_call 51; (with_reducible refine (l6In_any _ _ _ _).mono ?_); rintro _ _ ⟨rfl, x, rfl⟩)) | ((first | with_reducible refine wp_region_qe (by kernel_rfl) (by kernel_rfl) ?_ | with_reducible refine wp_region_q (by kernel_rfl) (by kernel_rfl) ?_); (repeat (go_big_quiet_step ((first | (go_at_call 51; first | with_reducible exact Calls.qb (by assumption) (l6In_any _ _ _ _) | with_reducible exact Calls.q (l6In_any _ _ _ _)))))); refine wpQuiet_nil ?_; intro x))
                  go_ret
                  exact ⟨ret_bool (rls_no (by have := HL.out; omega) (by have := HL.out; omega) HN.out).symm, (hE.trans hE2).trans (by repeat (first | with_reducible exact Ext.refl _ | with_reducible apply Ext.and | with_reducible apply Ext.drewx | with_reducible apply Ext.alloc | with_reducible apply Ext.ext | with_reducible apply Ext.drew | with_reducible refine Ext.setCell ?_ (by simp) _))⟩
                · have hv3 := inB_true.1 hin
                  by_cases hbv : u = bk v
                  · have hb1 : (u != bk v) = false := by simpa using hbv
                    have HN : Hid (cg m i k) := HC.out.2 ⟨hv3.1, hv3.2, hbv⟩
                    clear hbv
                    go_wp2_with (first | (first | (go_at_call 51; (with_reducible refine (l6In_any _ _ _ _).mono ?_); rintro _ _ ⟨rfl, x, rfl⟩) | (go_at_call 52; (with_reducible refine (l12Back_any _ hv3.1 hv3.2 _).mono ?_); rintro _ _ ⟨rfl, x, rfl⟩)) | ((first | with_reducible refine wp_region_qe (by kernel_rfl) (by kernel_rfl) ?_ | with_reducible refine wp_region_q (by kernel_rfl) (by kernel_rfl) ?_); (repeat (go_big_quiet_step ((first | (go_at_call 51; first | with_reducible exact Calls.qb (by assumption) (l6In_any _ _ _ _) | with_reducible exact Calls.q (l6In_any _ _ _ _)) | (go_at_call 52; first | with_reducible exact Calls.qb (by assumption) (l12Back_any _ hv3.1 hv3.2 _) | with_reducible exact Calls.q (l12Back_any _ hv3.1 hv3.2 _)))))); refine wpQuiet_nil ?_; intro x))
                    go_roundw
                    case rel => exact ⟨k + 1, by omega, by go_num, hE2.trans (by repeat (first | with_reducible exact Ext.refl _ | with_reducible apply Ext.and | with_reducible apply Ext.drewx | with_reducible apply Ext.alloc | with_reducible apply Ext.ext | with_reducible apply Ext.drew | with_reducible refine Ext.setCell ?_ (by simp) _)), below_succ HT2.out HN.out⟩
                    case measure => simp [intOf]; omega
                  · have hb1 : (u != bk v) = true := by simpa using hbv
                    have HN : Hid (¬ cg m i k) := fun h1 => hbv (HC.out.1 h1).2.2
                    clear hbv
                    go_wp2_with (first | (first | (go_at_call 51; (with_reducible refine (l6In_any _ _ _ _).mono ?_); rintro _ _ ⟨rfl, x, rfl⟩) | (go_at_call 52; (with_reducible refine (l12Back_any _ hv3.1 hv3.2 _).mono ?_); rintro _ _ ⟨rfl, x, rfl⟩)) | ((first | with_reducible refine wp_region_qe (by kernel_rfl) (by kernel_rfl) ?_ | with_reducible refine wp_region_q (by kernel_rfl) (by kernel_rfl) ?_); (repeat (go_big_quiet_step ((first | (go_at_call 51; first | with_reducible exact Calls.qb (by assumption) (l6In_any _ _ _ _) | with_reducible exact Calls.q (l6In_any _ _ _ _)) | (go_at_call 52; first | with_reducible exact Calls.qb (by assumption) (l12Back_any _ hv3.1 hv3.2 _) | with_reducible exact Calls.q (l12Back_any _ hv3.1 hv3.2 _)))))); refine wpQuiet_nil ?_; intro x))
                    go_ret
                    exact ⟨ret_bool (rls_no (by have := HL.out; omega) (by have := HL.out; omega) HN.out).symm, (hE.trans hE2).trans (by repeat (first | with_reducible exact Ext.refl _ | with_reducible apply Ext.and | with_reducible apply Ext.drewx | with_reducible apply Ext.alloc | with_reducible apply Ext.ext | with_reducible apply Ext.drew | with_reducible refine Ext.setCell ?_ (by simp) _))⟩
              · have hn2' : ((n2 : Int) != (n1 : Int)) = true := by simp; omega
                have HN : Hid (¬ cg m i k) := fun h1 => hn2 (by have h2 := h1.1; rw [row_at HK.out, HL.out, g2.1] at h2; exact h2)
                go_wp2_with (first | ((first | with_reducible refine wp_region_qe (by kernel_rfl) (by kernel_rfl) ?_ | with_reducible refine wp_region_q (by kernel_rfl) (by kernel_rfl) ?_); (repeat (go_big_quiet_step (fail))); refine wpQuiet_nil ?_; intro x))
                go_ret
                exact ⟨ret_bool (rls_no (by have := HL.out; omega) (by have := HL.out; omega) HN.out).symm, (hE.trans hE2).trans (by repeat (first | with_reducible exact Ext.refl _ | with_reducible apply Ext.and | with_reducible apply Ext.drewx | with_reducible apply Ext.alloc | with_reducible apply Ext.ext | with_reducible apply Ext.drew | with_reducible refine Ext.setCell ?_ (by simp) _))⟩
          · obtain rfl : k = n1 := by omega
            go_wp2_with (first | ((first | with_reducible refine wp_region_qe (by kernel_rfl) (by kernel_rfl) ?_ | with_reducible refine wp_region_q (by kernel_rfl) (by kernel_rfl) ?_); (repeat (go_big_quiet_step (fail))); refine wpQuiet_nil ?_; intro x))
            go_roundw
            case rel => exact ⟨i + 1, by omega, by go_num, hE.trans hE2, fun j hj => below_succ HT.out ⟨HR.out, fun t ht => HT2.out t (by have := HL.out; omega)⟩ j hj⟩
            case measure => simp [intOf]; omega
      · have hn1 : ((n1 : Int) != (len : Int)) = true := by simp; omega
        have HN : Hid (¬ (m.getD i []).length = m.length) := by
          have h1 := g1.1; have h2 := HD.out; have h3 := HL.out
          rw [show m.getD i [] = d from row_at h2]; unfold Hid; omega
        go_wp2_with (first | ((first | with_reducible refine wp_region_qe (by kernel_rfl) (by kernel_rfl) ?_ | with_reducible refine wp_region_q (by kernel_rfl) (by kernel_rfl) ?_); (repeat (go_big_quiet_step (fail))); refine wpQuiet_nil ?_; intro x))
        go_ret
        exact ⟨ret_bool (rls_no_row (by have := HL.out; omega) HN.out).symm, hE.trans (by repeat (first | with_reducible exact Ext.refl _ | with_reducible apply Ext.and | with_reducible apply Ext.drewx | with_reducible apply Ext.alloc | with_reducible apply Ext.ext | with_reducible apply Ext.drew | with_reducible refine Ext.setCell ?_ (by simp) _))⟩
    · obtain rfl : i = len := by omega
      go_wp2_with (first | (first | (go_at_call 51; (with_reducible refine (l6In_any _ _ _ _).mono ?_); rintro _ _ ⟨rfl, x, rfl⟩)) | ((first | with_reducible refine wp_region_qe (by kernel_rfl) (by kernel_rfl) ?_ | with_reducible refine wp_region_q (by kernel_rfl) (by kernel_rfl) ?_); (repeat (go_big_quiet_step ((first | (go_at_call 51; first | with_reducible exact Calls.qb (by assumption) (l6In_any _ _ _ _) | with_reducible exact Calls.q (l6In_any _ _ _ _)))))); refine wpQuiet_nil ?_; intro x))
      go_ret
      exact ⟨ret_bool (by rw [rls_all (by have h1 := HL.out; have h2 := HT.out; rw [← h1] at h2; exact h2), HL.out]), hE.trans (by repeat (first | with_reducible exact Ext.refl _ | with_reducible apply Ext.and | with_reducible apply Ext.drewx | with_reducible apply Ext.alloc | with_reducible apply Ext.ext | with_reducible apply Ext.drew | with_reducible refine Ext.setCell ?_ (by simp) _))⟩

end Go.Proofs.Ytddeecfhggfnkaa
