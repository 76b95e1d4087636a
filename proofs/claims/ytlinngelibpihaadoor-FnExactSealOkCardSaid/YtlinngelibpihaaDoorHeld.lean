/- The laws' own helpers: data written over with numbers, and read back. No condition. -/
import Derived.Test.YtlinngelibpihaaDoorCopy
import Derived.Test.YtlinngelibpihaaDoorMark
namespace Go.Proofs.YtlinngelibpihaaDoor
open Go Go.RowKit

set_option maxHeartbeats 2000000 in
theorem mark_Lint (a : Option Addr) (len cap : Nat) (l : (List Int)) (fp : List Nat) (k : Int) (w : World) (h : OwSl w a len cap l fp) (hnd : fp.Nodup) (hk0 : 0 ≤ k) (hk1 : k + (cntL l : Nat) ≤ 4611686018427387904) :
    Calls Tryd.prog 32 #[.slice a len cap, .int .i64 k] w fun e w' => e = .returned (.int .i64 (k + (cntL l : Nat))) ∧ Chg fp w w' ∧ OwSl w' a len cap (mkL l k) fp := by
  have hm := h.2.2.1
  have hlc := h.2.1
  have HL := hidden h.1
  have HN := hidden hnd
  have H := hidden h
  clear h hnd
  unfold maxLen at hm
  go_enter Tryd.func32, Tryd.ntmps32
  go_wp2_with fail
  go_loopw [5, 1] (fun i kk wr => ∃ j : Nat, j ≤ len ∧ i = .int .i64 j ∧ (∃ q : Int, kk = .int .i64 q ∧ q = k + (cntL (l.take j) : Nat)) ∧ Hid (Chg fp w wr) ∧ Hid (OwSl wr a len cap (mkP l k j) fp)) (fun i _ _ => len - (intOf i).toNat)
  case atStart => exact ⟨0, Nat.zero_le _, rfl, ⟨k, rfl, by simp [cntL]⟩, Chg.refl, by rw [mkP_zero]; exact H.out⟩
  case round =>
    obtain ⟨j, hj, rfl, ⟨q, rfl, hq⟩, HC, HO⟩ := hrel
    by_cases hlt : j < len
    · obtain ⟨d, hd⟩ : ∃ d, l[j]? = some d := ⟨_, List.getElem?_eq_getElem (by have := HL.out; omega)⟩
      obtain ⟨b, e, cs, f, ys, rfl, hB, hbf, hy, hE, hroom, ho, hfn, hff, hbnf, hset⟩ := HO.out.open HN.out (mkP_at hd)
      have hcl := cntL_take hd
      have hcl2 := cntL_le l (j + 1)
      have hm0 : mkP l k (j + 1) = (mkP l k j).set j (Mk.ov d q) := by rw [hq]; exact (mkP_step hd).symm
      have hcd : Mk.cnt d = 1 := rfl
      rw [hcd] at hcl
      clear hcd
      have hq0 : 0 ≤ q := by omega
      have hq1 : q + (1 : Nat) ≤ 4611686018427387904 := by omega
      have HQ : Hid (q + (1 : Nat) = k + (cntL (l.take (j + 1)) : Nat)) := by show q + (1 : Nat) = _; omega
      clear hcl hcl2 hq
      obtain ⟨⟨rfl, g0⟩, rfl⟩ := ho
      simp only [Lay.n, Nat.mul_one] at hset hroom
      have hroom' : j + 1 ≤ cs.length := hroom
      have e0 : cs[j]? = some (.int .i64 d) := by have := hE 0 _ rfl; simpa [Lay.n] using this
      have c0 : _ := hB.cell e0
      have z0 := hB.frozen (j)
      have lb := hB.lt
      have E0 := hidden e0
      have HB := hidden hB
      have HS := hidden hset
      have HFF := hidden hff
      have HBF := hidden hbf
      have HR := hidden hroom
      have HM := hidden hm0
      clear hB hset hff hbf hroom hm0 hE hy e0
      go_wp2_with fail
      go_roundw
      case rel =>
        refine ⟨j + 1, by omega, by go_num, ⟨_, rfl, by have := HQ.out; omega⟩, HC.out.trans (Chg.set HBF.out _), ?_⟩
        rw [HM.out]
        exact HS.out _ [_] _ rfl (HB.out.set _ _) ⟨⟨(cons_eq (int_eq (show _ = q from by omega)) rfl), (show I64 (q) from I64.mk (by omega) (by omega))⟩, rfl⟩ (fun x _ hxb _ => Kp.of (by repeat (first | with_reducible exact Kp.refl | with_reducible refine Kp.set ?_ hxb)))
      case measure => simp [intOf]; omega
    · obtain rfl : len = j := by omega
      go_wp2_with fail
      go_ret
      exact ⟨ret_int (by rw [List.take_of_length_le (Nat.le_of_eq HL.out)] at hq; omega), HC.out, by have := HO.out; rwa [mkP_all HL.out] at this⟩

set_option maxHeartbeats 2000000 in
theorem held_Lint (a : Option Addr) (len cap : Nat) (l : (List Int)) (k : Int) (w : World) (h : SlRd w a len cap (mkL l k)) (hk0 : 0 ≤ k) (hk1 : k + (cntL l : Nat) ≤ 4611686018427387904) :
    Calls Tryd.prog 33 #[.slice a len cap, .int .i64 k] w fun e w' => e = .returned (.int .i64 (k + (cntL l : Nat))) ∧ Ext w w' := by
  have hm := h.2.2.1
  have hlc := h.2.1
  have hl : l.length = len := by have := h.1; rwa [length_mkL] at this
  have HL := hidden hl
  clear hl
  unfold maxLen at hm
  go_enter Tryd.func33, Tryd.ntmps33
  go_wp2_with fail
  go_loopw [5, 1] (fun i kk wr => ∃ j : Nat, j ≤ len ∧ i = .int .i64 j ∧ (∃ q : Int, kk = .int .i64 q ∧ q = k + (cntL (l.take j) : Nat)) ∧ Ext w wr) (fun i _ _ => len - (intOf i).toNat)
  case atStart => exact ⟨0, Nat.zero_le _, rfl, ⟨k, rfl, by simp [cntL]⟩, Ext.refl _⟩
  case round =>
    obtain ⟨j, hj, rfl, ⟨q, rfl, hq⟩, hE⟩ := hrel
    by_cases hlt : j < len
    · obtain ⟨d0, hd0⟩ : ∃ d, l[j]? = some d := ⟨_, List.getElem?_eq_getElem (by have := HL.out; omega)⟩
      have hcl := cntL_take hd0
      have hcl2 := cntL_le l (j + 1)
      obtain ⟨d, dhd, db, doff, dys, rfl, dhys, dhcell, dhrd⟩ := h.at hE hlt
      obtain ⟨rfl, dg0⟩ := dhrd
      have dc0 : wr.cell? ⟨db, doff + j, none⟩ = some (.int .i64 d) := by have := dhcell 0 _ rfl; simpa [Lay.n] using this
      have dlb := cell_lt dc0
      have dHD := hidden dhd
      clear dhcell dhys dhd
      have hdd : d = Mk.ov d0 q := by have h1 := dHD.out; rw [mkL_at hd0] at h1; rw [hq]; exact (Option.some.inj h1).symm
      have hcd : Mk.cnt d0 = 1 := rfl
      rw [hcd] at hcl
      clear hcd
      have hq0 : 0 ≤ q := by omega
      have hq1 : q + (1 : Nat) ≤ 4611686018427387904 := by omega
      have HQ : Hid (q + (1 : Nat) = k + (cntL (l.take (j + 1)) : Nat)) := by show q + (1 : Nat) = _; omega
      clear hcl hcl2 hq
      have u0 : d = q := by rw [hdd]; rfl
      rw [u0] at dc0
      clear hdd u0
      go_wp2_with (first | ((first | with_reducible refine wp_region_qe (by kernel_rfl) (by kernel_rfl) ?_ | with_reducible refine wp_region_q (by kernel_rfl) (by kernel_rfl) ?_); (repeat (go_big_quiet_step (fail))); refine wpQuiet_nil ?_; intro x))
      go_roundw
      case rel => exact ⟨j + 1, by omega, by go_num, ⟨_, rfl, by have := HQ.out; omega⟩, (by first | exact hE | exact hE.ext _ | exact hE.trans (by repeat (first | with_reducible exact Ext.refl _ | with_reducible apply Ext.and | with_reducible apply Ext.drewx | with_reducible apply Ext.alloc | with_reducible apply Ext.ext | with_reducible apply Ext.drew | with_reducible refine Ext.setCell ?_ (by simp) _)))⟩
      case measure => simp [intOf]; omega
    · obtain rfl : len = j := by omega
      go_wp2_with (first | ((first | with_reducible refine wp_region_qe (by kernel_rfl) (by kernel_rfl) ?_ | with_reducible refine wp_region_q (by kernel_rfl) (by kernel_rfl) ?_); (repeat (go_big_quiet_step (fail))); refine wpQuiet_nil ?_; intro x))
      go_ret
      exact ⟨ret_int (by rw [List.take_of_length_le (Nat.le_of_eq HL.out)] at hq; omega), (by first | exact hE | exact hE.ext _ | exact hE.trans (by repeat (first | with_reducible exact Ext.refl _ | with_reducible apply Ext.and | with_reducible apply Ext.drewx | with_reducible apply Ext.alloc | with_reducible apply Ext.ext | with_reducible apply Ext.drew | with_reducible refine Ext.setCell ?_ (by simp) _)))⟩















































end Go.Proofs.YtlinngelibpihaaDoor
