/- The laws' own helpers: data written over with numbers, and read back. No condition. -/
import Derived.Test.YtddeecfhggfnkaaCopy
import Derived.Test.YtddeecfhggfnkaaMark
namespace Go.Proofs.Ytddeecfhggfnkaa
open Go Go.RowKit

set_option maxHeartbeats 2000000 in
theorem mark_Lint (a : Option Addr) (len cap : Nat) (l : (List Int)) (fp : List Nat) (k : Int) (w : World) (h : OwSl w a len cap l fp) (hnd : fp.Nodup) (hk0 : 0 ≤ k) (hk1 : k + (cntL l : Nat) ≤ 4611686018427387904) :
    Calls Try.prog 29 #[.slice a len cap, .int .i64 k] w fun e w' => e = .returned (.int .i64 (k + (cntL l : Nat))) ∧ Chg fp w w' ∧ OwSl w' a len cap (mkL l k) fp := by
  have hm := h.2.2.1
  have hlc := h.2.1
  have HL := hidden h.1
  have HN := hidden hnd
  have H := hidden h
  clear h hnd
  unfold maxLen at hm
  go_enter Try.func29, Try.ntmps29
  go_wp2_with fail
  go_loopw [5, 1] (fun i kk wr => ∃ j : Nat, j ≤ len ∧ i = .int .i64 j ∧ (∃ q : Int, kk = .int .i64 q ∧ q = k + (cntL (l.take j) : Nat)) ∧ Hid (Chg fp w wr) ∧ Hid (OwSl wr a len cap (mkP l k j) fp)) (fun i _ _ => len - (intOf i).toNat)
  case atStart => exact ⟨0, Nat.zero_le _, rfl, ⟨k, rfl, by simp [cntL]⟩, Chg.refl, by rw [mkP_zero]; exact H.out⟩
  case round =>
    obtain ⟨j, hj, rfl, ⟨q, rfl, hq⟩, HC, HO⟩ := hrel
    by_cases hlt : j < len
    · obtain ⟨d, hd⟩ : ∃ d, l[j]? = some d := ⟨_, List.getElem?_eq_getElem (by have := HL.out; omega)⟩
      obtain ⟨b, e, cs, f, ys, rfl, hB, hbf, hy, hE, hroom, ho, hfn, hff, hbnf, hset⟩ := HO.out.open HN.out (mkP_at hd)
      have hcl := cntL_take hd
      have hcl2 := cntL_le l (j + 1)
      have hm0 : mkP l k (j + 1) = (mkP l k j).set j (Mk.ov d q) := by rw [hq]; exact (mkP_step hd).symm
      have hcd : Mk.cnt d = 1 := rfl
      rw [hcd] at hcl
      clear hcd
      have hq0 : 0 ≤ q := by omega
      have hq1 : q + (1 : Nat) ≤ 4611686018427387904 := by omega
      have HQ : Hid (q + (1 : Nat) = k + (cntL (l.take (j + 1)) : Nat)) := by show q + (1 : Nat) = _; omega
      clear hcl hcl2 hq
      obtain ⟨⟨rfl, g0⟩, rfl⟩ := ho
      simp only [Lay.n, Nat.mul_one] at hset hroom
      have hroom' : j + 1 ≤ cs.length := hroom
      have e0 : cs[j]? = some (.int .i64 d) := by have := hE 0 _ rfl; simpa [Lay.n] using this
      have c0 : _ := hB.cell e0
      have z0 := hB.frozen (j)
      have lb := hB.lt
      have E0 := hidden e0
      have HB := hidden hB
      have HS := hidden hset
      have HFF := hidden hff
      have HBF := hidden hbf
      have HR := hidden hroom
      have HM := hidden hm0
      clear hB hset hff hbf hroom hm0 hE hy e0
      go_wp2_with fail
      go_roundw
      case rel =>
        refine ⟨j + 1, by omega, by go_num, ⟨_, rfl, by have := HQ.out; omega⟩, HC.out.trans (Chg.set HBF.out _), ?_⟩
        rw [HM.out]
        exact HS.out _ [_] _ rfl (HB.out.set _ _) ⟨⟨(cons_eq (int_eq (show _ = q from by omega)) rfl), (show I64 (q) from I64.mk (by omega) (by omega))⟩, rfl⟩ (fun x _ hxb _ => Kp.of (by repeat (first | with_reducible exact Kp.refl | with_reducible refine Kp.set ?_ hxb)))
      case measure => simp [intOf]; omega
    · obtain rfl : len = j := by omega
      go_wp2_with fail
      go_ret
      exact ⟨ret_int (by rw [List.take_of_length_le (Nat.le_of_eq HL.out)] at hq; omega), HC.out, by have := HO.out; rwa [mkP_all HL.out] at this⟩

set_option maxHeartbeats 2000000 in
theorem held_Lint (a : Option Addr) (len cap : Nat) (l : (List Int)) (k : Int) (w : World) (h : SlRd w a len cap (mkL l k)) (hk0 : 0 ≤ k) (hk1 : k + (cntL l : Nat) ≤ 4611686018427387904) :
    Calls Try.prog 30 #[.slice a len cap, .int .i64 k] w fun e w' => e = .returned (.int .i64 (k + (cntL l : Nat))) ∧ Ext w w' := by
  have hm := h.2.2.1
  have hlc := h.2.1
  have hl : l.length = len := by have := h.1; rwa [length_mkL] at this
  have HL := hidden hl
  clear hl
  unfold maxLen at hm
  go_enter Try.func30, Try.ntmps30
  go_wp2_with fail
  go_loopw [5, 1] (fun i kk wr => ∃ j : Nat, j ≤ len ∧ i = .int .i64 j ∧ (∃ q : Int, kk = .int .i64 q ∧ q = k + (cntL (l.take j) : Nat)) ∧ Ext w wr) (fun i _ _ => len - (intOf i).toNat)
  case atStart => exact ⟨0, Nat.zero_le _, rfl, ⟨k, rfl, by simp [cntL]⟩, Ext.refl _⟩
  case round =>
    obtain ⟨j, hj, rfl, ⟨q, rfl, hq⟩, hE⟩ := hrel
    by_cases hlt : j < len
    · obtain ⟨d0, hd0⟩ : ∃ d, l[j]? = some d := ⟨_, List.getElem?_eq_getElem (by have := HL.out; omega)⟩
      have hcl := cntL_take hd0
      have hcl2 := cntL_le l (j + 1)
      obtain ⟨d, dhd, db, doff, dys, rfl, dhys, dhcell, dhrd⟩ := h.at hE hlt
      obtain ⟨rfl, dg0⟩ := dhrd
      have dc0 : wr.cell? ⟨db, doff + j, none⟩ = some (.int .i64 d) := by have := dhcell 0 _ rfl; simpa [Lay.n] using this
      have dlb := cell_lt dc0
      have dHD := hidden dhd
      clear dhcell dhys dhd
      have hdd : d = Mk.ov d0 q := by have h1 := dHD.out; rw [mkL_at hd0] at h1; rw [hq]; exact (Option.some.inj h1).symm
      have hcd : Mk.cnt d0 = 1 := rfl
      rw [hcd] at hcl
      clear hcd
      have hq0 : 0 ≤ q := by omega
      have hq1 : q + (1 : Nat) ≤ 4611686018427387904 := by omega
      have HQ : Hid (q + (1 : Nat) = k + (cntL (l.take (j + 1)) : Nat)) := by show q + (1 : Nat) = _; omega
      clear hcl hcl2 hq
      have u0 : d = q := by rw [hdd]; rfl
      rw [u0] at dc0
      clear hdd u0
      go_wp2_with (first | ((first | with_reducible refine wp_region_qe (by kernel_rfl) (by kernel_rfl) ?_ | with_reducible refine wp_region_q (by kernel_rfl) (by kernel_rfl) ?_); (repeat (go_big_quiet_step (fail))); refine wpQuiet_nil ?_; intro x))
      go_roundw
      case rel => exact ⟨j + 1, by omega, by go_num, ⟨_, rfl, by have := HQ.out; omega⟩, (by first | exact hE | exact hE.ext _ | exact hE.trans (by repeat (first | with_reducible exact Ext.refl _ | with_reducible apply Ext.and | with_reducible apply Ext.drewx | with_reducible apply Ext.alloc | with_reducible apply Ext.ext | with_reducible apply Ext.drew | with_reducible refine Ext.setCell ?_ (by simp) _)))⟩
      case measure => simp [intOf]; omega
    · obtain rfl : len = j := by omega
      go_wp2_with (first | ((first | with_reducible refine wp_region_qe (by kernel_rfl) (by kernel_rfl) ?_ | with_reducible refine wp_region_q (by kernel_rfl) (by kernel_rfl) ?_); (repeat (go_big_quiet_step (fail))); refine wpQuiet_nil ?_; intro x))
      go_ret
      exact ⟨ret_int (by rw [List.take_of_length_le (Nat.le_of_eq HL.out)] at hq; omega), (by first | exact hE | exact hE.ext _ | exact hE.trans (by repeat (first | with_reducible exact Ext.refl _ | with_reducible apply Ext.and | with_reducible apply Ext.drewx | with_reducible apply Ext.alloc | with_reducible apply Ext.ext | with_reducible apply Ext.drew | with_reducible refine Ext.setCell ?_ (by simp) _)))⟩





set_option maxHeartbeats 2000000 in
theorem mark_LEn (a : Option Addr) (len cap : Nat) (l : (List En)) (fp : List Nat) (k : Int) (w : World) (h : OwSl w a len cap l fp) (hnd : fp.Nodup) (hk0 : 0 ≤ k) (hk1 : k + (cntL l : Nat) ≤ 4611686018427387904) :
    Calls Try.prog 39 #[.slice a len cap, .int .i64 k] w fun e w' => e = .returned (.int .i64 (k + (cntL l : Nat))) ∧ Chg fp w w' ∧ OwSl w' a len cap (mkL l k) fp := by
  have hm := h.2.2.1
  have hlc := h.2.1
  have HL := hidden h.1
  have HN := hidden hnd
  have H := hidden h
  clear h hnd
  unfold maxLen at hm
  go_enter Try.func39, Try.ntmps39
  go_wp2_with fail
  go_loopw [5, 1] (fun i kk wr => ∃ j : Nat, j ≤ len ∧ i = .int .i64 j ∧ (∃ q : Int, kk = .int .i64 q ∧ q = k + (cntL (l.take j) : Nat)) ∧ Hid (Chg fp w wr) ∧ Hid (OwSl wr a len cap (mkP l k j) fp)) (fun i _ _ => len - (intOf i).toNat)
  case atStart => exact ⟨0, Nat.zero_le _, rfl, ⟨k, rfl, by simp [cntL]⟩, Chg.refl, by rw [mkP_zero]; exact H.out⟩
  case round =>
    obtain ⟨j, hj, rfl, ⟨q, rfl, hq⟩, HC, HO⟩ := hrel
    by_cases hlt : j < len
    · obtain ⟨d, hd⟩ : ∃ d, l[j]? = some d := ⟨_, List.getElem?_eq_getElem (by have := HL.out; omega)⟩
      obtain ⟨b, e, cs, f, ys, rfl, hB, hbf, hy, hE, hroom, ho, hfn, hff, hbnf, hset⟩ := HO.out.open HN.out (mkP_at hd)
      have hcl := cntL_take hd
      have hcl2 := cntL_le l (j + 1)
      have hm0 : mkP l k (j + 1) = (mkP l k j).set j (Mk.ov d q) := by rw [hq]; exact (mkP_step hd).symm
      have hcd : Mk.cnt d = 3 := rfl
      rw [hcd] at hcl
      clear hcd
      have hq0 : 0 ≤ q := by omega
      have hq1 : q + (3 : Nat) ≤ 4611686018427387904 := by omega
      have HQ : Hid (q + (3 : Nat) = k + (cntL (l.take (j + 1)) : Nat)) := by show q + (3 : Nat) = _; omega
      clear hcl hcl2 hq
      obtain ⟨⟨rfl, g0, g1, g2⟩, rfl⟩ := ho
      have hroom' : j * 3 + 3 ≤ cs.length := hroom
      have e0 : cs[j * 3]? = some (.int .i64 d.r.f) := by have := hE 0 _ rfl; simpa [Lay.n] using this
      have c0 : _ := hB.cell e0
      have z0 := hB.frozen (j * 3)
      have e1 : cs[j * 3 + 1]? = some (.int .i64 d.r.b) := by have := hE 1 _ rfl; simpa [Lay.n] using this
      have c1 : _ := hB.cell e1
      have z1 := hB.frozen (j * 3 + 1)
      have e2 : cs[j * 3 + 2]? = some (.int .i64 d.via) := by have := hE 2 _ rfl; simpa [Lay.n] using this
      have c2 : _ := hB.cell e2
      have z2 := hB.frozen (j * 3 + 2)
      have lb := hB.lt
      have E0 := hidden e0
      have E1 := hidden e1
      have E2 := hidden e2
      have HB := hidden hB
      have HS := hidden hset
      have HFF := hidden hff
      have HBF := hidden hbf
      have HR := hidden hroom
      have HM := hidden hm0
      clear hB hset hff hbf hroom hm0 hE hy e0 e1 e2
      go_wp2_with fail
      go_roundw
      case rel =>
        refine ⟨j + 1, by omega, by go_num, ⟨_, rfl, by have := HQ.out; omega⟩, HC.out.trans (((Chg.set HBF.out _).trans (Chg.set HBF.out _)).trans (Chg.set HBF.out _)), ?_⟩
        rw [HM.out]
        exact HS.out _ [_, _, _] _ rfl (((HB.out.set _ _).set _ _).set _ _) ⟨⟨(cons_eq (int_eq (show _ = q from by omega)) (cons_eq (int_eq (show _ = q + 1 from by omega)) (cons_eq (int_eq (show _ = q + 2 from by omega)) rfl))), (show I64 (q) from I64.mk (by omega) (by omega)), (show I64 (q + 1) from I64.mk (by omega) (by omega)), (show I64 (q + 2) from I64.mk (by omega) (by omega))⟩, rfl⟩ (fun x _ hxb _ => Kp.of (by repeat (first | with_reducible exact Kp.refl | with_reducible refine Kp.set ?_ hxb)))
      case measure => simp [intOf]; omega
    · obtain rfl : len = j := by omega
      go_wp2_with fail
      go_ret
      exact ⟨ret_int (by rw [List.take_of_length_le (Nat.le_of_eq HL.out)] at hq; omega), HC.out, by have := HO.out; rwa [mkP_all HL.out] at this⟩

set_option maxHeartbeats 2000000 in
theorem held_LEn (a : Option Addr) (len cap : Nat) (l : (List En)) (k : Int) (w : World) (h : SlRd w a len cap (mkL l k)) (hk0 : 0 ≤ k) (hk1 : k + (cntL l : Nat) ≤ 4611686018427387904) :
    Calls Try.prog 40 #[.slice a len cap, .int .i64 k] w fun e w' => e = .returned (.int .i64 (k + (cntL l : Nat))) ∧ Ext w w' := by
  have hm := h.2.2.1
  have hlc := h.2.1
  have hl : l.length = len := by have := h.1; rwa [length_mkL] at this
  have HL := hidden hl
  clear hl
  unfold maxLen at hm
  go_enter Try.func40, Try.ntmps40
  go_wp2_with fail
  go_loopw [5, 1] (fun i kk wr => ∃ j : Nat, j ≤ len ∧ i = .int .i64 j ∧ (∃ q : Int, kk = .int .i64 q ∧ q = k + (cntL (l.take j) : Nat)) ∧ Ext w wr) (fun i _ _ => len - (intOf i).toNat)
  case atStart => exact ⟨0, Nat.zero_le _, rfl, ⟨k, rfl, by simp [cntL]⟩, Ext.refl _⟩
  case round =>
    obtain ⟨j, hj, rfl, ⟨q, rfl, hq⟩, hE⟩ := hrel
    by_cases hlt : j < len
    · obtain ⟨d0, hd0⟩ : ∃ d, l[j]? = some d := ⟨_, List.getElem?_eq_getElem (by have := HL.out; omega)⟩
      have hcl := cntL_take hd0
      have hcl2 := cntL_le l (j + 1)
      obtain ⟨d, dhd, db, doff, dys, rfl, dhys, dhcell, dhrd⟩ := h.at hE hlt
      obtain ⟨rfl, dg0, dg1, dg2⟩ := dhrd
      have dc0 : wr.cell? ⟨db, doff + j * 3, none⟩ = some _ := dhcell 0 _ rfl
      have dc1 : wr.cell? ⟨db, doff + j * 3 + 1, none⟩ = some _ := dhcell 1 _ rfl
      have dc2 : wr.cell? ⟨db, doff + j * 3 + 2, none⟩ = some _ := dhcell 2 _ rfl
      have dlb := cell_lt dc0
      have dHD := hidden dhd
      clear dhcell dhys dhd
      have hdd : d = Mk.ov d0 q := by have h1 := dHD.out; rw [mkL_at hd0] at h1; rw [hq]; exact (Option.some.inj h1).symm
      have hcd : Mk.cnt d0 = 3 := rfl
      rw [hcd] at hcl
      clear hcd
      have hq0 : 0 ≤ q := by omega
      have hq1 : q + (3 : Nat) ≤ 4611686018427387904 := by omega
      have HQ : Hid (q + (3 : Nat) = k + (cntL (l.take (j + 1)) : Nat)) := by show q + (3 : Nat) = _; omega
      clear hcl hcl2 hq
      have u0 : d.r.f = q := by rw [hdd]; rfl
      rw [u0] at dc0
      have u1 : d.r.b = q + 1 := by rw [hdd]; rfl
      rw [u1] at dc1
      have u2 : d.via = q + 2 := by rw [hdd]; rfl
      rw [u2] at dc2
      clear hdd u0 u1 u2
      go_wp2_with (first | ((first | with_reducible refine wp_region_qe (by kernel_rfl) (by kernel_rfl) ?_ | with_reducible refine wp_region_q (by kernel_rfl) (by kernel_rfl) ?_); (repeat (go_big_quiet_step (fail))); refine wpQuiet_nil ?_; intro x))
      go_roundw
      case rel => exact ⟨j + 1, by omega, by go_num, ⟨_, rfl, by have := HQ.out; omega⟩, (by first | exact hE | exact hE.ext _ | exact hE.trans (by repeat (first | with_reducible exact Ext.refl _ | with_reducible apply Ext.and | with_reducible apply Ext.drewx | with_reducible apply Ext.alloc | with_reducible apply Ext.ext | with_reducible apply Ext.drew | with_reducible refine Ext.setCell ?_ (by simp) _)))⟩
      case measure => simp [intOf]; omega
    · obtain rfl : len = j := by omega
      go_wp2_with (first | ((first | with_reducible refine wp_region_qe (by kernel_rfl) (by kernel_rfl) ?_ | with_reducible refine wp_region_q (by kernel_rfl) (by kernel_rfl) ?_); (repeat (go_big_quiet_step (fail))); refine wpQuiet_nil ?_; intro x))
      go_ret
      exact ⟨ret_int (by rw [List.take_of_length_le (Nat.le_of_eq HL.out)] at hq; omega), (by first | exact hE | exact hE.ext _ | exact hE.trans (by repeat (first | with_reducible exact Ext.refl _ | with_reducible apply Ext.and | with_reducible apply Ext.drewx | with_reducible apply Ext.alloc | with_reducible apply Ext.ext | with_reducible apply Ext.drew | with_reducible refine Ext.setCell ?_ (by simp) _)))⟩









set_option maxHeartbeats 2000000 in
theorem mark_LLint (a : Option Addr) (len cap : Nat) (l : (List (List Int))) (fp : List Nat) (k : Int) (w : World) (h : OwSl w a len cap l fp) (hnd : fp.Nodup) (hk0 : 0 ≤ k) (hk1 : k + (cntL l : Nat) ≤ 4611686018427387904) :
    Calls Try.prog 28 #[.slice a len cap, .int .i64 k] w fun e w' => e = .returned (.int .i64 (k + (cntL l : Nat))) ∧ Chg fp w w' ∧ OwSl w' a len cap (mkL l k) fp := by
  have hm := h.2.2.1
  have hlc := h.2.1
  have HL := hidden h.1
  have HN := hidden hnd
  have H := hidden h
  clear h hnd
  unfold maxLen at hm
  go_enter Try.func28, Try.ntmps28
  go_wp2_with fail
  go_loopw [5, 1] (fun i kk wr => ∃ j : Nat, j ≤ len ∧ i = .int .i64 j ∧ (∃ q : Int, kk = .int .i64 q ∧ q = k + (cntL (l.take j) : Nat)) ∧ Hid (Chg fp w wr) ∧ Hid (OwSl wr a len cap (mkP l k j) fp)) (fun i _ _ => len - (intOf i).toNat)
  case atStart => exact ⟨0, Nat.zero_le _, rfl, ⟨k, rfl, by simp [cntL]⟩, Chg.refl, by rw [mkP_zero]; exact H.out⟩
  case round =>
    obtain ⟨j, hj, rfl, ⟨q, rfl, hq⟩, HC, HO⟩ := hrel
    by_cases hlt : j < len
    · obtain ⟨d, hd⟩ : ∃ d, l[j]? = some d := ⟨_, List.getElem?_eq_getElem (by have := HL.out; omega)⟩
      obtain ⟨b, e, cs, f, ys, rfl, hB, hbf, hy, hE, hroom, ho, hfn, hff, hbnf, hset⟩ := HO.out.open HN.out (mkP_at hd)
      have hcl := cntL_take hd
      have hcl2 := cntL_le l (j + 1)
      have hm0 : mkP l k (j + 1) = (mkP l k j).set j (Mk.ov d q) := by rw [hq]; exact (mkP_step hd).symm
      have hcd : Mk.cnt d = cntL d := rfl
      rw [hcd] at hcl
      clear hcd
      have hq0 : 0 ≤ q := by omega
      have hq1 : q + (cntL d : Nat) ≤ 4611686018427387904 := by omega
      have HQ : Hid (q + (cntL d : Nat) = k + (cntL (l.take (j + 1)) : Nat)) := by show q + (cntL d : Nat) = _; omega
      clear hcl hcl2 hq
      obtain ⟨a0, n0, cc0, rfl, o0⟩ := ho
      simp only [Lay.n, Nat.mul_one] at hset hroom
      have hroom' : j + 1 ≤ cs.length := hroom
      have e0 : cs[j]? = some (.slice a0 n0 cc0) := by have := hE 0 _ rfl; simpa [Lay.n] using this
      have c0 : _ := hB.cell e0
      have z0 := hB.frozen (j)
      have lb := hB.lt
      have E0 := hidden e0
      have HB := hidden hB
      have HS := hidden hset
      have HFF := hidden hff
      have HBF := hidden hbf
      have HR := hidden hroom
      have HM := hidden hm0
      clear hB hset hff hbf hroom hm0 hE hy e0
      have O0 := hidden o0
      clear o0
      have hn0 := hfn
      have hb0 := hbnf
      go_wp2_with (first | (first | ((go_at_call 29; (with_reducible refine (mark_Lint _ _ _ d f _ _ (OwSl.frame O0.out (fun x hx => by have hxb := ne_of_mem hx hb0; have hxl := OwSl.lt O0.out x hx; exact (Kp.of (by repeat (first | with_reducible exact Kp.refl | with_reducible refine Kp.set ?_ hxb))))) hn0 (by omega) (by omega)).mono ?_); rintro _ W1 ⟨rfl, C0, P0⟩; have C0 := hidden C0; have P0 := hidden P0; have HB1 := hidden (Blk.of_heap (w' := W1) (Blk.same HB.out (j := j) (by (repeat rw [List.getElem?_set_ne (by omega)]); exact E0.out)) (C0.out.2 b (by first | assumption | go_simp | (simp [World.setCell]; omega)) hb0)); have lb1 : b < W1.heap.size := HB1.out.lt; clear c0 z0))) | ((first | with_reducible refine wp_region_qe (by kernel_rfl) (by kernel_rfl) ?_ | with_reducible refine wp_region_q (by kernel_rfl) (by kernel_rfl) ?_); (repeat (go_big_quiet_step ((first | ((go_at_call 29; (with_reducible refine (mark_Lint _ _ _ d f _ _ (OwSl.frame O0.out (fun x hx => by have hxb := ne_of_mem hx hb0; have hxl := OwSl.lt O0.out x hx; exact (Kp.of (by repeat (first | with_reducible exact Kp.refl | with_reducible refine Kp.set ?_ hxb))))) hn0 (by omega) (by omega)).mono ?_); rintro _ W1 ⟨rfl, C0, P0⟩; have C0 := hidden C0; have P0 := hidden P0; have HB1 := hidden (Blk.of_heap (w' := W1) (Blk.same HB.out (j := j) (by (repeat rw [List.getElem?_set_ne (by omega)]); exact E0.out)) (C0.out.2 b (by first | assumption | go_simp | (simp [World.setCell]; omega)) hb0)); have lb1 : b < W1.heap.size := HB1.out.lt; clear c0 z0)))))); refine wpQuiet_nil ?_; intro x))
      go_roundw
      case rel =>
        refine ⟨j + 1, by omega, by go_num, ⟨_, rfl, by have := HQ.out; omega⟩, HC.out.trans (by repeat (first | with_reducible exact Chg.refl | with_reducible refine Chg.tset ?_ HBF.out | with_reducible refine Chg.trans ?_ (Chg.mono C0.out (fun x hx => HFF.out x (by simp [hx]))))), ?_⟩
        rw [HM.out]
        refine HS.out _ [_] _ rfl HB1.out ⟨_, _, _, rfl, OwSl.frame P0.out (fun x hx => by have hxb := ne_of_mem hx hb0; have hxl := OwSl.lt P0.out x hx; exact (Kp.of (by repeat (first | with_reducible exact Kp.refl | with_reducible refine Kp.set ?_ hxb))))⟩ (fun x hx hxb hxf => ?_)
        · have hxl := OwSl.lt HO.out x hx
          have hx0 : x ∉ f := fun h => hxf (by simp [h])
          exact (Kp.of (by repeat (first | with_reducible exact Kp.refl | with_reducible refine Kp.set ?_ hxb | with_reducible refine Kp.chg ?_ hxl C0.out hx0)))
      case measure => simp [intOf]; omega
    · obtain rfl : len = j := by omega
      go_wp2_with fail
      go_ret
      exact ⟨ret_int (by rw [List.take_of_length_le (Nat.le_of_eq HL.out)] at hq; omega), HC.out, by have := HO.out; rwa [mkP_all HL.out] at this⟩





























end Go.Proofs.Ytddeecfhggfnkaa
