/- Lemmas for it, part 5. No condition. -/
import Derived.Test.YtngehfhcnfobbaaPk2
import Derived.Test.YtngehfhcnfobbaaPk4
namespace Go.Proofs.Ytngehfhcnfobbaa
open Go Go.RowKit

set_option maxHeartbeats 2000000 in
theorem mark_Lint (a : Option Addr) (len cap : Nat) (l : (List Int)) (fp : List Nat) (k : Int) (w : World) (h : OwSl w a len cap l fp) (hnd : fp.Nodup) (hk0 : 0 ≤ k) (hk1 : k + (cntL l : Nat) ≤ 4611686018427387904) :
    Calls Try.prog 34 #[.slice a len cap, .int .i64 k] w fun e w' => e = .returned (.int .i64 (k + (cntL l : Nat))) ∧ Chg fp w w' ∧ OwSl w' a len cap (mkL l k) fp := by
  have hm := h.2.2.1
  have hlc := h.2.1
  have HL := hidden h.1
  have HN := hidden hnd
  have H := hidden h
  clear h hnd
  unfold maxLen at hm
  go_enter Try.func34, Try.ntmps34
  go_wp2_with fail
  go_loopw [5, 1] (fun i kk wr => ∃ j : Nat, j ≤ len ∧ i = .int .i64 j ∧ (∃ q : Int, kk = .int .i64 q ∧ q = k + (cntL (l.take j) : Nat)) ∧ Hid (Chg fp w wr) ∧ Hid (OwSl wr a len cap (mkP l k j) fp)) (fun i _ _ => len - (intOf i).toNat)
  case atStart => exact ⟨0, Nat.zero_le _, rfl, ⟨k, rfl, by simp [cntL]⟩, Chg.refl, by rw [mkP_zero]; exact H.out⟩
  case round =>
    obtain ⟨j, hj, rfl, ⟨q, rfl, hq⟩, HC, HO⟩ := hrel
    by_cases hlt : j < len
    · obtain ⟨d, hd⟩ : ∃ d, l[j]? = some d := ⟨_, List.getElem?_eq_getElem (by have := HL.out; omega)⟩
      obtain ⟨b, e, cs, f, ys, rfl, hB, hbf, hy, hE, hroom, ho, hfn, hff, hbnf, hset⟩ := HO.out.open HN.out (mkP_at hd)
      have hcl := cntL_take hd
      have hcl2 := cntL_le l (j + 1)
      have hm0 : mkP l k (j + 1) = (mkP l k j).set j (Mk.ov d q) := by rw [hq]; exact (mkP_step hd).symm
      have hcd : Mk.cnt d = 1 := rfl
      rw [hcd] at hcl
      clear hcd
      have hq0 : 0 ≤ q := by omega
      have hq1 : q + (1 : Nat) ≤ 4611686018427387904 := by omega
      have HQ : Hid (q + (1 : Nat) = k + (cntL (l.take (j + 1)) : Nat)) := by show q + (1 : Nat) = _; omega
      clear hcl hcl2 hq
      obtain ⟨⟨rfl, g0⟩, rfl⟩ := ho
      simp only [Lay.n, Nat.mul_one] at hset hroom
      have hroom' : j + 1 ≤ cs.length := hroom
      have e0 : cs[j]? = some (.int .i64 d) := by have := hE 0 _ rfl; simpa [Lay.n] using this
      have c0 : _ := hB.cell e0
      have z0 := hB.frozen (j)
      have lb := hB.lt
      have E0 := hidden e0
      have HB := hidden hB
      have HS := hidden hset
      have HFF := hidden hff
      have HBF := hidden hbf
      have HR := hidden hroom
      have HM := hidden hm0
      clear hB hset hff hbf hroom hm0 hE hy e0
      go_wp2_with fail
      go_roundw
      case rel =>
        refine ⟨j + 1, by omega, by go_num, ⟨_, rfl, by have := HQ.out; omega⟩, HC.out.trans (Chg.set HBF.out _), ?_⟩
        rw [HM.out]
        exact HS.out _ [_] _ rfl (HB.out.set _ _) ⟨⟨(cons_eq (int_eq (show _ = q from by omega)) rfl), (show I64 (q) from I64.mk (by omega) (by omega))⟩, rfl⟩ (fun x _ hxb _ => Kp.of (by repeat (first | with_reducible exact Kp.refl | with_reducible refine Kp.set ?_ hxb)))
      case measure => simp [intOf]; omega
    · obtain rfl : len = j := by omega
      go_wp2_with fail
      go_ret
      exact ⟨ret_int (by rw [List.take_of_length_le (Nat.le_of_eq HL.out)] at hq; omega), HC.out, by have := HO.out; rwa [mkP_all HL.out] at this⟩

set_option maxHeartbeats 2000000 in
theorem held_Lint (a : Option Addr) (len cap : Nat) (l : (List Int)) (k : Int) (w : World) (h : SlRd w a len cap (mkL l k)) (hk0 : 0 ≤ k) (hk1 : k + (cntL l : Nat) ≤ 4611686018427387904) :
    Calls Try.prog 35 #[.slice a len cap, .int .i64 k] w fun e w' => e = .returned (.int .i64 (k + (cntL l : Nat))) ∧ Ext w w' := by
  have hm := h.2.2.1
  have hlc := h.2.1
  have hl : l.length = len := by have := h.1; rwa [length_mkL] at this
  have HL := hidden hl
  clear hl
  unfold maxLen at hm
  go_enter Try.func35, Try.ntmps35
  go_wp2_with fail
  go_loopw [5, 1] (fun i kk wr => ∃ j : Nat, j ≤ len ∧ i = .int .i64 j ∧ (∃ q : Int, kk = .int .i64 q ∧ q = k + (cntL (l.take j) : Nat)) ∧ Ext w wr) (fun i _ _ => len - (intOf i).toNat)
  case atStart => exact ⟨0, Nat.zero_le _, rfl, ⟨k, rfl, by simp [cntL]⟩, Ext.refl _⟩
  case round =>
    obtain ⟨j, hj, rfl, ⟨q, rfl, hq⟩, hE⟩ := hrel
    by_cases hlt : j < len
    · obtain ⟨d0, hd0⟩ : ∃ d, l[j]? = some d := ⟨_, List.getElem?_eq_getElem (by have := HL.out; omega)⟩
      have hcl := cntL_take hd0
      have hcl2 := cntL_le l (j + 1)
      obtain ⟨d, dhd, db, doff, dys, rfl, dhys, dhcell, dhrd⟩ := h.at hE hlt
      obtain ⟨rfl, dg0⟩ := dhrd
      have dc0 : wr.cell? ⟨db, doff + j, none⟩ = some (.int .i64 d) := by have := dhcell 0 _ rfl; simpa [Lay.n] using this
      have dlb := cell_lt dc0
      have dHD := hidden dhd
      clear dhcell dhys dhd
      have hdd : d = Mk.ov d0 q := by have h1 := dHD.out; rw [mkL_at hd0] at h1; rw [hq]; exact (Option.some.inj h1).symm
      have hcd : Mk.cnt d0 = 1 := rfl
      rw [hcd] at hcl
      clear hcd
      have hq0 : 0 ≤ q := by omega
      have hq1 : q + (1 : Nat) ≤ 4611686018427387904 := by omega
      have HQ : Hid (q + (1 : Nat) = k + (cntL (l.take (j + 1)) : Nat)) := by show q + (1 : Nat) = _; omega
      clear hcl hcl2 hq
      have u0 : d = q := by rw [hdd]; rfl
      rw [u0] at dc0
      clear hdd u0
      go_wp2_with (first | ((first | with_reducible refine wp_region_qe (by kernel_rfl) (by kernel_rfl) ?_ | with_reducible refine wp_region_q (by kernel_rfl) (by kernel_rfl) ?_); (repeat (go_big_quiet_step (fail))); refine wpQuiet_nil ?_; intro x))
      go_roundw
      case rel => exact ⟨j + 1, by omega, by go_num, ⟨_, rfl, by have := HQ.out; omega⟩, (by first | exact hE | exact hE.ext _ | exact hE.trans (by repeat (first | with_reducible exact Ext.refl _ | with_reducible apply Ext.and | with_reducible apply Ext.drewx | with_reducible apply Ext.alloc | with_reducible apply Ext.ext | with_reducible apply Ext.drew | with_reducible refine Ext.setCell ?_ (by simp) _)))⟩
      case measure => simp [intOf]; omega
    · obtain rfl : len = j := by omega
      go_wp2_with (first | ((first | with_reducible refine wp_region_qe (by kernel_rfl) (by kernel_rfl) ?_ | with_reducible refine wp_region_q (by kernel_rfl) (by kernel_rfl) ?_); (repeat (go_big_quiet_step (fail))); refine wpQuiet_nil ?_; intro x))
      go_ret
      exact ⟨ret_int (by rw [List.take_of_length_le (Nat.le_of_eq HL.out)] at hq; omega), (by first | exact hE | exact hE.ext _ | exact hE.trans (by repeat (first | with_reducible exact Ext.refl _ | with_reducible apply Ext.and | with_reducible apply Ext.drewx | with_reducible apply Ext.alloc | with_reducible apply Ext.ext | with_reducible apply Ext.drew | with_reducible refine Ext.setCell ?_ (by simp) _)))⟩

set_option maxHeartbeats 2000000 in
theorem mark_LRg (a : Option Addr) (len cap : Nat) (l : (List Rg)) (fp : List Nat) (k : Int) (w : World) (h : OwSl w a len cap l fp) (hnd : fp.Nodup) (hk0 : 0 ≤ k) (hk1 : k + (cntL l : Nat) ≤ 4611686018427387904) :
    Calls Try.prog 24 #[.slice a len cap, .int .i64 k] w fun e w' => e = .returned (.int .i64 (k + (cntL l : Nat))) ∧ Chg fp w w' ∧ OwSl w' a len cap (mkL l k) fp := by
  have hm := h.2.2.1
  have hlc := h.2.1
  have HL := hidden h.1
  have HN := hidden hnd
  have H := hidden h
  clear h hnd
  unfold maxLen at hm
  go_enter Try.func24, Try.ntmps24
  go_wp2_with fail
  go_loopw [5, 1] (fun i kk wr => ∃ j : Nat, j ≤ len ∧ i = .int .i64 j ∧ (∃ q : Int, kk = .int .i64 q ∧ q = k + (cntL (l.take j) : Nat)) ∧ Hid (Chg fp w wr) ∧ Hid (OwSl wr a len cap (mkP l k j) fp)) (fun i _ _ => len - (intOf i).toNat)
  case atStart => exact ⟨0, Nat.zero_le _, rfl, ⟨k, rfl, by simp [cntL]⟩, Chg.refl, by rw [mkP_zero]; exact H.out⟩
  case round =>
    obtain ⟨j, hj, rfl, ⟨q, rfl, hq⟩, HC, HO⟩ := hrel
    by_cases hlt : j < len
    · obtain ⟨d, hd⟩ : ∃ d, l[j]? = some d := ⟨_, List.getElem?_eq_getElem (by have := HL.out; omega)⟩
      obtain ⟨b, e, cs, f, ys, rfl, hB, hbf, hy, hE, hroom, ho, hfn, hff, hbnf, hset⟩ := HO.out.open HN.out (mkP_at hd)
      have hcl := cntL_take hd
      have hcl2 := cntL_le l (j + 1)
      have hm0 : mkP l k (j + 1) = (mkP l k j).set j (Mk.ov d q) := by rw [hq]; exact (mkP_step hd).symm
      have hcd : Mk.cnt d = 2 := rfl
      rw [hcd] at hcl
      clear hcd
      have hq0 : 0 ≤ q := by omega
      have hq1 : q + (2 : Nat) ≤ 4611686018427387904 := by omega
      have HQ : Hid (q + (2 : Nat) = k + (cntL (l.take (j + 1)) : Nat)) := by show q + (2 : Nat) = _; omega
      clear hcl hcl2 hq
      obtain ⟨⟨rfl, g0, g1⟩, rfl⟩ := ho
      have hroom' : j * 2 + 2 ≤ cs.length := hroom
      have e0 : cs[j * 2]? = some (.int .i64 d.f) := by have := hE 0 _ rfl; simpa [Lay.n] using this
      have c0 : _ := hB.cell e0
      have z0 := hB.frozen (j * 2)
      have e1 : cs[j * 2 + 1]? = some (.int .i64 d.b) := by have := hE 1 _ rfl; simpa [Lay.n] using this
      have c1 : _ := hB.cell e1
      have z1 := hB.frozen (j * 2 + 1)
      have lb := hB.lt
      have E0 := hidden e0
      have E1 := hidden e1
      have HB := hidden hB
      have HS := hidden hset
      have HFF := hidden hff
      have HBF := hidden hbf
      have HR := hidden hroom
      have HM := hidden hm0
      clear hB hset hff hbf hroom hm0 hE hy e0 e1
      go_wp2_with fail
      go_roundw
      case rel =>
        refine ⟨j + 1, by omega, by go_num, ⟨_, rfl, by have := HQ.out; omega⟩, HC.out.trans ((Chg.set HBF.out _).trans (Chg.set HBF.out _)), ?_⟩
        rw [HM.out]
        exact HS.out _ [_, _] _ rfl ((HB.out.set _ _).set _ _) ⟨⟨(cons_eq (int_eq (show _ = q from by omega)) (cons_eq (int_eq (show _ = q + 1 from by omega)) rfl)), (show I64 (q) from I64.mk (by omega) (by omega)), (show I64 (q + 1) from I64.mk (by omega) (by omega))⟩, rfl⟩ (fun x _ hxb _ => Kp.of (by repeat (first | with_reducible exact Kp.refl | with_reducible refine Kp.set ?_ hxb)))
      case measure => simp [intOf]; omega
    · obtain rfl : len = j := by omega
      go_wp2_with fail
      go_ret
      exact ⟨ret_int (by rw [List.take_of_length_le (Nat.le_of_eq HL.out)] at hq; omega), HC.out, by have := HO.out; rwa [mkP_all HL.out] at this⟩

set_option maxHeartbeats 2000000 in
theorem held_LRg (a : Option Addr) (len cap : Nat) (l : (List Rg)) (k : Int) (w : World) (h : SlRd w a len cap (mkL l k)) (hk0 : 0 ≤ k) (hk1 : k + (cntL l : Nat) ≤ 4611686018427387904) :
    Calls Try.prog 26 #[.slice a len cap, .int .i64 k] w fun e w' => e = .returned (.int .i64 (k + (cntL l : Nat))) ∧ Ext w w' := by
  have hm := h.2.2.1
  have hlc := h.2.1
  have hl : l.length = len := by have := h.1; rwa [length_mkL] at this
  have HL := hidden hl
  clear hl
  unfold maxLen at hm
  go_enter Try.func26, Try.ntmps26
  go_wp2_with fail
  go_loopw [5, 1] (fun i kk wr => ∃ j : Nat, j ≤ len ∧ i = .int .i64 j ∧ (∃ q : Int, kk = .int .i64 q ∧ q = k + (cntL (l.take j) : Nat)) ∧ Ext w wr) (fun i _ _ => len - (intOf i).toNat)
  case atStart => exact ⟨0, Nat.zero_le _, rfl, ⟨k, rfl, by simp [cntL]⟩, Ext.refl _⟩
  case round =>
    obtain ⟨j, hj, rfl, ⟨q, rfl, hq⟩, hE⟩ := hrel
    by_cases hlt : j < len
    · obtain ⟨d0, hd0⟩ : ∃ d, l[j]? = some d := ⟨_, List.getElem?_eq_getElem (by have := HL.out; omega)⟩
      have hcl := cntL_take hd0
      have hcl2 := cntL_le l (j + 1)
      obtain ⟨d, dhd, db, doff, dys, rfl, dhys, dhcell, dhrd⟩ := h.at hE hlt
      obtain ⟨rfl, dg0, dg1⟩ := dhrd
      have dc0 : wr.cell? ⟨db, doff + j * 2, none⟩ = some _ := dhcell 0 _ rfl
      have dc1 : wr.cell? ⟨db, doff + j * 2 + 1, none⟩ = some _ := dhcell 1 _ rfl
      have dlb := cell_lt dc0
      have dHD := hidden dhd
      clear dhcell dhys dhd
      have hdd : d = Mk.ov d0 q := by have h1 := dHD.out; rw [mkL_at hd0] at h1; rw [hq]; exact (Option.some.inj h1).symm
      have hcd : Mk.cnt d0 = 2 := rfl
      rw [hcd] at hcl
      clear hcd
      have hq0 : 0 ≤ q := by omega
      have hq1 : q + (2 : Nat) ≤ 4611686018427387904 := by omega
      have HQ : Hid (q + (2 : Nat) = k + (cntL (l.take (j + 1)) : Nat)) := by show q + (2 : Nat) = _; omega
      clear hcl hcl2 hq
      have u0 : d.f = q := by rw [hdd]; rfl
      rw [u0] at dc0
      have u1 : d.b = q + 1 := by rw [hdd]; rfl
      rw [u1] at dc1
      clear hdd u0 u1
      go_wp2_with (first | ((first | with_reducible refine wp_region_qe (by kernel_rfl) (by kernel_rfl) ?_ | with_reducible refine wp_region_q (by kernel_rfl) (by kernel_rfl) ?_); (repeat (go_big_quiet_step (fail))); refine wpQuiet_nil ?_; intro x))
      go_roundw
      case rel => exact ⟨j + 1, by omega, by go_num, ⟨_, rfl, by have := HQ.out; omega⟩, (by first | exact hE | exact hE.ext _ | exact hE.trans (by repeat (first | with_reducible exact Ext.refl _ | with_reducible apply Ext.and | with_reducible apply Ext.drewx | with_reducible apply Ext.alloc | with_reducible apply Ext.ext | with_reducible apply Ext.drew | with_reducible refine Ext.setCell ?_ (by simp) _)))⟩
      case measure => simp [intOf]; omega
    · obtain rfl : len = j := by omega
      go_wp2_with (first | ((first | with_reducible refine wp_region_qe (by kernel_rfl) (by kernel_rfl) ?_ | with_reducible refine wp_region_q (by kernel_rfl) (by kernel_rfl) ?_); (repeat (go_big_quiet_step (fail))); refine wpQuiet_nil ?_; intro x))
      go_ret
      exact ⟨ret_int (by rw [List.take_of_length_le (Nat.le_of_eq HL.out)] at hq; omega), (by first | exact hE | exact hE.ext _ | exact hE.trans (by repeat (first | with_reducible exact Ext.refl _ | with_reducible apply Ext.and | with_reducible apply Ext.drewx | with_reducible apply Ext.alloc | with_reducible apply Ext.ext | with_reducible apply Ext.drew | with_reducible refine Ext.setCell ?_ (by simp) _)))⟩















set_option maxHeartbeats 2000000 in
theorem mark_LRt (a : Option Addr) (len cap : Nat) (l : (List Rt)) (fp : List Nat) (k : Int) (w : World) (h : OwSl w a len cap l fp) (hnd : fp.Nodup) (hk0 : 0 ≤ k) (hk1 : k + (cntL l : Nat) ≤ 4611686018427387904) :
    Calls Try.prog 25 #[.slice a len cap, .int .i64 k] w fun e w' => e = .returned (.int .i64 (k + (cntL l : Nat))) ∧ Chg fp w w' ∧ OwSl w' a len cap (mkL l k) fp := by
  have hm := h.2.2.1
  have hlc := h.2.1
  have HL := hidden h.1
  have HN := hidden hnd
  have H := hidden h
  clear h hnd
  unfold maxLen at hm
  go_enter Try.func25, Try.ntmps25
  go_wp2_with fail
  go_loopw [5, 1] (fun i kk wr => ∃ j : Nat, j ≤ len ∧ i = .int .i64 j ∧ (∃ q : Int, kk = .int .i64 q ∧ q = k + (cntL (l.take j) : Nat)) ∧ Hid (Chg fp w wr) ∧ Hid (OwSl wr a len cap (mkP l k j) fp)) (fun i _ _ => len - (intOf i).toNat)
  case atStart => exact ⟨0, Nat.zero_le _, rfl, ⟨k, rfl, by simp [cntL]⟩, Chg.refl, by rw [mkP_zero]; exact H.out⟩
  case round =>
    obtain ⟨j, hj, rfl, ⟨q, rfl, hq⟩, HC, HO⟩ := hrel
    by_cases hlt : j < len
    · obtain ⟨d, hd⟩ : ∃ d, l[j]? = some d := ⟨_, List.getElem?_eq_getElem (by have := HL.out; omega)⟩
      obtain ⟨b, e, cs, f, ys, rfl, hB, hbf, hy, hE, hroom, ho, hfn, hff, hbnf, hset⟩ := HO.out.open HN.out (mkP_at hd)
      have hcl := cntL_take hd
      have hcl2 := cntL_le l (j + 1)
      have hm0 : mkP l k (j + 1) = (mkP l k j).set j (Mk.ov d q) := by rw [hq]; exact (mkP_step hd).symm
      have hcd : Mk.cnt d = 3 + cntL d.path + cntL d.marks := rfl
      rw [hcd] at hcl
      clear hcd
      have hq0 : 0 ≤ q := by omega
      have hq1 : q + (3 + cntL d.path + cntL d.marks : Nat) ≤ 4611686018427387904 := by omega
      have HQ : Hid (q + (3 + cntL d.path + cntL d.marks : Nat) = k + (cntL (l.take (j + 1)) : Nat)) := by show q + (3 + cntL d.path + cntL d.marks : Nat) = _; omega
      clear hcl hcl2 hq
      obtain ⟨a_path, n_path, c_path, a_marks, n_marks, c_marks, q0, q1, rfl, g0, g1, o0, g3, o1, rfl⟩ := ho
      obtain ⟨hn0, hn1, hn2⟩ := List.nodup_append.1 hfn
      have HDJ : Hid (∀ x ∈ q0, x ∉ q1) := fun x hx hy => hn2 x hx x hy rfl
      clear hn2
      have hb0 : b ∉ q0 := fun hx => hbnf (List.mem_append_left _ hx)
      have hb1 : b ∉ q1 := fun hx => hbnf (List.mem_append_right _ hx)
      have hroom' : j * 5 + 5 ≤ cs.length := hroom
      have e0 : cs[j * 5]? = some (.int .i64 d.r.f) := by have := hE 0 _ rfl; simpa [Lay.n] using this
      have c0 : _ := hB.cell e0
      have z0 := hB.frozen (j * 5)
      have e1 : cs[j * 5 + 1]? = some (.int .i64 d.r.b) := by have := hE 1 _ rfl; simpa [Lay.n] using this
      have c1 : _ := hB.cell e1
      have z1 := hB.frozen (j * 5 + 1)
      have e2 : cs[j * 5 + 2]? = some (.slice a_path n_path c_path) := by have := hE 2 _ rfl; simpa [Lay.n] using this
      have c2 : _ := hB.cell e2
      have z2 := hB.frozen (j * 5 + 2)
      have e3 : cs[j * 5 + 3]? = some (.int .i64 d.like) := by have := hE 3 _ rfl; simpa [Lay.n] using this
      have c3 : _ := hB.cell e3
      have z3 := hB.frozen (j * 5 + 3)
      have e4 : cs[j * 5 + 4]? = some (.slice a_marks n_marks c_marks) := by have := hE 4 _ rfl; simpa [Lay.n] using this
      have c4 : _ := hB.cell e4
      have z4 := hB.frozen (j * 5 + 4)
      have lb := hB.lt
      have E0 := hidden e0
      have E1 := hidden e1
      have E2 := hidden e2
      have E3 := hidden e3
      have E4 := hidden e4
      have HB := hidden hB
      have HS := hidden hset
      have HFF := hidden hff
      have HBF := hidden hbf
      have HR := hidden hroom
      have HM := hidden hm0
      clear hB hset hff hbf hroom hm0 hE hy e0 e1 e2 e3 e4
      have O0 := hidden o0
      have O1 := hidden o1
      clear o0 o1
      have tk := True.intro
      go_wp2_with (first | (first | ((go_at_call 34; have _t := tk; (with_reducible refine (mark_Lint _ _ _ d.path q0 _ _ (OwSl.frame O0.out (fun x hx => by have hxb := ne_of_mem hx hb0; have hxl := OwSl.lt O0.out x hx; exact (Kp.of (by repeat (first | with_reducible exact Kp.refl | with_reducible refine Kp.set ?_ hxb))))) hn0 (by omega) (by omega)).mono ?_); rintro _ W1 ⟨rfl, C0, P0⟩; have C0 := hidden C0; have P0 := hidden P0; have HB1 := hidden (Blk.of_heap (w' := W1) (Blk.same (Blk.set (Blk.set HB.out _ _) _ _) (j := j * 5 + 2) (by (repeat rw [List.getElem?_set_ne (by omega)]); exact E2.out)) (C0.out.2 b (by first | assumption | go_simp | (simp [World.setCell]; omega)) hb0)); have m0_3 : W1.cell? ⟨b, j * 5 + 3, none⟩ = some (.int .i64 d.like) := (C0.out.cell (by first | assumption | go_simp | (simp [World.setCell]; omega)) hb0 _).trans (by first | assumption | go_simp); have y0_3 : W1.frozen? ⟨b, j * 5 + 3, none⟩ = false := (C0.out.frozen (by first | assumption | go_simp | (simp [World.setCell]; omega)) hb0 _).trans (by first | assumption | go_simp); have m0_4 : W1.cell? ⟨b, j * 5 + 4, none⟩ = some (.slice a_marks n_marks c_marks) := (C0.out.cell (by first | assumption | go_simp | (simp [World.setCell]; omega)) hb0 _).trans (by first | assumption | go_simp); have y0_4 : W1.frozen? ⟨b, j * 5 + 4, none⟩ = false := (C0.out.frozen (by first | assumption | go_simp | (simp [World.setCell]; omega)) hb0 _).trans (by first | assumption | go_simp); have lb1 : b < W1.heap.size := HB1.out.lt; clear c0 z0 c1 z1 c2 z2 c3 z3 c4 z4 tk _t)) | ((go_at_call 34; (with_reducible refine (mark_Lint _ _ _ d.marks q1 _ _ (OwSl.frame O1.out (fun x hx => by have hxb := ne_of_mem hx hb1; have hxl := OwSl.lt O1.out x hx; have hx0 := disj_swap HDJ.out hx; exact (Kp.of (by repeat (first | with_reducible exact Kp.refl | with_reducible refine Kp.set ?_ hxb | with_reducible refine Kp.chg ?_ hxl C0.out hx0))))) hn1 (by omega) (by omega)).mono ?_); rintro _ W2 ⟨rfl, C1, P1⟩; have C1 := hidden C1; have P1 := hidden P1; have HB2 := hidden (Blk.of_heap (w' := W2) (Blk.same (Blk.set HB1.out _ _) (j := j * 5 + 4) (by (repeat rw [List.getElem?_set_ne (by omega)]); exact E4.out)) (C1.out.2 b (by first | assumption | go_simp | (simp [World.setCell]; omega)) hb1)); have lb2 : b < W2.heap.size := HB2.out.lt))) | ((first | with_reducible refine wp_region_qe (by kernel_rfl) (by kernel_rfl) ?_ | with_reducible refine wp_region_q (by kernel_rfl) (by kernel_rfl) ?_); (repeat (go_big_quiet_step ((first | ((go_at_call 34; have _t := tk; (with_reducible refine (mark_Lint _ _ _ d.path q0 _ _ (OwSl.frame O0.out (fun x hx => by have hxb := ne_of_mem hx hb0; have hxl := OwSl.lt O0.out x hx; exact (Kp.of (by repeat (first | with_reducible exact Kp.refl | with_reducible refine Kp.set ?_ hxb))))) hn0 (by omega) (by omega)).mono ?_); rintro _ W1 ⟨rfl, C0, P0⟩; have C0 := hidden C0; have P0 := hidden P0; have HB1 := hidden (Blk.of_heap (w' := W1) (Blk.same (Blk.set (Blk.set HB.out _ _) _ _) (j := j * 5 + 2) (by (repeat rw [List.getElem?_set_ne (by omega)]); exact E2.out)) (C0.out.2 b (by first | assumption | go_simp | (simp [World.setCell]; omega)) hb0)); have m0_3 : W1.cell? ⟨b, j * 5 + 3, none⟩ = some (.int .i64 d.like) := (C0.out.cell (by first | assumption | go_simp | (simp [World.setCell]; omega)) hb0 _).trans (by first | assumption | go_simp); have y0_3 : W1.frozen? ⟨b, j * 5 + 3, none⟩ = false := (C0.out.frozen (by first | assumption | go_simp | (simp [World.setCell]; omega)) hb0 _).trans (by first | assumption | go_simp); have m0_4 : W1.cell? ⟨b, j * 5 + 4, none⟩ = some (.slice a_marks n_marks c_marks) := (C0.out.cell (by first | assumption | go_simp | (simp [World.setCell]; omega)) hb0 _).trans (by first | assumption | go_simp); have y0_4 : W1.frozen? ⟨b, j * 5 + 4, none⟩ = false := (C0.out.frozen (by first | assumption | go_simp | (simp [World.setCell]; omega)) hb0 _).trans (by first | assumption | go_simp); have lb1 : b < W1.heap.size := HB1.out.lt; clear c0 z0 c1 z1 c2 z2 c3 z3 c4 z4 tk _t)) | ((go_at_call 34; (with_reducible refine (mark_Lint _ _ _ d.marks q1 _ _ (OwSl.frame O1.out (fun x hx => by have hxb := ne_of_mem hx hb1; have hxl := OwSl.lt O1.out x hx; have hx0 := disj_swap HDJ.out hx; exact (Kp.of (by repeat (first | with_reducible exact Kp.refl | with_reducible refine Kp.set ?_ hxb | with_reducible refine Kp.chg ?_ hxl C0.out hx0))))) hn1 (by omega) (by omega)).mono ?_); rintro _ W2 ⟨rfl, C1, P1⟩; have C1 := hidden C1; have P1 := hidden P1; have HB2 := hidden (Blk.of_heap (w' := W2) (Blk.same (Blk.set HB1.out _ _) (j := j * 5 + 4) (by (repeat rw [List.getElem?_set_ne (by omega)]); exact E4.out)) (C1.out.2 b (by first | assumption | go_simp | (simp [World.setCell]; omega)) hb1)); have lb2 : b < W2.heap.size := HB2.out.lt)))))); refine wpQuiet_nil ?_; intro x))
      go_roundw
      case rel =>
        refine ⟨j + 1, by omega, by go_num, ⟨_, rfl, by have := HQ.out; omega⟩, HC.out.trans (by repeat (first | with_reducible exact Chg.refl | with_reducible refine Chg.tset ?_ HBF.out | with_reducible refine Chg.trans ?_ (Chg.mono C1.out (fun x hx => HFF.out x (by simp [hx]))) | with_reducible refine Chg.trans ?_ (Chg.mono C0.out (fun x hx => HFF.out x (by simp [hx]))))), ?_⟩
        rw [HM.out]
        refine HS.out _ [_, _, _, _, _] _ rfl HB2.out ⟨a_path, n_path, c_path, a_marks, n_marks, c_marks, q0, q1, (cons_eq (int_eq (show _ = q from by omega)) (cons_eq (int_eq (show _ = q + 1 from by omega)) (cons_eq rfl (cons_eq (int_eq (show _ = q + 2 + (cntL d.path : Nat) from by omega)) (cons_eq rfl rfl))))), (show I64 (q) from I64.mk (by omega) (by omega)), (show I64 (q + 1) from I64.mk (by omega) (by omega)), OwSl.frame (OwSl.num P0.out (by omega)) (fun x hx => by have hxb := ne_of_mem hx hb0; have hxl := OwSl.lt P0.out x hx; have hx1 := HDJ.out x hx; exact (Kp.of (by repeat (first | with_reducible exact Kp.refl | with_reducible refine Kp.set ?_ hxb | with_reducible refine Kp.chg ?_ hxl C1.out hx1)))), (show I64 (q + 2 + (cntL d.path : Nat)) from I64.mk (by omega) (by omega)), OwSl.frame (OwSl.num P1.out (by omega)) (fun x hx => by have hxb := ne_of_mem hx hb1; have hxl := OwSl.lt P1.out x hx; exact (Kp.of (by repeat (first | with_reducible exact Kp.refl | with_reducible refine Kp.set ?_ hxb)))), rfl⟩ (fun x hx hxb hxf => ?_)
        · have hxl := OwSl.lt HO.out x hx
          have hx0 : x ∉ q0 := fun h => hxf (by simp [h])
          have hx1 : x ∉ q1 := fun h => hxf (by simp [h])
          exact (Kp.of (by repeat (first | with_reducible exact Kp.refl | with_reducible refine Kp.set ?_ hxb | with_reducible refine Kp.chg ?_ hxl C0.out hx0 | with_reducible refine Kp.chg ?_ hxl C1.out hx1)))
      case measure => simp [intOf]; omega
    · obtain rfl : len = j := by omega
      go_wp2_with fail
      go_ret
      exact ⟨ret_int (by rw [List.take_of_length_le (Nat.le_of_eq HL.out)] at hq; omega), HC.out, by have := HO.out; rwa [mkP_all HL.out] at this⟩

set_option maxHeartbeats 2000000 in
theorem held_LRt (a : Option Addr) (len cap : Nat) (l : (List Rt)) (k : Int) (w : World) (h : SlRd w a len cap (mkL l k)) (hk0 : 0 ≤ k) (hk1 : k + (cntL l : Nat) ≤ 4611686018427387904) :
    Calls Try.prog 27 #[.slice a len cap, .int .i64 k] w fun e w' => e = .returned (.int .i64 (k + (cntL l : Nat))) ∧ Ext w w' := by
  have hm := h.2.2.1
  have hlc := h.2.1
  have hl : l.length = len := by have := h.1; rwa [length_mkL] at this
  have HL := hidden hl
  clear hl
  unfold maxLen at hm
  go_enter Try.func27, Try.ntmps27
  go_wp2_with fail
  go_loopw [5, 1] (fun i kk wr => ∃ j : Nat, j ≤ len ∧ i = .int .i64 j ∧ (∃ q : Int, kk = .int .i64 q ∧ q = k + (cntL (l.take j) : Nat)) ∧ Ext w wr) (fun i _ _ => len - (intOf i).toNat)
  case atStart => exact ⟨0, Nat.zero_le _, rfl, ⟨k, rfl, by simp [cntL]⟩, Ext.refl _⟩
  case round =>
    obtain ⟨j, hj, rfl, ⟨q, rfl, hq⟩, hE⟩ := hrel
    by_cases hlt : j < len
    · obtain ⟨d0, hd0⟩ : ∃ d, l[j]? = some d := ⟨_, List.getElem?_eq_getElem (by have := HL.out; omega)⟩
      have hcl := cntL_take hd0
      have hcl2 := cntL_le l (j + 1)
      obtain ⟨d, dhd, db, doff, dys, rfl, dhys, dhcell, dhrd⟩ := h.at hE hlt
      obtain ⟨da_path, dn_path, dc_path, da_marks, dn_marks, dc_marks, rfl, dg0, dg1, dg2, dg3, dg4⟩ := dhrd
      have dc0 : wr.cell? ⟨db, doff + j * 5, none⟩ = some _ := dhcell 0 _ rfl
      have dc1 : wr.cell? ⟨db, doff + j * 5 + 1, none⟩ = some _ := dhcell 1 _ rfl
      have dc2 : wr.cell? ⟨db, doff + j * 5 + 2, none⟩ = some _ := dhcell 2 _ rfl
      have dc3 : wr.cell? ⟨db, doff + j * 5 + 3, none⟩ = some _ := dhcell 3 _ rfl
      have dc4 : wr.cell? ⟨db, doff + j * 5 + 4, none⟩ = some _ := dhcell 4 _ rfl
      have dlb := cell_lt dc0
      have dHD := hidden dhd
      clear dhcell dhys dhd
      have hdd : d = Mk.ov d0 q := by have h1 := dHD.out; rw [mkL_at hd0] at h1; rw [hq]; exact (Option.some.inj h1).symm
      have hcd : Mk.cnt d0 = 3 + cntL d0.path + cntL d0.marks := rfl
      rw [hcd] at hcl
      clear hcd
      have hq0 : 0 ≤ q := by omega
      have hq1 : q + (3 + cntL d0.path + cntL d0.marks : Nat) ≤ 4611686018427387904 := by omega
      have HQ : Hid (q + (3 + cntL d0.path + cntL d0.marks : Nat) = k + (cntL (l.take (j + 1)) : Nat)) := by show q + (3 + cntL d0.path + cntL d0.marks : Nat) = _; omega
      clear hcl hcl2 hq
      have u0 : d.r.f = q := by rw [hdd]; rfl
      rw [u0] at dc0
      have u1 : d.r.b = q + 1 := by rw [hdd]; rfl
      rw [u1] at dc1
      have u2 : d.path = mkL d0.path (q + 1 + 1) := by rw [hdd]; show mkL d0.path (q + 2) = _; rw [show (q + 2 : Int) = q + 1 + 1 by omega]
      rw [u2] at dg2
      have u3 : d.like = q + 1 + 1 + (cntL d0.path : Nat) := by rw [hdd]; show q + 2 + (cntL d0.path : Nat) = _; omega
      rw [u3] at dc3
      have u4 : d.marks = mkL d0.marks (q + 1 + 1 + (cntL d0.path : Nat) + 1) := by rw [hdd]; show mkL d0.marks (q + 3 + (cntL d0.path : Nat)) = _; rw [show (q + 3 + (cntL d0.path : Nat) : Int) = q + 1 + 1 + (cntL d0.path : Nat) + 1 by omega]
      rw [u4] at dg4
      clear hdd u0 u1 u2 u3 u4
      have tk := True.intro
      go_wp2_with (first | (first | ((go_at_call 35; have _t := tk; (with_reducible refine (held_Lint _ _ _ (d0.path) (q + 1 + 1) _ (dg2.stays ((by repeat (first | with_reducible exact Ext.refl _ | with_reducible apply Ext.and | with_reducible apply Ext.drewx | with_reducible apply Ext.alloc | with_reducible apply Ext.ext | with_reducible apply Ext.drew | with_reducible refine Ext.setCell ?_ (by simp) _)) : Ext _ _).below) (by omega) (by omega)).mono ?_); rintro _ _ ⟨rfl, x0, rfl⟩; clear tk _t)) | (go_at_call 35; (with_reducible refine (held_Lint _ _ _ (d0.marks) (q + 1 + 1 + (cntL d0.path : Nat) + 1) _ (dg4.stays ((by repeat (first | with_reducible exact Ext.refl _ | with_reducible apply Ext.and | with_reducible apply Ext.drewx | with_reducible apply Ext.alloc | with_reducible apply Ext.ext | with_reducible apply Ext.drew | with_reducible refine Ext.setCell ?_ (by simp) _)) : Ext _ _).below) (by omega) (by omega)).mono ?_); rintro _ _ ⟨rfl, x, rfl⟩)) | ((first | with_reducible refine wp_region_qe (by kernel_rfl) (by kernel_rfl) ?_ | with_reducible refine wp_region_q (by kernel_rfl) (by kernel_rfl) ?_); (repeat (go_big_quiet_step ((first | ((go_at_call 35; have _t := tk; (with_reducible refine (held_Lint _ _ _ (d0.path) (q + 1 + 1) _ (dg2.stays ((by repeat (first | with_reducible exact Ext.refl _ | with_reducible apply Ext.and | with_reducible apply Ext.drewx | with_reducible apply Ext.alloc | with_reducible apply Ext.ext | with_reducible apply Ext.drew | with_reducible refine Ext.setCell ?_ (by simp) _)) : Ext _ _).below) (by omega) (by omega)).mono ?_); rintro _ _ ⟨rfl, x0, rfl⟩; clear tk _t)) | (go_at_call 35; first | with_reducible exact Calls.qb (by assumption) (held_Lint _ _ _ (d0.marks) (q + 1 + 1 + (cntL d0.path : Nat) + 1) _ (dg4.stays ((by repeat (first | with_reducible exact Ext.refl _ | with_reducible apply Ext.and | with_reducible apply Ext.drewx | with_reducible apply Ext.alloc | with_reducible apply Ext.ext | with_reducible apply Ext.drew | with_reducible refine Ext.setCell ?_ (by simp) _)) : Ext _ _).below) (by omega) (by omega)) | with_reducible exact Calls.q (held_Lint _ _ _ (d0.marks) (q + 1 + 1 + (cntL d0.path : Nat) + 1) _ (dg4.stays ((by repeat (first | with_reducible exact Ext.refl _ | with_reducible apply Ext.and | with_reducible apply Ext.drewx | with_reducible apply Ext.alloc | with_reducible apply Ext.ext | with_reducible apply Ext.drew | with_reducible refine Ext.setCell ?_ (by simp) _)) : Ext _ _).below) (by omega) (by omega))))))); refine wpQuiet_nil ?_; intro x))
      go_roundw
      case rel => exact ⟨j + 1, by omega, by go_num, ⟨_, rfl, by have := HQ.out; omega⟩, (by first | exact hE | exact hE.ext _ | exact hE.trans (by repeat (first | with_reducible exact Ext.refl _ | with_reducible apply Ext.and | with_reducible apply Ext.drewx | with_reducible apply Ext.alloc | with_reducible apply Ext.ext | with_reducible apply Ext.drew | with_reducible refine Ext.setCell ?_ (by simp) _)))⟩
      case measure => simp [intOf]; omega
    · obtain rfl : len = j := by omega
      go_wp2_with (first | ((first | with_reducible refine wp_region_qe (by kernel_rfl) (by kernel_rfl) ?_ | with_reducible refine wp_region_q (by kernel_rfl) (by kernel_rfl) ?_); (repeat (go_big_quiet_step (fail))); refine wpQuiet_nil ?_; intro x))
      go_ret
      exact ⟨ret_int (by rw [List.take_of_length_le (Nat.le_of_eq HL.out)] at hq; omega), (by first | exact hE | exact hE.ext _ | exact hE.trans (by repeat (first | with_reducible exact Ext.refl _ | with_reducible apply Ext.and | with_reducible apply Ext.drewx | with_reducible apply Ext.alloc | with_reducible apply Ext.ext | with_reducible apply Ext.drew | with_reducible refine Ext.setCell ?_ (by simp) _)))⟩

















set_option maxHeartbeats 1000000 in
theorem mark_Dl (d : Dl) (a_drop : Option Addr) (n_drop c_drop : Nat) (a_tell : Option Addr) (n_tell c_tell : Nat) (q0 q1 : List Nat) (k : Int) (w : World) (o0 : OwSl w a_drop n_drop c_drop d.drop q0) (o1 : OwSl w a_tell n_tell c_tell d.tell q1) (hnd : (q0 ++ q1).Nodup) (hk0 : 0 ≤ k) (hk1 : k + (cntTDl d : Nat) ≤ 4611686018427387904) :
    Calls Try.prog 10 #[.agg #[.slice a_drop n_drop c_drop, .slice a_tell n_tell c_tell], .int .i64 k] w fun e w' => e = .returned (.int .i64 (k + (cntTDl d : Nat))) ∧ Chg (q0 ++ q1) w w' ∧ OwSl w' a_drop n_drop c_drop (mkL d.drop (k)) q0 ∧ OwSl w' a_tell n_tell c_tell (mkL d.tell (k + (cntL d.drop : Nat))) q1 := by
  have hcnt : (cntTDl d : Int) = (cntL d.drop : Nat) + (cntL d.tell : Nat) := by simp [cntTDl]
  obtain ⟨hn0, hn1, hn2⟩ := List.nodup_append.1 hnd
  have HD : Hid (∀ x ∈ q0, x ∉ q1) := fun x hx hy => hn2 x hx x hy rfl
  clear hnd hn2
  have O0 := hidden o0
  have O1 := hidden o1
  clear o0 o1
  have tk := True.intro
  rw [hcnt] at hk1
  rw [hcnt]
  clear hcnt
  go_enter Try.func10, Try.ntmps10
  go_wp2_with (first | (first | ((go_at_call 24; have _t := tk; (with_reducible refine (mark_LRg _ _ _ d.drop q0 _ _ (OwSl.later O0.out ((by repeat (first | with_reducible exact Ext.refl _ | with_reducible apply Ext.and | with_reducible apply Ext.drewx | with_reducible apply Ext.alloc | with_reducible apply Ext.ext | with_reducible apply Ext.drew | with_reducible refine Ext.setCell ?_ (by simp) _)) : Ext _ _)) hn0 (by omega) (by omega)).mono ?_); rintro _ W1 ⟨rfl, C0, P0⟩; have hN0 : w.heap.size ∉ q0 := (fun hx => by have := OwSl.lt O0.out _ hx; omega); have c2b : W1.cell? ⟨w.heap.size, 1, none⟩ = some (.slice a_tell n_tell c_tell) := (by rw [C0.cell (by simp) hN0 1]; go_simp); have l2b := cell_lt c2b; have C0 := hidden C0; have P0 := hidden P0; clear tk _t)) | ((go_at_call 25; (with_reducible refine (mark_LRt _ _ _ d.tell q1 _ _ (OwSl.later (OwSl.chg (OwSl.later O1.out ((by repeat (first | with_reducible exact Ext.refl _ | with_reducible apply Ext.and | with_reducible apply Ext.drewx | with_reducible apply Ext.alloc | with_reducible apply Ext.ext | with_reducible apply Ext.drew | with_reducible refine Ext.setCell ?_ (by simp) _)) : Ext w _)) C0.out (disj2 HD.out)) ((by repeat (first | with_reducible exact Ext.refl _ | with_reducible apply Ext.and | with_reducible apply Ext.drewx | with_reducible apply Ext.alloc | with_reducible apply Ext.ext | with_reducible apply Ext.drew | with_reducible refine Ext.setCell ?_ (by simp) _)) : Ext _ _)) hn1 (by omega) (by omega)).mono ?_); rintro _ W2 ⟨rfl, C1, P1⟩; have C1 := hidden C1; have P1 := hidden P1))) | ((first | with_reducible refine wp_region_qe (by kernel_rfl) (by kernel_rfl) ?_ | with_reducible refine wp_region_q (by kernel_rfl) (by kernel_rfl) ?_); (repeat (go_big_quiet_step ((first | ((go_at_call 24; have _t := tk; (with_reducible refine (mark_LRg _ _ _ d.drop q0 _ _ (OwSl.later O0.out ((by repeat (first | with_reducible exact Ext.refl _ | with_reducible apply Ext.and | with_reducible apply Ext.drewx | with_reducible apply Ext.alloc | with_reducible apply Ext.ext | with_reducible apply Ext.drew | with_reducible refine Ext.setCell ?_ (by simp) _)) : Ext _ _)) hn0 (by omega) (by omega)).mono ?_); rintro _ W1 ⟨rfl, C0, P0⟩; have hN0 : w.heap.size ∉ q0 := (fun hx => by have := OwSl.lt O0.out _ hx; omega); have c2b : W1.cell? ⟨w.heap.size, 1, none⟩ = some (.slice a_tell n_tell c_tell) := (by rw [C0.cell (by simp) hN0 1]; go_simp); have l2b := cell_lt c2b; have C0 := hidden C0; have P0 := hidden P0; clear tk _t)) | ((go_at_call 25; (with_reducible refine (mark_LRt _ _ _ d.tell q1 _ _ (OwSl.later (OwSl.chg (OwSl.later O1.out ((by repeat (first | with_reducible exact Ext.refl _ | with_reducible apply Ext.and | with_reducible apply Ext.drewx | with_reducible apply Ext.alloc | with_reducible apply Ext.ext | with_reducible apply Ext.drew | with_reducible refine Ext.setCell ?_ (by simp) _)) : Ext w _)) C0.out (disj2 HD.out)) ((by repeat (first | with_reducible exact Ext.refl _ | with_reducible apply Ext.and | with_reducible apply Ext.drewx | with_reducible apply Ext.alloc | with_reducible apply Ext.ext | with_reducible apply Ext.drew | with_reducible refine Ext.setCell ?_ (by simp) _)) : Ext _ _)) hn1 (by omega) (by omega)).mono ?_); rintro _ W2 ⟨rfl, C1, P1⟩; have C1 := hidden C1; have P1 := hidden P1)))))); refine wpQuiet_nil ?_; intro x))
  go_ret
  exact ⟨ret_int (by omega), (((((by repeat (first | with_reducible exact Ext.refl _ | with_reducible apply Ext.and | with_reducible apply Ext.drewx | with_reducible apply Ext.alloc | with_reducible apply Ext.ext | with_reducible apply Ext.drew | with_reducible refine Ext.setCell ?_ (by simp) _)) : Ext w _).chg.trans (C0.out.mono (fun x hx => List.mem_append_left _ hx))).trans (((by repeat (first | with_reducible exact Ext.refl _ | with_reducible apply Ext.and | with_reducible apply Ext.drewx | with_reducible apply Ext.alloc | with_reducible apply Ext.ext | with_reducible apply Ext.drew | with_reducible refine Ext.setCell ?_ (by simp) _)) : Ext W1 _).chg)).trans (C1.out.mono (fun x hx => List.mem_append_right _ hx))).trans (((by repeat (first | with_reducible exact Ext.refl _ | with_reducible apply Ext.and | with_reducible apply Ext.drewx | with_reducible apply Ext.alloc | with_reducible apply Ext.ext | with_reducible apply Ext.drew | with_reducible refine Ext.setCell ?_ (by simp) _)) : Ext W2 _).chg), OwSl.later (OwSl.chg (OwSl.later P0.out ((by repeat (first | with_reducible exact Ext.refl _ | with_reducible apply Ext.and | with_reducible apply Ext.drewx | with_reducible apply Ext.alloc | with_reducible apply Ext.ext | with_reducible apply Ext.drew | with_reducible refine Ext.setCell ?_ (by simp) _)) : Ext W1 _)) C1.out (fun x hx hy => HD.out x hx hy)) (by repeat (first | with_reducible exact Ext.refl _ | with_reducible apply Ext.and | with_reducible apply Ext.drewx | with_reducible apply Ext.alloc | with_reducible apply Ext.ext | with_reducible apply Ext.drew | with_reducible refine Ext.setCell ?_ (by simp) _)), OwSl.later P1.out (by repeat (first | with_reducible exact Ext.refl _ | with_reducible apply Ext.and | with_reducible apply Ext.drewx | with_reducible apply Ext.alloc | with_reducible apply Ext.ext | with_reducible apply Ext.drew | with_reducible refine Ext.setCell ?_ (by simp) _))⟩



set_option maxHeartbeats 2000000 in
theorem mark_LDl (a : Option Addr) (len cap : Nat) (l : (List Dl)) (fp : List Nat) (k : Int) (w : World) (h : OwSl w a len cap l fp) (hnd : fp.Nodup) (hk0 : 0 ≤ k) (hk1 : k + (cntL l : Nat) ≤ 4611686018427387904) :
    Calls Try.prog 11 #[.slice a len cap, .int .i64 k] w fun e w' => e = .returned (.int .i64 (k + (cntL l : Nat))) ∧ Chg fp w w' ∧ OwSl w' a len cap (mkL l k) fp := by
  have hm := h.2.2.1
  have hlc := h.2.1
  have HL := hidden h.1
  have HN := hidden hnd
  have H := hidden h
  clear h hnd
  unfold maxLen at hm
  go_enter Try.func11, Try.ntmps11
  go_wp2_with fail
  go_loopw [5, 1] (fun i kk wr => ∃ j : Nat, j ≤ len ∧ i = .int .i64 j ∧ (∃ q : Int, kk = .int .i64 q ∧ q = k + (cntL (l.take j) : Nat)) ∧ Hid (Chg fp w wr) ∧ Hid (OwSl wr a len cap (mkP l k j) fp)) (fun i _ _ => len - (intOf i).toNat)
  case atStart => exact ⟨0, Nat.zero_le _, rfl, ⟨k, rfl, by simp [cntL]⟩, Chg.refl, by rw [mkP_zero]; exact H.out⟩
  case round =>
    obtain ⟨j, hj, rfl, ⟨q, rfl, hq⟩, HC, HO⟩ := hrel
    by_cases hlt : j < len
    · obtain ⟨d, hd⟩ : ∃ d, l[j]? = some d := ⟨_, List.getElem?_eq_getElem (by have := HL.out; omega)⟩
      obtain ⟨b, e, cs, f, ys, rfl, hB, hbf, hy, hE, hroom, ho, hfn, hff, hbnf, hset⟩ := HO.out.open HN.out (mkP_at hd)
      have hcl := cntL_take hd
      have hcl2 := cntL_le l (j + 1)
      have hm0 : mkP l k (j + 1) = (mkP l k j).set j (Mk.ov d q) := by rw [hq]; exact (mkP_step hd).symm
      have hcd : Mk.cnt d = 0 + cntL d.drop + cntL d.tell := rfl
      rw [hcd] at hcl
      clear hcd
      have hq0 : 0 ≤ q := by omega
      have hq1 : q + (0 + cntL d.drop + cntL d.tell : Nat) ≤ 4611686018427387904 := by omega
      have HQ : Hid (q + (0 + cntL d.drop + cntL d.tell : Nat) = k + (cntL (l.take (j + 1)) : Nat)) := by show q + (0 + cntL d.drop + cntL d.tell : Nat) = _; omega
      clear hcl hcl2 hq
      obtain ⟨a_drop, n_drop, c_drop, a_tell, n_tell, c_tell, q0, q1, rfl, o0, o1, rfl⟩ := ho
      obtain ⟨hn0, hn1, hn2⟩ := List.nodup_append.1 hfn
      have HDJ : Hid (∀ x ∈ q0, x ∉ q1) := fun x hx hy => hn2 x hx x hy rfl
      clear hn2
      have hb0 : b ∉ q0 := fun hx => hbnf (List.mem_append_left _ hx)
      have hb1 : b ∉ q1 := fun hx => hbnf (List.mem_append_right _ hx)
      have hroom' : j * 2 + 2 ≤ cs.length := hroom
      have e0 : cs[j * 2]? = some (.slice a_drop n_drop c_drop) := by have := hE 0 _ rfl; simpa [Lay.n] using this
      have c0 : _ := hB.cell e0
      have z0 := hB.frozen (j * 2)
      have e1 : cs[j * 2 + 1]? = some (.slice a_tell n_tell c_tell) := by have := hE 1 _ rfl; simpa [Lay.n] using this
      have c1 : _ := hB.cell e1
      have z1 := hB.frozen (j * 2 + 1)
      have lb := hB.lt
      have E0 := hidden e0
      have E1 := hidden e1
      have HB := hidden hB
      have HS := hidden hset
      have HFF := hidden hff
      have HBF := hidden hbf
      have HR := hidden hroom
      have HM := hidden hm0
      clear hB hset hff hbf hroom hm0 hE hy e0 e1
      have O0 := hidden o0
      have O1 := hidden o1
      clear o0 o1
      have tk := True.intro
      go_wp2_with (first | (first | ((go_at_call 24; have _t := tk; (with_reducible refine (mark_LRg _ _ _ d.drop q0 _ _ (OwSl.frame O0.out (fun x hx => by have hxb := ne_of_mem hx hb0; have hxl := OwSl.lt O0.out x hx; exact (Kp.of (by repeat (first | with_reducible exact Kp.refl | with_reducible refine Kp.set ?_ hxb))))) hn0 (by omega) (by omega)).mono ?_); rintro _ W1 ⟨rfl, C0, P0⟩; have C0 := hidden C0; have P0 := hidden P0; have HB1 := hidden (Blk.of_heap (w' := W1) (Blk.same HB.out (j := j * 2) (by (repeat rw [List.getElem?_set_ne (by omega)]); exact E0.out)) (C0.out.2 b (by first | assumption | go_simp | (simp [World.setCell]; omega)) hb0)); have m0_1 : W1.cell? ⟨b, j * 2 + 1, none⟩ = some (.slice a_tell n_tell c_tell) := (C0.out.cell (by first | assumption | go_simp | (simp [World.setCell]; omega)) hb0 _).trans (by first | assumption | go_simp); have y0_1 : W1.frozen? ⟨b, j * 2 + 1, none⟩ = false := (C0.out.frozen (by first | assumption | go_simp | (simp [World.setCell]; omega)) hb0 _).trans (by first | assumption | go_simp); have lb1 : b < W1.heap.size := HB1.out.lt; clear c0 z0 c1 z1 tk _t)) | ((go_at_call 25; (with_reducible refine (mark_LRt _ _ _ d.tell q1 _ _ (OwSl.frame O1.out (fun x hx => by have hxb := ne_of_mem hx hb1; have hxl := OwSl.lt O1.out x hx; have hx0 := disj_swap HDJ.out hx; exact (Kp.of (by repeat (first | with_reducible exact Kp.refl | with_reducible refine Kp.set ?_ hxb | with_reducible refine Kp.chg ?_ hxl C0.out hx0))))) hn1 (by omega) (by omega)).mono ?_); rintro _ W2 ⟨rfl, C1, P1⟩; have C1 := hidden C1; have P1 := hidden P1; have HB2 := hidden (Blk.of_heap (w' := W2) (Blk.same HB1.out (j := j * 2 + 1) (by (repeat rw [List.getElem?_set_ne (by omega)]); exact E1.out)) (C1.out.2 b (by first | assumption | go_simp | (simp [World.setCell]; omega)) hb1)); have lb2 : b < W2.heap.size := HB2.out.lt))) | ((first | with_reducible refine wp_region_qe (by kernel_rfl) (by kernel_rfl) ?_ | with_reducible refine wp_region_q (by kernel_rfl) (by kernel_rfl) ?_); (repeat (go_big_quiet_step ((first | ((go_at_call 24; have _t := tk; (with_reducible refine (mark_LRg _ _ _ d.drop q0 _ _ (OwSl.frame O0.out (fun x hx => by have hxb := ne_of_mem hx hb0; have hxl := OwSl.lt O0.out x hx; exact (Kp.of (by repeat (first | with_reducible exact Kp.refl | with_reducible refine Kp.set ?_ hxb))))) hn0 (by omega) (by omega)).mono ?_); rintro _ W1 ⟨rfl, C0, P0⟩; have C0 := hidden C0; have P0 := hidden P0; have HB1 := hidden (Blk.of_heap (w' := W1) (Blk.same HB.out (j := j * 2) (by (repeat rw [List.getElem?_set_ne (by omega)]); exact E0.out)) (C0.out.2 b (by first | assumption | go_simp | (simp [World.setCell]; omega)) hb0)); have m0_1 : W1.cell? ⟨b, j * 2 + 1, none⟩ = some (.slice a_tell n_tell c_tell) := (C0.out.cell (by first | assumption | go_simp | (simp [World.setCell]; omega)) hb0 _).trans (by first | assumption | go_simp); have y0_1 : W1.frozen? ⟨b, j * 2 + 1, none⟩ = false := (C0.out.frozen (by first | assumption | go_simp | (simp [World.setCell]; omega)) hb0 _).trans (by first | assumption | go_simp); have lb1 : b < W1.heap.size := HB1.out.lt; clear c0 z0 c1 z1 tk _t)) | ((go_at_call 25; (with_reducible refine (mark_LRt _ _ _ d.tell q1 _ _ (OwSl.frame O1.out (fun x hx => by have hxb := ne_of_mem hx hb1; have hxl := OwSl.lt O1.out x hx; have hx0 := disj_swap HDJ.out hx; exact (Kp.of (by repeat (first | with_reducible exact Kp.refl | with_reducible refine Kp.set ?_ hxb | with_reducible refine Kp.chg ?_ hxl C0.out hx0))))) hn1 (by omega) (by omega)).mono ?_); rintro _ W2 ⟨rfl, C1, P1⟩; have C1 := hidden C1; have P1 := hidden P1; have HB2 := hidden (Blk.of_heap (w' := W2) (Blk.same HB1.out (j := j * 2 + 1) (by (repeat rw [List.getElem?_set_ne (by omega)]); exact E1.out)) (C1.out.2 b (by first | assumption | go_simp | (simp [World.setCell]; omega)) hb1)); have lb2 : b < W2.heap.size := HB2.out.lt)))))); refine wpQuiet_nil ?_; intro x))
      go_roundw
      case rel =>
        refine ⟨j + 1, by omega, by go_num, ⟨_, rfl, by have := HQ.out; omega⟩, HC.out.trans (by repeat (first | with_reducible exact Chg.refl | with_reducible refine Chg.tset ?_ HBF.out | with_reducible refine Chg.trans ?_ (Chg.mono C1.out (fun x hx => HFF.out x (by simp [hx]))) | with_reducible refine Chg.trans ?_ (Chg.mono C0.out (fun x hx => HFF.out x (by simp [hx]))))), ?_⟩
        rw [HM.out]
        refine HS.out _ [_, _] _ rfl HB2.out ⟨a_drop, n_drop, c_drop, a_tell, n_tell, c_tell, q0, q1, (cons_eq rfl (cons_eq rfl rfl)), OwSl.frame (OwSl.num P0.out (by omega)) (fun x hx => by have hxb := ne_of_mem hx hb0; have hxl := OwSl.lt P0.out x hx; have hx1 := HDJ.out x hx; exact (Kp.of (by repeat (first | with_reducible exact Kp.refl | with_reducible refine Kp.set ?_ hxb | with_reducible refine Kp.chg ?_ hxl C1.out hx1)))), OwSl.frame (OwSl.num P1.out (by omega)) (fun x hx => by have hxb := ne_of_mem hx hb1; have hxl := OwSl.lt P1.out x hx; exact (Kp.of (by repeat (first | with_reducible exact Kp.refl | with_reducible refine Kp.set ?_ hxb)))), rfl⟩ (fun x hx hxb hxf => ?_)
        · have hxl := OwSl.lt HO.out x hx
          have hx0 : x ∉ q0 := fun h => hxf (by simp [h])
          have hx1 : x ∉ q1 := fun h => hxf (by simp [h])
          exact (Kp.of (by repeat (first | with_reducible exact Kp.refl | with_reducible refine Kp.set ?_ hxb | with_reducible refine Kp.chg ?_ hxl C0.out hx0 | with_reducible refine Kp.chg ?_ hxl C1.out hx1)))
      case measure => simp [intOf]; omega
    · obtain rfl : len = j := by omega
      go_wp2_with fail
      go_ret
      exact ⟨ret_int (by rw [List.take_of_length_le (Nat.le_of_eq HL.out)] at hq; omega), HC.out, by have := HO.out; rwa [mkP_all HL.out] at this⟩

set_option maxHeartbeats 2000000 in
theorem held_LDl (a : Option Addr) (len cap : Nat) (l : (List Dl)) (k : Int) (w : World) (h : SlRd w a len cap (mkL l k)) (hk0 : 0 ≤ k) (hk1 : k + (cntL l : Nat) ≤ 4611686018427387904) :
    Calls Try.prog 12 #[.slice a len cap, .int .i64 k] w fun e w' => e = .returned (.int .i64 (k + (cntL l : Nat))) ∧ Ext w w' := by
  have hm := h.2.2.1
  have hlc := h.2.1
  have hl : l.length = len := by have := h.1; rwa [length_mkL] at this
  have HL := hidden hl
  clear hl
  unfold maxLen at hm
  go_enter Try.func12, Try.ntmps12
  go_wp2_with fail
  go_loopw [5, 1] (fun i kk wr => ∃ j : Nat, j ≤ len ∧ i = .int .i64 j ∧ (∃ q : Int, kk = .int .i64 q ∧ q = k + (cntL (l.take j) : Nat)) ∧ Ext w wr) (fun i _ _ => len - (intOf i).toNat)
  case atStart => exact ⟨0, Nat.zero_le _, rfl, ⟨k, rfl, by simp [cntL]⟩, Ext.refl _⟩
  case round =>
    obtain ⟨j, hj, rfl, ⟨q, rfl, hq⟩, hE⟩ := hrel
    by_cases hlt : j < len
    · obtain ⟨d0, hd0⟩ : ∃ d, l[j]? = some d := ⟨_, List.getElem?_eq_getElem (by have := HL.out; omega)⟩
      have hcl := cntL_take hd0
      have hcl2 := cntL_le l (j + 1)
      obtain ⟨d, dhd, db, doff, dys, rfl, dhys, dhcell, dhrd⟩ := h.at hE hlt
      obtain ⟨da_drop, dn_drop, dc_drop, da_tell, dn_tell, dc_tell, rfl, dg0, dg1⟩ := dhrd
      have dc0 : wr.cell? ⟨db, doff + j * 2, none⟩ = some _ := dhcell 0 _ rfl
      have dc1 : wr.cell? ⟨db, doff + j * 2 + 1, none⟩ = some _ := dhcell 1 _ rfl
      have dlb := cell_lt dc0
      have dHD := hidden dhd
      clear dhcell dhys dhd
      have hdd : d = Mk.ov d0 q := by have h1 := dHD.out; rw [mkL_at hd0] at h1; rw [hq]; exact (Option.some.inj h1).symm
      have hcd : Mk.cnt d0 = 0 + cntL d0.drop + cntL d0.tell := rfl
      rw [hcd] at hcl
      clear hcd
      have hq0 : 0 ≤ q := by omega
      have hq1 : q + (0 + cntL d0.drop + cntL d0.tell : Nat) ≤ 4611686018427387904 := by omega
      have HQ : Hid (q + (0 + cntL d0.drop + cntL d0.tell : Nat) = k + (cntL (l.take (j + 1)) : Nat)) := by show q + (0 + cntL d0.drop + cntL d0.tell : Nat) = _; omega
      clear hcl hcl2 hq
      have u0 : d.drop = mkL d0.drop (q) := by rw [hdd]; rfl
      rw [u0] at dg0
      have u1 : d.tell = mkL d0.tell (q + (cntL d0.drop : Nat)) := by rw [hdd]; rfl
      rw [u1] at dg1
      clear hdd u0 u1
      have tk := True.intro
      go_wp2_with (first | (first | ((go_at_call 26; have _t := tk; (with_reducible refine (held_LRg _ _ _ (d0.drop) (q) _ (dg0.stays ((by repeat (first | with_reducible exact Ext.refl _ | with_reducible apply Ext.and | with_reducible apply Ext.drewx | with_reducible apply Ext.alloc | with_reducible apply Ext.ext | with_reducible apply Ext.drew | with_reducible refine Ext.setCell ?_ (by simp) _)) : Ext _ _).below) (by omega) (by omega)).mono ?_); rintro _ _ ⟨rfl, x0, rfl⟩; clear tk _t)) | (go_at_call 27; (with_reducible refine (held_LRt _ _ _ (d0.tell) (q + (cntL d0.drop : Nat)) _ (dg1.stays ((by repeat (first | with_reducible exact Ext.refl _ | with_reducible apply Ext.and | with_reducible apply Ext.drewx | with_reducible apply Ext.alloc | with_reducible apply Ext.ext | with_reducible apply Ext.drew | with_reducible refine Ext.setCell ?_ (by simp) _)) : Ext _ _).below) (by omega) (by omega)).mono ?_); rintro _ _ ⟨rfl, x, rfl⟩)) | ((first | with_reducible refine wp_region_qe (by kernel_rfl) (by kernel_rfl) ?_ | with_reducible refine wp_region_q (by kernel_rfl) (by kernel_rfl) ?_); (repeat (go_big_quiet_step ((first | ((go_at_call 26; have _t := tk; (with_reducible refine (held_LRg _ _ _ (d0.drop) (q) _ (dg0.stays ((by repeat (first | with_reducible exact Ext.refl _ | with_reducible apply Ext.and | with_reducible apply Ext.drewx | with_reducible apply Ext.alloc | with_reducible apply Ext.ext | with_reducible apply Ext.drew | with_reducible refine Ext.setCell ?_ (by simp) _)) : Ext _ _).below) (by omega) (by omega)).mono ?_); rintro _ _ ⟨rfl, x0, rfl⟩; clear tk _t)) | (go_at_call 27; first | with_reducible exact Calls.qb (by assumption) (held_LRt _ _ _ (d0.tell) (q + (cntL d0.drop : Nat)) _ (dg1.stays ((by repeat (first | with_reducible exact Ext.refl _ | with_reducible apply Ext.and | with_reducible apply Ext.drewx | with_reducible apply Ext.alloc | with_reducible apply Ext.ext | with_reducible apply Ext.drew | with_reducible refine Ext.setCell ?_ (by simp) _)) : Ext _ _).below) (by omega) (by omega)) | with_reducible exact Calls.q (held_LRt _ _ _ (d0.tell) (q + (cntL d0.drop : Nat)) _ (dg1.stays ((by repeat (first | with_reducible exact Ext.refl _ | with_reducible apply Ext.and | with_reducible apply Ext.drewx | with_reducible apply Ext.alloc | with_reducible apply Ext.ext | with_reducible apply Ext.drew | with_reducible refine Ext.setCell ?_ (by simp) _)) : Ext _ _).below) (by omega) (by omega))))))); refine wpQuiet_nil ?_; intro x))
      go_roundw
      case rel => exact ⟨j + 1, by omega, by go_num, ⟨_, rfl, by have := HQ.out; omega⟩, (by first | exact hE | exact hE.ext _ | exact hE.trans (by repeat (first | with_reducible exact Ext.refl _ | with_reducible apply Ext.and | with_reducible apply Ext.drewx | with_reducible apply Ext.alloc | with_reducible apply Ext.ext | with_reducible apply Ext.drew | with_reducible refine Ext.setCell ?_ (by simp) _)))⟩
      case measure => simp [intOf]; omega
    · obtain rfl : len = j := by omega
      go_wp2_with (first | ((first | with_reducible refine wp_region_qe (by kernel_rfl) (by kernel_rfl) ?_ | with_reducible refine wp_region_q (by kernel_rfl) (by kernel_rfl) ?_); (repeat (go_big_quiet_step (fail))); refine wpQuiet_nil ?_; intro x))
      go_ret
      exact ⟨ret_int (by rw [List.take_of_length_le (Nat.le_of_eq HL.out)] at hq; omega), (by first | exact hE | exact hE.ext _ | exact hE.trans (by repeat (first | with_reducible exact Ext.refl _ | with_reducible apply Ext.and | with_reducible apply Ext.drewx | with_reducible apply Ext.alloc | with_reducible apply Ext.ext | with_reducible apply Ext.drew | with_reducible refine Ext.setCell ?_ (by simp) _)))⟩

end Go.Proofs.Ytngehfhcnfobbaa
