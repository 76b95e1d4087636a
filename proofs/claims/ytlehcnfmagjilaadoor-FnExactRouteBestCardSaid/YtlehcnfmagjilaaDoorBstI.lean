/- The best of routes: the contest's methods. No condition. -/
import Derived.BigRegion
import Derived.Test.YtlehcnfmagjilaaDoorBst
import Derived.Test.YtlehcnfmagjilaaDoorIdx
namespace Go.Proofs.YtlehcnfmagjilaaDoor
open Go Go.RowKit

set_option maxHeartbeats 1000000 in
theorem indexRt_any (a : Option Addr) (len cap : Nat) (l : List Rt) (p : Rt → Bool) (g : FuncId) (cs : Array Value) (w : World) (hg : ∀ args w, (callFunc g args).run Tryd.prog w = .ok (.enter g args) w) (h : SlRd w a len cap l)
    (hf : ∀ (w' : World) (d : Rt) (a_path : Option Addr) (n_path c_path : Nat) (a_marks : Option Addr) (n_marks c_marks : Nat), Ext w w' → SlRd w' a_path n_path c_path d.path → SlRd w' a_marks n_marks c_marks d.marks → Calls Tryd.prog g (#[.agg #[.int .i64 d.r.f, .int .i64 d.r.b, .slice a_path n_path c_path, .int .i64 d.like, .slice a_marks n_marks c_marks]] ++ cs) w' fun e w2 => e = .returned (.bool (p d)) ∧ Ext w' w2) :
    Calls Tryd.prog 79 #[.slice a len cap, .func (.func g) #[] cs] w fun e w' => e = .returned (.int .i64 (findI p l)) ∧ Ext w w' := by
  have hm := h.2.2.1
  have hlc := h.2.1
  have HL := hidden h.1
  have HF := hidden hf
  clear hf
  unfold maxLen at hm
  go_enter Tryd.func79, Tryd.ntmps79
  go_wp2_with fail
  go_loopw [8] (fun i wr => ∃ k : Nat, k ≤ len ∧ i = .int .i64 k ∧ Ext w wr ∧ Hid ((l.take k).any p = false)) (fun i _ => len - (intOf i).toNat)
  case atStart => exact ⟨0, Nat.zero_le _, rfl, Ext.refl _, rfl⟩
  case round =>
    obtain ⟨k, hk, rfl, hE, HT⟩ := hrel
    by_cases hlt : k < len
    · obtain ⟨d, hd, b, off, ys, rfl, hys, hcell, hrd⟩ := h.at hE hlt
      obtain ⟨a_path, n_path, c_path, a_marks, n_marks, c_marks, rfl, g0, g1, g2, g3, g4⟩ := hrd
      have c0 : wr.cell? ⟨b, off + k * 5, none⟩ = some _ := hcell 0 _ rfl
      have c1 : wr.cell? ⟨b, off + k * 5 + 1, none⟩ = some _ := hcell 1 _ rfl
      have c2 : wr.cell? ⟨b, off + k * 5 + 2, none⟩ = some _ := hcell 2 _ rfl
      have c3 : wr.cell? ⟨b, off + k * 5 + 3, none⟩ = some _ := hcell 3 _ rfl
      have c4 : wr.cell? ⟨b, off + k * 5 + 4, none⟩ = some _ := hcell 4 _ rfl
      have lb := cell_lt c0
      have HD := hidden hd
      clear hcell hys hd
      cases hp : p d
      · go_wp2_with (first | ((with_reducible refine (HF.out _ d _ _ _ _ _ _ (by first | exact hE | exact hE.ext _ | exact hE.trans (by repeat (first | with_reducible exact Ext.refl _ | with_reducible apply Ext.and | with_reducible apply Ext.drewx | with_reducible apply Ext.alloc | with_reducible apply Ext.ext | with_reducible apply Ext.drew | with_reducible refine Ext.setCell ?_ (by simp) _))) (g2.stays ((by repeat (first | with_reducible exact Ext.refl _ | with_reducible apply Ext.and | with_reducible apply Ext.drewx | with_reducible apply Ext.alloc | with_reducible apply Ext.ext | with_reducible apply Ext.drew | with_reducible refine Ext.setCell ?_ (by simp) _)) : Ext _ _).below) (g4.stays ((by repeat (first | with_reducible exact Ext.refl _ | with_reducible apply Ext.and | with_reducible apply Ext.drewx | with_reducible apply Ext.alloc | with_reducible apply Ext.ext | with_reducible apply Ext.drew | with_reducible refine Ext.setCell ?_ (by simp) _)) : Ext _ _).below)).mono ?_); rintro _ _ ⟨rfl, x, rfl⟩))
        go_roundw
        case rel => exact ⟨k + 1, by omega, by go_num, (by first | exact hE | exact hE.ext _ | exact hE.trans (by repeat (first | with_reducible exact Ext.refl _ | with_reducible apply Ext.and | with_reducible apply Ext.drewx | with_reducible apply Ext.alloc | with_reducible apply Ext.ext | with_reducible apply Ext.drew | with_reducible refine Ext.setCell ?_ (by simp) _))), any_succ HT.out HD.out hp⟩
        case measure => simp [intOf]; omega
      · go_wp2_with (first | ((with_reducible refine (HF.out _ d _ _ _ _ _ _ (by first | exact hE | exact hE.ext _ | exact hE.trans (by repeat (first | with_reducible exact Ext.refl _ | with_reducible apply Ext.and | with_reducible apply Ext.drewx | with_reducible apply Ext.alloc | with_reducible apply Ext.ext | with_reducible apply Ext.drew | with_reducible refine Ext.setCell ?_ (by simp) _))) (g2.stays ((by repeat (first | with_reducible exact Ext.refl _ | with_reducible apply Ext.and | with_reducible apply Ext.drewx | with_reducible apply Ext.alloc | with_reducible apply Ext.ext | with_reducible apply Ext.drew | with_reducible refine Ext.setCell ?_ (by simp) _)) : Ext _ _).below) (g4.stays ((by repeat (first | with_reducible exact Ext.refl _ | with_reducible apply Ext.and | with_reducible apply Ext.drewx | with_reducible apply Ext.alloc | with_reducible apply Ext.ext | with_reducible apply Ext.drew | with_reducible refine Ext.setCell ?_ (by simp) _)) : Ext _ _).below)).mono ?_); rintro _ _ ⟨rfl, x, rfl⟩))
        go_ret
        exact ⟨ret_int (findI_at HT.out HD.out hp).symm, (by first | exact hE | exact hE.ext _ | exact hE.trans (by repeat (first | with_reducible exact Ext.refl _ | with_reducible apply Ext.and | with_reducible apply Ext.drewx | with_reducible apply Ext.alloc | with_reducible apply Ext.ext | with_reducible apply Ext.drew | with_reducible refine Ext.setCell ?_ (by simp) _)))⟩
    · obtain rfl : k = len := by omega
      go_wp2_with (first | ((first | with_reducible refine wp_region_qe (by kernel_rfl) (by kernel_rfl) ?_ | with_reducible refine wp_region_q (by kernel_rfl) (by kernel_rfl) ?_); (repeat (go_big_quiet_step (fail))); refine wpQuiet_nil ?_; intro x))
      go_ret
      exact ⟨ret_int (by have := HT.out; rw [List.take_of_length_le (Nat.le_of_eq HL.out)] at this; exact (findI_no this).symm), (by first | exact hE | exact hE.ext _ | exact hE.trans (by repeat (first | with_reducible exact Ext.refl _ | with_reducible apply Ext.and | with_reducible apply Ext.drewx | with_reducible apply Ext.alloc | with_reducible apply Ext.ext | with_reducible apply Ext.drew | with_reducible refine Ext.setCell ?_ (by simp) _)))⟩
set_option maxHeartbeats 1000000 in
theorem containsRt_any (a : Option Addr) (len cap : Nat) (l : List Rt) (p : Rt → Bool) (g : FuncId) (cs : Array Value) (w : World) (hg : ∀ args w, (callFunc g args).run Tryd.prog w = .ok (.enter g args) w) (h : SlRd w a len cap l)
    (hf : ∀ (w' : World) (d : Rt) (a_path : Option Addr) (n_path c_path : Nat) (a_marks : Option Addr) (n_marks c_marks : Nat), Ext w w' → SlRd w' a_path n_path c_path d.path → SlRd w' a_marks n_marks c_marks d.marks → Calls Tryd.prog g (#[.agg #[.int .i64 d.r.f, .int .i64 d.r.b, .slice a_path n_path c_path, .int .i64 d.like, .slice a_marks n_marks c_marks]] ++ cs) w' fun e w2 => e = .returned (.bool (p d)) ∧ Ext w' w2) :
    Calls Tryd.prog 51 #[.slice a len cap, .func (.func g) #[] cs] w fun e w' => e = .returned (.bool (l.any p)) ∧ Ext w w' := by
  have H := hidden (indexRt_any a len cap l p g cs w hg h hf)
  clear hg hf
  rw [← findI_ge]
  go_enter Tryd.func51, Tryd.ntmps51
  go_wp2_with (first | (go_at_call 79; (with_reducible refine H.out.mono ?_); rintro _ _ ⟨rfl, x, rfl⟩))
  all_goals
    go_ret
    exact ⟨ret_bool (by simp [*]), (by repeat (first | with_reducible exact Ext.refl _ | with_reducible apply Ext.and | with_reducible apply Ext.drewx | with_reducible apply Ext.alloc | with_reducible apply Ext.ext | with_reducible apply Ext.drew | with_reducible refine Ext.setCell ?_ (by simp) _))⟩

/-- What a contest is in memory: the routes, and the indexes of those that were entered. -/
def Cst (w0 w : World) (B : Nat) (a : Option Addr) (n c : Nat) (v : Value) (idx : List Int) : Prop :=
  Ext w0 w ∧ w0.heap.size ≤ B ∧ Blk w B 78 [.slice a n c, v] ∧ AccF (B + 1) 3 w v idx
section
variable {w0 w w' : World} {B : Nat} {a : Option Addr} {n c : Nat} {v : Value} {idx : List Int}
theorem Cst.ext (h : Cst w0 w B a n c v idx) (k : Ext w w') : Cst w0 w' B a n c v idx := ⟨h.1.trans k, h.2.1, h.2.2.1.extends k, h.2.2.2.ext k⟩
theorem Cst.shape (h : Cst w0 w B a n c v idx) : ∃ g d, v = .slice g idx.length d := h.2.2.2.shape
end

set_option maxHeartbeats 2000000 in
theorem bestFn_any (ea : Addr) (d : Rt) (a1 : Option Addr) (n1 c1 : Nat) (a2 : Option Addr) (n2 c2 : Nat) (w : World) (h1 : SlRd w a1 n1 c1 d.path) (h2 : SlRd w a2 n2 c2 d.marks) (hp : EP w ea) :
    Calls Tryd.prog 52 #[.agg #[.int .i64 d.r.f, .int .i64 d.r.b, .slice a1 n1 c1, .int .i64 d.like, .slice a2 n2 c2]] w fun e w' => e = .returned (.bool (!rtOk d)) ∧ Ext w w' := by
  go_enter Tryd.func52, Tryd.ntmps52
  go_wp2_with (first | (first | (go_at_call 53; (with_reducible refine (iRouteOk_any ea d _ _ _ _ _ _ _ (h1.stays ((by repeat (first | with_reducible exact Ext.refl _ | with_reducible apply Ext.and | with_reducible apply Ext.drewx | with_reducible apply Ext.alloc | with_reducible apply Ext.ext | with_reducible apply Ext.drew | with_reducible refine Ext.setCell ?_ (by simp) _)) : Ext _ _).below) (h2.stays ((by repeat (first | with_reducible exact Ext.refl _ | with_reducible apply Ext.and | with_reducible apply Ext.drewx | with_reducible apply Ext.alloc | with_reducible apply Ext.ext | with_reducible apply Ext.drew | with_reducible refine Ext.setCell ?_ (by simp) _)) : Ext _ _).below) (hp.later (by repeat (first | with_reducible exact Ext.refl _ | with_reducible apply Ext.and | with_reducible apply Ext.drewx | with_reducible apply Ext.alloc | with_reducible apply Ext.ext | with_reducible apply Ext.drew | with_reducible refine Ext.setCell ?_ (by simp) _)))).mono ?_); rintro _ _ ⟨rfl, x, rfl⟩)) | ((first | with_reducible refine wp_region_qe (by kernel_rfl) (by kernel_rfl) ?_ | with_reducible refine wp_region_q (by kernel_rfl) (by kernel_rfl) ?_); (repeat' (first | go_big_quiet_step ((first | (go_at_call 53; first | with_reducible exact Calls.qb (by assumption) (iRouteOk_any ea d _ _ _ _ _ _ _ (h1.stays ((by repeat (first | with_reducible exact Ext.refl _ | with_reducible apply Ext.and | with_reducible apply Ext.drewx | with_reducible apply Ext.alloc | with_reducible apply Ext.ext | with_reducible apply Ext.drew | with_reducible refine Ext.setCell ?_ (by simp) _)) : Ext _ _).below) (h2.stays ((by repeat (first | with_reducible exact Ext.refl _ | with_reducible apply Ext.and | with_reducible apply Ext.drewx | with_reducible apply Ext.alloc | with_reducible apply Ext.ext | with_reducible apply Ext.drew | with_reducible refine Ext.setCell ?_ (by simp) _)) : Ext _ _).below) (hp.later (by repeat (first | with_reducible exact Ext.refl _ | with_reducible apply Ext.and | with_reducible apply Ext.drewx | with_reducible apply Ext.alloc | with_reducible apply Ext.ext | with_reducible apply Ext.drew | with_reducible refine Ext.setCell ?_ (by simp) _)))) | with_reducible exact Calls.q (iRouteOk_any ea d _ _ _ _ _ _ _ (h1.stays ((by repeat (first | with_reducible exact Ext.refl _ | with_reducible apply Ext.and | with_reducible apply Ext.drewx | with_reducible apply Ext.alloc | with_reducible apply Ext.ext | with_reducible apply Ext.drew | with_reducible refine Ext.setCell ?_ (by simp) _)) : Ext _ _).below) (h2.stays ((by repeat (first | with_reducible exact Ext.refl _ | with_reducible apply Ext.and | with_reducible apply Ext.drewx | with_reducible apply Ext.alloc | with_reducible apply Ext.ext | with_reducible apply Ext.drew | with_reducible refine Ext.setCell ?_ (by simp) _)) : Ext _ _).below) (hp.later (by repeat (first | with_reducible exact Ext.refl _ | with_reducible apply Ext.and | with_reducible apply Ext.drewx | with_reducible apply Ext.alloc | with_reducible apply Ext.ext | with_reducible apply Ext.drew | with_reducible refine Ext.setCell ?_ (by simp) _))))))) | (refine wpQuiet_split rfl rfl rfl rfl (fun hsp => ?_) (fun hsp => ?_); ((fail_if_success (cases hsp; done)); simp only [hsp]; (try first | have hsq : _ < _ := of_decide_eq_true hsp | have hsq : _ ≤ _ := of_decide_eq_true hsp | have hsq : ¬ _ < _ := of_decide_eq_false hsp | have hsq : ¬ _ ≤ _ := of_decide_eq_false hsp)); rotate_left; ((fail_if_success (cases hsp; done)); simp only [hsp]; (try first | have hsq : _ < _ := of_decide_eq_true hsp | have hsq : _ ≤ _ := of_decide_eq_true hsp | have hsq : ¬ _ < _ := of_decide_eq_false hsp | have hsq : ¬ _ ≤ _ := of_decide_eq_false hsp))))); (all_goals (refine wpQuiet_nil ?_; intro x))))
  go_ret
  exact ⟨rfl, (by repeat (first | with_reducible exact Ext.refl _ | with_reducible apply Ext.and | with_reducible apply Ext.drewx | with_reducible apply Ext.alloc | with_reducible apply Ext.ext | with_reducible apply Ext.drew | with_reducible refine Ext.setCell ?_ (by simp) _))⟩

set_option maxHeartbeats 2000000 in
theorem ctLen_any (w0 : World) (B : Nat) (a : Option Addr) (n c : Nat) (v : Value) (idx : List Int) (w : World) (h : Cst w0 w B a n c v idx) :
    Calls Tryd.prog 149 #[.pointer (some ⟨B, 0, none⟩)] w fun e w' => e = .returned (.int .i64 idx.length) ∧ Ext w w' := by
  obtain ⟨g, d, rfl⟩ := h.shape
  have c1 := h.2.2.1.cell (j := 1) rfl
  have lt := h.2.2.1.lt
  clear h
  go_enter Tryd.func149, Tryd.ntmps149
  go_wp2_with (first | ((first | with_reducible refine wp_region_qe (by kernel_rfl) (by kernel_rfl) ?_ | with_reducible refine wp_region_q (by kernel_rfl) (by kernel_rfl) ?_); (repeat' (first | go_big_quiet_step (fail) | (refine wpQuiet_split rfl rfl rfl rfl (fun hsp => ?_) (fun hsp => ?_); ((fail_if_success (cases hsp; done)); simp only [hsp]; (try first | have hsq : _ < _ := of_decide_eq_true hsp | have hsq : _ ≤ _ := of_decide_eq_true hsp | have hsq : ¬ _ < _ := of_decide_eq_false hsp | have hsq : ¬ _ ≤ _ := of_decide_eq_false hsp)); rotate_left; ((fail_if_success (cases hsp; done)); simp only [hsp]; (try first | have hsq : _ < _ := of_decide_eq_true hsp | have hsq : _ ≤ _ := of_decide_eq_true hsp | have hsq : ¬ _ < _ := of_decide_eq_false hsp | have hsq : ¬ _ ≤ _ := of_decide_eq_false hsp))))); (all_goals (refine wpQuiet_nil ?_; intro x))))
  go_ret
  exact ⟨rfl, (by repeat (first | with_reducible exact Ext.refl _ | with_reducible apply Ext.and | with_reducible apply Ext.drewx | with_reducible apply Ext.alloc | with_reducible apply Ext.ext | with_reducible apply Ext.drew | with_reducible refine Ext.setCell ?_ (by simp) _))⟩

set_option maxHeartbeats 4000000 in
theorem ctLess_any (ea : Addr) (l : List Rt) (w0 : World) (B : Nat) (a : Option Addr) (n c : Nat) (v : Value) (idx : List Int) (i j : Nat) (x y : Int) (w : World) (h : Cst w0 w B a n c v idx) (hl : SlRd w0 a n c l) (hA : l.all rtOk = true)
    (hx : idx[i]? = some x) (hy : idx[j]? = some y) (bx : 0 ≤ x ∧ x.toNat < l.length) (bd : 0 ≤ y ∧ y.toNat < l.length) (hp : EP w0 ea) :
    Calls Tryd.prog 150 #[.pointer (some ⟨B, 0, none⟩), .int .i64 i, .int .i64 j] w fun e w' => e = .returned (.bool (lessI l x y)) ∧ Ext w w' := by
  obtain ⟨g, m, rfl⟩ := h.shape
  have c0 := h.2.2.1.cell (j := 0) rfl
  have c1 := h.2.2.1.cell (j := 1) rfl
  have lt := h.2.2.1.lt
  have hs := h.2.2.2.sl
  have hlw := hl.stays h.1.below
  have HP := hidden (hp.later h.1)
  have hi := (List.getElem?_eq_some_iff.1 hx).1
  have hj := (List.getElem?_eq_some_iff.1 hy).1
  have hm := hs.2.2.1
  have hlc := hs.2.1
  have hm2 := hlw.2.2.1
  have hlc2 := hlw.2.1
  have hn := hlw.1
  unfold maxLen at hm hm2
  obtain ⟨p, rfl⟩ := Int.eq_ofNat_of_zero_le bx.1
  obtain ⟨q, rfl⟩ := Int.eq_ofNat_of_zero_le bd.1
  have hpn : p < n := by have := bx.2; simp at this; omega
  have hqn : q < n := by have := bd.2; simp at this; omega
  clear bx bd h hl hp
  obtain ⟨xx, phd, pb, poff, pys, rfl, phys, phcell, phrd⟩ := hs.at (Ext.refl w) hi
  obtain ⟨rfl, pg0⟩ := phrd
  have pc0 : w.cell? ⟨pb, poff + i, none⟩ = some (.int .i64 xx) := by have := phcell 0 _ rfl; simpa [Lay.n] using this
  have plb := cell_lt pc0
  have pHD := hidden phd
  clear phcell phys phd
  obtain rfl := Option.some.inj (hx.symm.trans pHD.out)
  obtain ⟨yy, qhd, qb, qoff, qys, qhbb, qhys, qhcell, qhrd⟩ := hs.at (Ext.refl w) hj
  obtain ⟨rfl, rfl⟩ : pb = qb ∧ poff = qoff := by simpa using qhbb
  obtain ⟨rfl, qg0⟩ := qhrd
  have qc0 : w.cell? ⟨pb, poff + j, none⟩ = some (.int .i64 yy) := by have := qhcell 0 _ rfl; simpa [Lay.n] using this
  have qlb := cell_lt qc0
  have qHD := hidden qhd
  clear qhcell qhys qhd
  obtain rfl := Option.some.inj (hy.symm.trans qHD.out)
  clear hx hy pHD qHD
  obtain ⟨d, dhd, db, doff, dys, rfl, dhys, dhcell, dhrd⟩ := hlw.at (Ext.refl w) hpn
  obtain ⟨da_path, dn_path, dc_path, da_marks, dn_marks, dc_marks, rfl, dg0, dg1, dg2, dg3, dg4⟩ := dhrd
  have dc0 : w.cell? ⟨db, doff + p * 5, none⟩ = some _ := dhcell 0 _ rfl
  have dc1 : w.cell? ⟨db, doff + p * 5 + 1, none⟩ = some _ := dhcell 1 _ rfl
  have dc2 : w.cell? ⟨db, doff + p * 5 + 2, none⟩ = some _ := dhcell 2 _ rfl
  have dc3 : w.cell? ⟨db, doff + p * 5 + 3, none⟩ = some _ := dhcell 3 _ rfl
  have dc4 : w.cell? ⟨db, doff + p * 5 + 4, none⟩ = some _ := dhcell 4 _ rfl
  have dlb := cell_lt dc0
  have dHD := hidden dhd
  clear dhcell dhys dhd
  obtain ⟨e, ehd, eb, eoff, eys, ehbb, ehys, ehcell, ehrd⟩ := hlw.at (Ext.refl w) hqn
  obtain ⟨rfl, rfl⟩ : db = eb ∧ doff = eoff := by simpa using ehbb
  obtain ⟨ea_e_path, en_e_path, ec_e_path, ea_e_marks, en_e_marks, ec_e_marks, rfl, eg0, eg1, eg2, eg3, eg4⟩ := ehrd
  have ec0 : w.cell? ⟨db, doff + q * 5, none⟩ = some _ := ehcell 0 _ rfl
  have ec1 : w.cell? ⟨db, doff + q * 5 + 1, none⟩ = some _ := ehcell 1 _ rfl
  have ec2 : w.cell? ⟨db, doff + q * 5 + 2, none⟩ = some _ := ehcell 2 _ rfl
  have ec3 : w.cell? ⟨db, doff + q * 5 + 3, none⟩ = some _ := ehcell 3 _ rfl
  have ec4 : w.cell? ⟨db, doff + q * 5 + 4, none⟩ = some _ := ehcell 4 _ rfl
  have elb := cell_lt ec0
  have eHD := hidden ehd
  clear ehcell ehys ehd
  have HA := hidden (List.all_eq_true.1 hA d (List.mem_of_getElem? dHD.out))
  have HB := hidden (List.all_eq_true.1 hA e (List.mem_of_getElem? eHD.out))
  have HR := hidden (show decide (orL [routeC d e, cmpI (p : Int) (q : Int)] < 0) = lessI l p q by
    rw [show routeC d e = rtC d e by unfold routeC; rw [if_pos ⟨HA.out, HB.out⟩]]
    exact lessI_eq (by simpa using dHD.out) (by simpa using eHD.out))
  rw [← HR.out]
  clear hA hn
  go_enter Tryd.func150, Tryd.ntmps150
  go_wp2_with (first | (first | (go_at_call 153; (with_reducible refine (iRouteCmp_any ea d e _ _ _ _ _ _ _ _ _ _ _ _ _ (dg2.stays ((by repeat (first | with_reducible exact Ext.refl _ | with_reducible apply Ext.and | with_reducible apply Ext.drewx | with_reducible apply Ext.alloc | with_reducible apply Ext.ext | with_reducible apply Ext.drew | with_reducible refine Ext.setCell ?_ (by simp) _)) : Ext _ _).below) (dg4.stays ((by repeat (first | with_reducible exact Ext.refl _ | with_reducible apply Ext.and | with_reducible apply Ext.drewx | with_reducible apply Ext.alloc | with_reducible apply Ext.ext | with_reducible apply Ext.drew | with_reducible refine Ext.setCell ?_ (by simp) _)) : Ext _ _).below) (eg2.stays ((by repeat (first | with_reducible exact Ext.refl _ | with_reducible apply Ext.and | with_reducible apply Ext.drewx | with_reducible apply Ext.alloc | with_reducible apply Ext.ext | with_reducible apply Ext.drew | with_reducible refine Ext.setCell ?_ (by simp) _)) : Ext _ _).below) (eg4.stays ((by repeat (first | with_reducible exact Ext.refl _ | with_reducible apply Ext.and | with_reducible apply Ext.drewx | with_reducible apply Ext.alloc | with_reducible apply Ext.ext | with_reducible apply Ext.drew | with_reducible refine Ext.setCell ?_ (by simp) _)) : Ext _ _).below) (HP.out.later (by repeat (first | with_reducible exact Ext.refl _ | with_reducible apply Ext.and | with_reducible apply Ext.drewx | with_reducible apply Ext.alloc | with_reducible apply Ext.ext | with_reducible apply Ext.drew | with_reducible refine Ext.setCell ?_ (by simp) _)))).mono ?_); rintro _ _ ⟨rfl, x, rfl⟩) | (go_at_call 83; (with_reducible refine (compare_any _ _ _).mono ?_); rintro _ _ ⟨rfl, x, rfl⟩) | (go_at_call 82; (with_reducible refine (or2_any (routeC d e) (cmpI p q) _ _ _ (by simp [go_sem]) (by simp [go_sem])).mono ?_); rintro _ _ ⟨rfl, x, rfl⟩)) | ((first | with_reducible refine wp_region_qe (by kernel_rfl) (by kernel_rfl) ?_ | with_reducible refine wp_region_q (by kernel_rfl) (by kernel_rfl) ?_); (repeat' (first | go_big_quiet_step ((first | (go_at_call 153; first | with_reducible exact Calls.qb (by assumption) (iRouteCmp_any ea d e _ _ _ _ _ _ _ _ _ _ _ _ _ (dg2.stays ((by repeat (first | with_reducible exact Ext.refl _ | with_reducible apply Ext.and | with_reducible apply Ext.drewx | with_reducible apply Ext.alloc | with_reducible apply Ext.ext | with_reducible apply Ext.drew | with_reducible refine Ext.setCell ?_ (by simp) _)) : Ext _ _).below) (dg4.stays ((by repeat (first | with_reducible exact Ext.refl _ | with_reducible apply Ext.and | with_reducible apply Ext.drewx | with_reducible apply Ext.alloc | with_reducible apply Ext.ext | with_reducible apply Ext.drew | with_reducible refine Ext.setCell ?_ (by simp) _)) : Ext _ _).below) (eg2.stays ((by repeat (first | with_reducible exact Ext.refl _ | with_reducible apply Ext.and | with_reducible apply Ext.drewx | with_reducible apply Ext.alloc | with_reducible apply Ext.ext | with_reducible apply Ext.drew | with_reducible refine Ext.setCell ?_ (by simp) _)) : Ext _ _).below) (eg4.stays ((by repeat (first | with_reducible exact Ext.refl _ | with_reducible apply Ext.and | with_reducible apply Ext.drewx | with_reducible apply Ext.alloc | with_reducible apply Ext.ext | with_reducible apply Ext.drew | with_reducible refine Ext.setCell ?_ (by simp) _)) : Ext _ _).below) (HP.out.later (by repeat (first | with_reducible exact Ext.refl _ | with_reducible apply Ext.and | with_reducible apply Ext.drewx | with_reducible apply Ext.alloc | with_reducible apply Ext.ext | with_reducible apply Ext.drew | with_reducible refine Ext.setCell ?_ (by simp) _)))) | with_reducible exact Calls.q (iRouteCmp_any ea d e _ _ _ _ _ _ _ _ _ _ _ _ _ (dg2.stays ((by repeat (first | with_reducible exact Ext.refl _ | with_reducible apply Ext.and | with_reducible apply Ext.drewx | with_reducible apply Ext.alloc | with_reducible apply Ext.ext | with_reducible apply Ext.drew | with_reducible refine Ext.setCell ?_ (by simp) _)) : Ext _ _).below) (dg4.stays ((by repeat (first | with_reducible exact Ext.refl _ | with_reducible apply Ext.and | with_reducible apply Ext.drewx | with_reducible apply Ext.alloc | with_reducible apply Ext.ext | with_reducible apply Ext.drew | with_reducible refine Ext.setCell ?_ (by simp) _)) : Ext _ _).below) (eg2.stays ((by repeat (first | with_reducible exact Ext.refl _ | with_reducible apply Ext.and | with_reducible apply Ext.drewx | with_reducible apply Ext.alloc | with_reducible apply Ext.ext | with_reducible apply Ext.drew | with_reducible refine Ext.setCell ?_ (by simp) _)) : Ext _ _).below) (eg4.stays ((by repeat (first | with_reducible exact Ext.refl _ | with_reducible apply Ext.and | with_reducible apply Ext.drewx | with_reducible apply Ext.alloc | with_reducible apply Ext.ext | with_reducible apply Ext.drew | with_reducible refine Ext.setCell ?_ (by simp) _)) : Ext _ _).below) (HP.out.later (by repeat (first | with_reducible exact Ext.refl _ | with_reducible apply Ext.and | with_reducible apply Ext.drewx | with_reducible apply Ext.alloc | with_reducible apply Ext.ext | with_reducible apply Ext.drew | with_reducible refine Ext.setCell ?_ (by simp) _))))) | (go_at_call 83; first | with_reducible exact Calls.qb (by assumption) (compare_any _ _ _) | with_reducible exact Calls.q (compare_any _ _ _)) | (go_at_call 82; first | with_reducible exact Calls.qb (by assumption) (or2_any (routeC d e) (cmpI p q) _ _ _ (by simp [go_sem]) (by simp [go_sem])) | with_reducible exact Calls.q (or2_any (routeC d e) (cmpI p q) _ _ _ (by simp [go_sem]) (by simp [go_sem]))))) | (refine wpQuiet_split rfl rfl rfl rfl (fun hsp => ?_) (fun hsp => ?_); ((fail_if_success (cases hsp; done)); simp only [hsp]; (try first | have hsq : _ < _ := of_decide_eq_true hsp | have hsq : _ ≤ _ := of_decide_eq_true hsp | have hsq : ¬ _ < _ := of_decide_eq_false hsp | have hsq : ¬ _ ≤ _ := of_decide_eq_false hsp)); rotate_left; ((fail_if_success (cases hsp; done)); simp only [hsp]; (try first | have hsq : _ < _ := of_decide_eq_true hsp | have hsq : _ ≤ _ := of_decide_eq_true hsp | have hsq : ¬ _ < _ := of_decide_eq_false hsp | have hsq : ¬ _ ≤ _ := of_decide_eq_false hsp))))); (all_goals (refine wpQuiet_nil ?_; intro x))) | ((first | with_reducible refine wp_region_seqe (by kernel_rfl) (by kernel_rfl) ?_ | with_reducible refine wp_region_seqw (by kernel_rfl) (by kernel_rfl) ?_); (repeat' (first | ((with_reducible refine wpSeq_pure (by with_unfolding_all rfl) (fun Kq hKq => ?_)); (repeat' (first | go_big_quiet_step (fail) | (refine wpQuiet_split rfl rfl rfl rfl (fun hsp => ?_) (fun hsp => ?_); ((fail_if_success (cases hsp; done)); simp only [hsp]; (try first | have hsq : _ < _ := of_decide_eq_true hsp | have hsq : _ ≤ _ := of_decide_eq_true hsp | have hsq : ¬ _ < _ := of_decide_eq_false hsp | have hsq : ¬ _ ≤ _ := of_decide_eq_false hsp)); rotate_left; ((fail_if_success (cases hsp; done)); simp only [hsp]; (try first | have hsq : _ < _ := of_decide_eq_true hsp | have hsq : _ ≤ _ := of_decide_eq_true hsp | have hsq : ¬ _ < _ := of_decide_eq_false hsp | have hsq : ¬ _ ≤ _ := of_decide_eq_false hsp))))); (all_goals (refine wpQuiet_nil ?_; refine hKq _ ?_; clear hKq Kq))) | ((with_reducible refine wpSeq_act (by with_unfolding_all rfl) (fun Q' hQ' => ?_)); (go_wp2_with (first | (go_at_call 153; (with_reducible refine (iRouteCmp_any ea d e _ _ _ _ _ _ _ _ _ _ _ _ _ (dg2.stays ((by repeat (first | with_reducible exact Ext.refl _ | with_reducible apply Ext.and | with_reducible apply Ext.drewx | with_reducible apply Ext.alloc | with_reducible apply Ext.ext | with_reducible apply Ext.drew | with_reducible refine Ext.setCell ?_ (by simp) _)) : Ext _ _).below) (dg4.stays ((by repeat (first | with_reducible exact Ext.refl _ | with_reducible apply Ext.and | with_reducible apply Ext.drewx | with_reducible apply Ext.alloc | with_reducible apply Ext.ext | with_reducible apply Ext.drew | with_reducible refine Ext.setCell ?_ (by simp) _)) : Ext _ _).below) (eg2.stays ((by repeat (first | with_reducible exact Ext.refl _ | with_reducible apply Ext.and | with_reducible apply Ext.drewx | with_reducible apply Ext.alloc | with_reducible apply Ext.ext | with_reducible apply Ext.drew | with_reducible refine Ext.setCell ?_ (by simp) _)) : Ext _ _).below) (eg4.stays ((by repeat (first | with_reducible exact Ext.refl _ | with_reducible apply Ext.and | with_reducible apply Ext.drewx | with_reducible apply Ext.alloc | with_reducible apply Ext.ext | with_reducible apply Ext.drew | with_reducible refine Ext.setCell ?_ (by simp) _)) : Ext _ _).below) (HP.out.later (by repeat (first | with_reducible exact Ext.refl _ | with_reducible apply Ext.and | with_reducible apply Ext.drewx | with_reducible apply Ext.alloc | with_reducible apply Ext.ext | with_reducible apply Ext.drew | with_reducible refine Ext.setCell ?_ (by simp) _)))).mono ?_); rintro _ _ ⟨rfl, x, rfl⟩) | (go_at_call 83; (with_reducible refine (compare_any _ _ _).mono ?_); rintro _ _ ⟨rfl, x, rfl⟩) | (go_at_call 82; (with_reducible refine (or2_any (routeC d e) (cmpI p q) _ _ _ (by simp [go_sem]) (by simp [go_sem])).mono ?_); rintro _ _ ⟨rfl, x, rfl⟩))); (all_goals (refine hQ' _ _ rfl ?_ ?_; (change Ext _ _; exact (by repeat (first | with_reducible exact Ext.refl _ | with_reducible apply Ext.and | with_reducible apply Ext.drewx | with_reducible apply Ext.alloc | with_reducible apply Ext.ext | with_reducible apply Ext.drew | with_reducible refine Ext.setCell ?_ (by simp) _))); clear hQ' Q'))))); (all_goals ((with_reducible refine wpSeq_nil ?_)))))
  go_ret
  exact ⟨rfl, (by repeat (first | with_reducible exact Ext.refl _ | with_reducible apply Ext.and | with_reducible apply Ext.drewx | with_reducible apply Ext.alloc | with_reducible apply Ext.ext | with_reducible apply Ext.drew | with_reducible refine Ext.setCell ?_ (by simp) _))⟩
end Go.Proofs.YtlehcnfmagjilaaDoor
